/- Texts that the proof rests on, merged: Sfi, Sla, Hf0, Hf1, Sn0, Lits, Slv, R2r, R2b, R2p, R2c, R2o. -/
import Derived.Test.YtlmnpocifldpmaaGreatDoorKb10
import Derived.RangeFuncBox
import Derived.IntWalk
import Derived.Deep.RegionHeld3
set_option linter.unusedVariables false
set_option linter.unusedSimpArgs false
set_option linter.unusedSectionVars false
set_option maxRecDepth 100000
set_option maxHeartbeats 8000000
namespace Go.Proofs.YtlmnpocifldpmaaGreatDoor
open Go.RowKit
open Go.Shelf
open Go.Lib (decDigits nDigits)
attribute [local go_sem] Oper.semAt_some
theorem marks_ret {n : Nat} {P : Program} {fn : Func} {R : Ending → World → Prop} {tmps : Array Value} {W : World} {v : Value} (hv : (results fn tmps).run P W = .ok v W) (hR : R (.returned v) W) :
 bodyPostM Fence.wide n P fn R .ret { tmps := tmps, defers := [] } W := ⟨v, hv, hR⟩
theorem s_CloneI (w : World) (v : Value) (l : List Int) (hv : Row w v (zs l)) (h1 : 1 ≤ l.length) (hl : l.length ≤ 1000) :
 Calls Tryz.prog 47 #[v] w fun e w' => (∃ g cap, e = .returned (.slice (some ⟨g, 0, none⟩) l.length cap) ∧ w'.ownsRow w.heap.size 3 1 (.slice (some ⟨g, 0, none⟩) l.length cap) l.length (zs l)) ∧ Below w.heap.size w w' := by
 obtain ⟨a, c, rfl, q1, q2, q3⟩ := hv.openZ
 obtain ⟨i0, hi, hz0, hz1, hz2⟩ := info_parts info_intO
 obtain ⟨x0, hx0⟩ : ∃ x, l[0]? = some x := ⟨_, List.getElem?_eq_getElem (by omega)⟩
 obtain ⟨g, o, rfl, hg, -⟩ := q3 0 x0 hx0
 have hcell : ∀ j u, (zs l)[j]? = some u → w.cell? ⟨g, o + j, none⟩ = some u := fun j u hu => by
  obtain ⟨g', o', e, -, h⟩ := hv.at hu
  simp at e
  obtain ⟨rfl, rfl⟩ := e
  exact h
 have PC : Calls Tryz.prog 47 #[.slice (some ⟨g, o, none⟩) l.length c] w fun e w' => ∃ v', e = .returned v' ∧ w'.ownsRow w.heap.size 3 1 v' l.length (zs l) ∧ v' ≠ .slice none 0 0 ∧ RowKit.Below w.heap.size w w' :=
  AnyE.slices_Clone Tryz.cloneI i0 (.int .i64 0) 1 8 hi hz0 hz1 hz2 rfl (by decide) Tryz.sizeOf3 g o l.length c (zs l) w (by rw [zs_length, Nat.mul_one]) (by unfold maxLen; omega) (by omega) hcell (fun u hu => by
  unfold zs at hu
  obtain ⟨x, -, rfl⟩ := List.mem_map.1 hu
  rfl)
 refine PC.mono ?_
 rintro e w1 ⟨u, rfl, hown, -, hb1⟩
 refine ⟨?_, hb1⟩
 obtain ⟨m, hm⟩ : ∃ m, l.length = m + 1 := ⟨l.length - 1, by omega⟩
 rw [hm] at hown ⊢
 obtain ⟨g1, cap1, rfl⟩ := ownsRow_succ hown
 exact ⟨g1, cap1, rfl, hown⟩
theorem sp_First_bad (w : World) (v u : Value) (c : List Int) (thr : Int) (a r : ByteArray) (b : List ByteArray) (hv : Row w v (zs c)) (hu : Row w u (strs b)) (ha : a.size ≤ 100000) (hr : r.size ≤ 100000) (hb : ∀ x ∈ b, x.size ≤ 100000000) (hL : Lay w) (h0 : fsE c thr a r b ≠ 0) :
 Calls Tryz.prog 12 #[v, .int .i64 thr, .string a, .string r, u] w fun e w' => e = .returned (.tuple #[.int .i64 (fsA c thr a r b).1, .bool (fsA c thr a r b).2, .int .i64 (fsE c thr a r b)]) ∧ Below w.heap.size w w' := by
 have HQ := fun V hV hLV => hid (sp_question V v c thr a r hV ha hr hLV)
 have HW := fun V h => hid (sp_words V u b (IntKind.i64.wrap ((c.length : Int) + 1)) h hb)
 have HV := hid hv; have HU := hid hu; have HL := hid hL
 obtain ⟨s, cp, rfl, q1, q2, q3⟩ := hv.openZ
 obtain ⟨t, cq, rfl, p1, p2, p3⟩ := hu.openS
 have CO := fun V v h => hid (s_OrE V v [sqnE c thr a r, wdE b (IntKind.i64.wrap ((c.length : Int) + 1))] h)
 rw [orZ_two] at CO
 rw [show fsA c thr a r b = (0, false) from if_neg h0]
 have e1 : (if sqnE c thr a r ≠ 0 then sqnE c thr a r else wdE b (IntKind.i64.wrap ((c.length : Int) + 1))) = fsE c thr a r b := by
  unfold fsE
  by_cases h : sqnE c thr a r = 0
  ·rw [if_neg (by simpa using h), if_neg (by simpa using h)]
   obtain ⟨-, k2, -⟩ := sqnE_q h
   rw [IntWalk.i64_in _ ⟨by omega, by omega⟩]
   congr 1
  ·rw [if_pos h, if_pos h]
 rw [e1] at CO
 obtain ⟨z, hz⟩ : ∃ z, fsE c thr a r b = z := ⟨_, rfl⟩
 obtain ⟨qe, hqe⟩ : ∃ z, sqnE c thr a r = z := ⟨_, rfl⟩
 obtain ⟨K, hK⟩ : ∃ z, IntKind.i64.wrap ((c.length : Int) + 1) = z := ⟨_, rfl⟩
 simp only [hK] at HW
 rw [hK] at CO
 obtain ⟨we, hwe⟩ : ∃ z, wdE b K = z := ⟨_, rfl⟩
 obtain ⟨n, hn⟩ : ∃ n, c.length = n := ⟨_, rfl⟩
 obtain ⟨n2, hn2⟩ : ∃ n, b.length = n := ⟨_, rfl⟩
 rw [hz, hqe, hwe] at CO
 rw [hz] at h0 ⊢
 simp only [hqe] at HQ
 simp only [hwe] at HW
 rw [hn] at HV q1 ⊢
 simp only [hn] at HQ HW
 simp only [hn2] at HW
 rw [hn2] at HU p1 ⊢
 have t0 : (z != 0) = true := by simpa using h0
 have t0' : (z == 0) = false := by simpa using h0
 rw [hn] at hK
 have A3 := hid ((((Below.refl w.heap.size w).alloc (Nat.le_refl _) (.cells #[.int .i64 0] 3)).alloc (by simp) (.cells #[.bool false] 4)).alloc (by simp <;> omega) (.cells #[.int .i64 0] 27))
 have X0 := hid (((Blk.new w #[.int .i64 0] 3).alloc (.cells #[.bool false] 4)).alloc (.cells #[.int .i64 0] 27))
 have X1 := hid ((Blk.made (w.alloc (.cells #[.int .i64 0] 3)) #[.bool false] 4 (n := w.heap.size + 1) (by simp)).alloc (.cells #[.int .i64 0] 27))
 have X2 := hid (Blk.made ((w.alloc (.cells #[.int .i64 0] 3)).alloc (.cells #[.bool false] 4)) #[.int .i64 0] 27 (n := w.heap.size + 1 + 1) (by simp))
 clear hv hu q3 p3 hz hn hn2 h0 hqe hwe e1 ha hr hb hL
 go_enter Tryz.func12, Tryz.ntmps12
 go_wp2_with fail
 refine (HQ _ (HV.out.call A3.out) (HL.out.call A3.out)).out.mono ?_; rintro e w1 ⟨rfl, hb1⟩
 have y1 := hid (bnext A3.out hb1)
 have X0 := hid (X0.out.call hb1); have X1 := hid (X1.out.call hb1); have X2 := hid (X2.out.call hb1)
 clear hb1
 go_wp2_with fail
 refine (HW _ (HU.out.call y1.out)).out.mono ?_; rintro e w2 ⟨rfl, hb2⟩
 have y2 := hid (bnext y1.out hb2)
 have X0 := hid (X0.out.call hb2); have X1 := hid (X1.out.call hb2); have X2 := hid (X2.out.call hb2)
 clear hb2
 go_wp2_with fail
 refine (CO _ _ (row_two _ _ _ _)).out.mono ?_; rintro e w3 ⟨rfl, rfl⟩
 have y3 := hid (y2.out.alloc y2.out.size (.cells #[.int .i64 qe, .int .i64 we] 27))
 have Y0 := hid (X0.out.alloc (.cells #[.int .i64 qe, .int .i64 we] 27))
 have Y1 := hid (X1.out.alloc (.cells #[.int .i64 qe, .int .i64 we] 27))
 have Y2 := hid (X2.out.alloc (.cells #[.int .i64 qe, .int .i64 we] 27))
 obtain ⟨W, hW⟩ : ∃ W, w2.alloc (.cells #[.int .i64 qe, .int .i64 we] 27) = W := ⟨_, rfl⟩
 rw [hW] at y3 Y0 Y1 Y2 ⊢
 clear hW
 have c0 := Y0.out.cell 0
 have c1 := Y1.out.cell 0
 have c2 := Y2.out.cell 0
 have f0 := Y0.out.free 0
 have f1 := Y1.out.free 0
 have f2 := Y2.out.free 0
 simp at c0 c1 c2
 go_wp2_with fail
 have p0 := (((Y0.out.set 0 (.int .i64 0)).other (a := ⟨w.heap.size + 1, 0, none⟩) (by simp) (.bool false)).other (a := ⟨w.heap.size + 1 + 1, 0, none⟩) (by simp <;> omega) (.int .i64 z)).cell 0
 have p1 := (((Y1.out.other (a := ⟨w.heap.size, 0, none⟩) (by simp) (.int .i64 0)).set 0 (.bool false)).other (a := ⟨w.heap.size + 1 + 1, 0, none⟩) (by simp) (.int .i64 z)).cell 0
 have p2 := (((Y2.out.other (a := ⟨w.heap.size, 0, none⟩) (by simp <;> omega) (.int .i64 0)).other (a := ⟨w.heap.size + 1, 0, none⟩) (by simp) (.bool false)).set 0 (.int .i64 z)).cell 0
 simp at p0 p1 p2
 refine bodyPost_ret (v := .tuple #[.int .i64 0, .bool false, .int .i64 z]) (by simp [results, Tryz.results12, go_sem, p0, p1, p2]) rfl ⟨rfl, ?_⟩
 exact ((y3.out.setCell (by simp) _).setCell (by simp) _).setCell (by simp <;> omega) _
theorem zs_setS (l : List Int) (i : Nat) (x : Int) : (zs l).set i (.int .i64 x) = zs (l.set i x) := by simp [zs, List.map_set]
structure FsI (G g9 cap : Nat) (w B : World) (N D1 : Nat) (r : ByteArray) (c : List Int) (bs : List ByteArray) (d0 : Bool) (xd : Value × Value × Value) (i k : Nat) (W : World) : Prop where
 r0 : Blk W G #[.int .i64 0] 3
 r1 : Blk W (G + 1) #[.bool (d0 && dnL r (bs.take i))] 4
 r2 : Blk W (G + 1 + 1) #[.int .i64 0] 27
 own : W.ownsRow B.heap.size 3 1 (.slice (some ⟨g9, 0, none⟩) N cap) N (zs (nzP r c bs k))
 x : Blk W D1 #[xd.1, xd.2.1, xd.2.2] 82
 bel : Below w.heap.size w W
 big : B.heap.size ≤ W.heap.size
theorem FsI.call {G g9 cap : Nat} {w B : World} {N D1 : Nat} {r : ByteArray} {c : List Int} {bs : List ByteArray} {d0 : Bool} {xd : Value × Value × Value} {i k : Nat} {W W' : World} (h : FsI G g9 cap w B N D1 r c bs d0 xd i k W) (hb : Below W.heap.size W W') : FsI G g9 cap w B N D1 r c bs d0 xd i k W' :=
 ⟨h.r0.call hb, h.r1.call hb, h.r2.call hb, owns_call h.own hb, h.x.call hb, bnext h.bel hb, Nat.le_trans h.big hb.size⟩
theorem FsI.set9 {G g9 cap : Nat} {w B : World} {N D1 : Nat} {r : ByteArray} {c : List Int} {bs : List ByteArray} {d0 : Bool} {xd : Value × Value × Value} {i k : Nat} {W : World} (h : FsI G g9 cap w B N D1 r c bs d0 xd i k W) (y : Int) (he : (nzP r c bs k).set k y = nzP r c bs (k + 1)) (hw : w.heap.size ≤ G) (hG : G + 1 + 1 < B.heap.size) (hD : D1 < B.heap.size) :
 FsI G g9 cap w B N D1 r c bs d0 xd i (k + 1) (W.setCell ⟨g9, k, none⟩ (.int .i64 y)) := by
 have hg : B.heap.size ≤ g9 := (h.own.lt g9 rfl).1
 refine ⟨h.r0.other (by simp; omega) _, h.r1.other (by simp; omega) _, h.r2.other (by simp; omega) _, ?_, h.x.other (by simp; omega) _, h.bel.setCell (by simp; omega) _, by rw [World.size_setCell]; exact h.big⟩
 have := own_set h.own k (.int .i64 y)
 rw [zs_setS, he] at this
 exact this
theorem FsI.set1 {G g9 cap : Nat} {w B : World} {N D1 : Nat} {r : ByteArray} {c : List Int} {bs : List ByteArray} {d0 : Bool} {xd : Value × Value × Value} {i k : Nat} {W : World} (h : FsI G g9 cap w B N D1 r c bs d0 xd i k W) (q : Bool) (he : (d0 && dnL r (bs.take (i + 1))) = q) (hw : w.heap.size ≤ G) (hG : G + 1 + 1 < B.heap.size) (hD : G + 1 + 1 < D1) :
 FsI G g9 cap w B N D1 r c bs d0 xd (i + 1) k (W.setCell ⟨G + 1, 0, none⟩ (.bool q)) := by
 refine ⟨h.r0.other (by simp) _, ?_, h.r2.other (by simp) _, ownsRow_setCell_below h.own (by simp; omega) _, h.x.other (by simp; omega) _, h.bel.setCell (by simp; omega) _, by rw [World.size_setCell]; exact h.big⟩
 have := h.r1.set 0 (.bool q)
 rw [he]
 simpa using this
theorem sp_First_ok (w : World) (v u : Value) (c : List Int) (thr : Int) (a r : ByteArray) (b0 : ByteArray) (bs : List ByteArray) (hv : Row w v (zs c)) (hu : Row w u (strs (b0 :: bs))) (ha : a.size ≤ 100000) (hr : r.size ≤ 100000) (hb : ∀ x ∈ b0 :: bs, x.size ≤ 100000000) (hL : Lay w) (h0 : fsE c thr a r (b0 :: bs) = 0) :
 Calls Tryz.prog 12 #[v, .int .i64 thr, .string a, .string r, u] w fun e w' => e = .returned (.tuple #[.int .i64 (fsA c thr a r (b0 :: bs)).1, .bool (fsA c thr a r (b0 :: bs)).2, .int .i64 0]) ∧ Below w.heap.size w w' := by
 have OK := fsE_ok h0
 have hbl : bs.length = c.length := by have := OK.len; rw [List.length_cons] at this; omega
 have HQ := fun V hV hLV => hid (sp_question V v c thr a r hV ha hr hLV)
 have HW := fun V h => hid (sp_words V u (b0 :: bs) ((c.length + 1 : Nat) : Int) h hb)
 have hq0 : sqnE c thr a r = 0 := by
  unfold fsE at h0
  split at h0
  ·rename_i h1; exact absurd h0 h1
  ·rename_i h1; exact Classical.byContradiction h1
 have hw0 : wdE (b0 :: bs) ((c.length + 1 : Nat) : Int) = 0 := by
  unfold fsE at h0
  rw [if_neg (by simpa using hq0)] at h0
  exact h0
 have CO := fun V v h => hid (s_OrE V v [0, 0] h)
 rw [orZ_two, if_neg (by simp)] at CO
 simp only [hq0] at HQ
 simp only [hw0] at HW
 rw [fs_two h0]
 have HV := hid hv; have HU := hid hu; have HL := hid hL
 obtain ⟨s, cp, rfl, q1, q2, q3⟩ := hv.openZ
 obtain ⟨t, cq, rfl, p1, p2, p3⟩ := hu.openS
 have hsz0 := chk_size (OK.b b0 (List.mem_cons_self ..))
 have hszs : ∀ x ∈ bs, x.size ≤ 256 := fun x hx => chk_size (OK.b x (List.mem_cons_of_mem _ hx))
 have PT := fun V hV => hid (g_Two V a b0 ha (by omega) hV)
 have PN := fun V x (hx : x ∈ bs) hV => hid (g_Two V r x hr (by have := hszs x hx; omega) hV)
 have hv0 := wT_bound a b0 hsz0
 have HRG := hid (nzL_rng (r := r) OK.rng hszs)
 have HSZ := hid hszs
 have HOK := hid OK; have HBL := hid hbl
 obtain ⟨z, hz⟩ : ∃ z, (if ((wT a b0).1 && dnL r bs) = true then fsV c.length (some (hitI (thr + (wT a b0).2.1) (nzL r c bs))) else (0, false)) = z := ⟨_, rfl⟩
 have HZ := hid hz
 rw [hz]
 obtain ⟨T, hT⟩ : ∃ T, wT a b0 = T := ⟨_, rfl⟩
 obtain ⟨ge, hge⟩ : ∃ y, gE a b0 = y := ⟨_, rfl⟩
 rw [hT] at HZ hv0
 simp only [hT, hge] at PT
 obtain ⟨d0, v0, u0⟩ := T
 simp only [d3] at PT
 dsimp only at HZ hv0
 obtain ⟨gb, ob, rfl, hgb, hcb⟩ := p3 0 b0 rfl
 rw [Nat.add_zero] at hcb
 obtain ⟨n, hn⟩ : ∃ n, c.length = n := ⟨_, rfl⟩
 have HN := hid hn
 have hn2 : (b0 :: bs).length = n + 1 := by rw [List.length_cons, hbl, hn]
 have PCL := fun V hV => hid (s_CloneI V (.slice s c.length cp) c hV OK.pos (by have := OK.le; omega))
 rw [hn] at HV q1 HZ ⊢
 simp only [hn] at HQ HW PCL
 simp only [hn2] at HW
 rw [hn2] at HU p1 ⊢
 have hn256 : n ≤ 256 := by have := OK.le; omega
 have hn1 : 1 ≤ n := by have := OK.pos; omega
 have HN1 := hid hn1; have HN256 := hid hn256
 have HTH := hid OK.thr
 have HV0 := hid hv0
 have wn : IntKind.i64.wrap ((n : Int) + 1) = ((n + 1 : Nat) : Int) := by rw [IntWalk.i64_in _ ⟨by omega, by omega⟩]; omega
 have A3 := hid ((((Below.refl w.heap.size w).alloc (Nat.le_refl _) (.cells #[.int .i64 0] 3)).alloc (by simp) (.cells #[.bool false] 4)).alloc (by simp <;> omega) (.cells #[.int .i64 0] 27))
 have X0 := hid (((Blk.new w #[.int .i64 0] 3).alloc (.cells #[.bool false] 4)).alloc (.cells #[.int .i64 0] 27))
 have X1 := hid ((Blk.made (w.alloc (.cells #[.int .i64 0] 3)) #[.bool false] 4 (n := w.heap.size + 1) (by simp)).alloc (.cells #[.int .i64 0] 27))
 have X2 := hid (Blk.made ((w.alloc (.cells #[.int .i64 0] 3)).alloc (.cells #[.bool false] 4)) #[.int .i64 0] 27 (n := w.heap.size + 1 + 1) (by simp))
 have HGB := hid hgb; have HCB := hid hcb; have P3 := hid p3
 clear hv hu q3 p3 hz hn hn2 h0 hq0 hw0 hT hge ha hr hb hL OK hbl hszs hsz0 hv0 hgb hcb hn256 hn1
 refine (callsIn_wide (n := 9)).1 ?_
 refine callsIn_of_wp_marks Tryz.func12 rfl trivial ?_ rfl
 simp only [Tryz.ntmps12, List.size_toArray, List.length_cons, List.length_nil, Nat.reduceAdd, Nat.reduceSub, Array.replicate_succ, Array.replicate_zero, List.push_toArray, List.append_toArray, List.nil_append, List.cons_append]
 gi_wp2_with fail
 refine ⟨trivial, ?_⟩
 refine (callsIn_wide.2 (HQ _ (HV.out.call A3.out) (HL.out.call A3.out)).out).mono ?_; rintro e w1 ⟨rfl, hb1⟩
 have y1 := hid (bnext A3.out hb1)
 have X0 := hid (X0.out.call hb1); have X1 := hid (X1.out.call hb1); have X2 := hid (X2.out.call hb1)
 clear hb1
 gi_wp2_with fail
 refine ⟨trivial, ?_⟩
 refine (callsIn_wide.2 (HW _ (HU.out.call y1.out)).out).mono ?_; rintro e w2 ⟨rfl, hb2⟩
 have y2 := hid (bnext y1.out hb2)
 have X0 := hid (X0.out.call hb2); have X1 := hid (X1.out.call hb2); have X2 := hid (X2.out.call hb2)
 clear hb2
 gi_wp2_with fail
 refine ⟨trivial, ?_⟩
 refine (callsIn_wide.2 (CO _ _ (row_two _ _ _ _)).out).mono ?_; rintro e w3 ⟨rfl, rfl⟩
 have y3 := hid (y2.out.alloc y2.out.size (.cells #[.int .i64 0, .int .i64 0] 27))
 have X0 := hid (X0.out.alloc (.cells #[.int .i64 0, .int .i64 0] 27))
 have X1 := hid (X1.out.alloc (.cells #[.int .i64 0, .int .i64 0] 27))
 have X2 := hid (X2.out.alloc (.cells #[.int .i64 0, .int .i64 0] 27))
 obtain ⟨w3, hw3⟩ : ∃ W, w2.alloc (.cells #[.int .i64 0, .int .i64 0] 27) = W := ⟨_, rfl⟩
 rw [hw3] at y3 X0 X1 X2 ⊢
 clear hw3
 have c3 := (y3.out.cell (p := ⟨gb, ob, none⟩) HGB.out).trans HCB.out
 have b1 : (0 : Int) < (n : Int) + 1 := by omega
 gi_wp2_with fail
 refine ⟨trivial, ?_⟩
 refine (callsIn_wide.2 (PT _ (HL.out.call y3.out)).out).mono ?_; rintro e w4 ⟨rfl, hb4⟩
 have y4 := hid (bnext y3.out hb4)
 have X2l := hid ((X2.out.call hb4).lt)
 have X0 := hid ((X0.out.call hb4).alloc (.cells #[.bool d0, .int .i64 v0, .int .i64 u0] 82))
 have X1 := hid ((X1.out.call hb4).alloc (.cells #[.bool d0, .int .i64 v0, .int .i64 u0] 82))
 have X2 := hid ((X2.out.call hb4).alloc (.cells #[.bool d0, .int .i64 v0, .int .i64 u0] 82))
 have XD := hid (Blk.new w4 #[.bool d0, .int .i64 v0, .int .i64 u0] 82)
 have y5 := hid (y4.out.alloc y4.out.size (.cells #[.bool d0, .int .i64 v0, .int .i64 u0] 82))
 have lt4 := hid X0.out.lt; have lt4' := hid X1.out.lt; have lt4b := hid X2.out.lt
 have k1 := X1.out.cell 0
 have k2 := X1.out.free 0
 simp at k1
 clear hb4 c3 b1
 gi_wp2_with fail
 obtain ⟨D1, hD1⟩ : ∃ G, w4.heap.size = G := ⟨_, rfl⟩
 rw [hD1] at XD X2l ⊢
 have B6 := hid (y5.out.setCell (p := ⟨w.heap.size + 1, 0, none⟩) (Nat.le_succ _) (.bool d0))
 have Z0 := hid (X0.out.other (a := ⟨w.heap.size + 1, 0, none⟩) (by simp) (.bool d0))
 have Z1 := hid (X1.out.set 0 (.bool d0))
 have Z2 := hid (X2.out.other (a := ⟨w.heap.size + 1, 0, none⟩) (by simp) (.bool d0))
 have ZD := hid (XD.out.other (a := ⟨w.heap.size + 1, 0, none⟩) (by have := X2l.out; simp; omega) (.bool d0))
 obtain ⟨W6, hW6⟩ : ∃ W, (w4.alloc (.cells #[.bool d0, .int .i64 v0, .int .i64 u0] 82)).setCell ⟨w.heap.size + 1, 0, none⟩ (.bool d0) = W := ⟨_, rfl⟩
 rw [hW6] at B6 Z0 Z1 Z2 ZD ⊢
 clear hW6 X0 X1 X2 XD k1 k2 hD1
 refine ⟨trivial, ?_⟩
 refine (callsIn_wide.2 (PCL _ (HV.out.call B6.out)).out).mono ?_; rintro e w7 ⟨⟨g9, cap, rfl, hown⟩, hb7⟩
 have F0 : Hid (FsI w.heap.size g9 cap w W6 n D1 r c bs d0 (.bool d0, .int .i64 v0, .int .i64 u0) 0 0 w7) := by
  refine ⟨Z0.out.call hb7, ?_, Z2.out.call hb7, ?_, ZD.out.call hb7, bnext B6.out hb7, hb7.size⟩
  ·have h := Z1.out.call hb7
   rw [List.take_zero]
   show Blk _ _ #[.bool (d0 && true)] _
   rw [Bool.and_true]
   simpa using h
  ·rw [nzP_zero]; exact hown
 have l26 := hid Z2.out.lt; have lD6 := hid ZD.out.lt
 clear hb7 hown Z0 Z1 Z2 ZD
 gi_wp2_with fail
 gi_loopw [17, 18, 19, 51] (fun s17 s18 s19 s51 wr => ∃ i : Nat, s51 = .int .i64 (i : Nat) ∧ i ≤ n ∧ Hid (FsI w.heap.size g9 cap w W6 n D1 r c bs d0 (.bool d0, .int .i64 v0, .int .i64 u0) i i wr)) (fun s17 s18 s19 s51 wr => n - (intOf s51).toNat)
 case atStart => exact ⟨0, rfl, Nat.zero_le _, F0⟩
 case round =>
  clear F0
  obtain ⟨i, rfl, hi', hI⟩ := hrel
  by_cases hlt : i < n
  ·obtain ⟨x, hx⟩ : ∃ x, c[i]? = some x := ⟨_, List.getElem?_eq_getElem (by rw [HN.out]; exact hlt)⟩
   obtain ⟨bi, hbi⟩ : ∃ x, bs[i]? = some x := ⟨_, List.getElem?_eq_getElem (by rw [HBL.out, HN.out]; exact hlt)⟩
   obtain ⟨gb2, ob2, e2, -, hc2⟩ := P3.out (i + 1) bi (by rw [List.getElem?_cons_succ]; exact hbi)
   simp only [Option.some.injEq, Addr.mk.injEq, and_true] at e2
   obtain ⟨rfl, rfl⟩ := e2
   have c1 := (hI.out.bel.cell (p := ⟨gb, ob + (i + 1), none⟩) HGB.out).trans hc2
   have hn256 := HN256.out
   have f0 : (0 : Int) ≤ (i : Int) := by omega
   have f1 : (i : Int) < (n : Int) := by omega
   have g0 : (0 : Int) ≤ ((i + 1 : Nat) : Int) := by omega
   have g1 : ((i + 1 : Nat) : Int) < (n : Int) + 1 := by omega
   have g2 : ((i + 1 : Nat) : Int) < ((n + 1 : Nat) : Int) := by omega
   have wi : IntKind.i64.wrap ((i : Int) + 1) = ((i + 1 : Nat) : Int) := by rw [IntWalk.i64_in _ ⟨by omega, by omega⟩]; omega
   have PNi := fun V hV => PN V bi (List.mem_of_getElem? hbi) hV
   have hvb := wT_bound r bi (HSZ.out bi (List.mem_of_getElem? hbi))
   have hxr := HOK.out.rng x (List.mem_of_getElem? hx)
   have hdn := dnL_take (r := r) hbi
   have hnx := nzP_next (r := r) HBL.out hx hbi
   have hat := nzP_at (r := r) HBL.out hx
   obtain ⟨T, hT⟩ : ∃ T, wT r bi = T := ⟨_, rfl⟩
   obtain ⟨ge2, hge2⟩ : ∃ y, gE r bi = y := ⟨_, rfl⟩
   simp only [hT, hge2] at PNi
   rw [hT] at hvb hdn hnx
   obtain ⟨d, v1, u1⟩ := T
   simp only [d3] at PNi
   dsimp only at hvb hdn hnx
   have wx : IntKind.i64.wrap (x + v1) = x + v1 := by rw [IntWalk.i64_in _ ⟨by omega, by omega⟩]
   have HDN := hid hdn; have HNX := hid hnx; have HAT := hid hat; have HLT := hid hlt
   clear hx hbi hc2 hvb hxr hdn hnx hat hT hge2 hi' hlt hn256
   gi_wp2_with fail
   refine ⟨trivial, ?_⟩
   refine (callsIn_wide.2 (PNi _ (HL.out.call hI.out.bel)).out).mono ?_; rintro e w8 ⟨rfl, hb8⟩
   have I8 := hid ((hI.out.call hb8).call ((Below.refl w8.heap.size w8).alloc (Nat.le_refl _) (.cells #[.bool d, .int .i64 v1, .int .i64 u1] 82)))
   have XB := hid (Blk.new w8 #[.bool d, .int .i64 v1, .int .i64 u1] 82)
   have lt8 := hid (show w8.heap.size > g9 ∧ w8.heap.size > w.heap.size + 1 from ⟨(own_slot (owns_call hI.out.own hb8)).2.1, ((hI.out.call hb8).r1).lt⟩)
   clear hb8 c1
   obtain ⟨o1, o2, o3, o4, -, -, -⟩ := own_slot I8.out.own
   have m0 := o4 i _ (zs_get HAT.out)
   have m1 := o3 i
   have m2 := XB.out.cell 1
   have m3 := XB.out.cell 0
   simp at m2 m3
   have O1 := hid o1
   clear o1 o2 o3 o4
   have ne1 : (g9 = w8.heap.size) = False := eq_false (by have := lt8.out; omega)
   have ne2 : (w8.heap.size = g9) = False := eq_false (by have := lt8.out; omega)
   gi_wp2_with fail
   gi_region
   have J9 := hid ((I8.out.set9 (x + v1) HNX.out (Nat.le_refl _) l26.out lD6.out).call (Below.refl _ _).drew)
   have XB9 := hid ((XB.out.other (a := ⟨g9, i, none⟩) (by have := lt8.out; simp; omega) (.int .i64 (x + v1))).call (Below.refl _ _).drew)
   obtain ⟨w9, hw9⟩ : ∃ W, ((w8.alloc (.cells #[.bool d, .int .i64 v1, .int .i64 u1] 82)).setCell ⟨g9, i, none⟩ (.int .i64 (x + v1))).drew = W := ⟨_, rfl⟩
   rw [hw9] at J9 XB9 ⊢
   clear hw9 m0 m1 m2 m3 ne1 ne2
   obtain ⟨q, hq⟩ : ∃ q, (d0 && dnL r (bs.take i)) = q := ⟨_, rfl⟩
   have m0 := J9.out.r1.cell 0
   have m1 := J9.out.r1.free 0
   have m3 := XB9.out.cell 0
   simp at m0 m3
   rw [hq] at m0
   have HQ2 : Hid ((d0 && dnL r (bs.take (i + 1))) = (q && d)) := by
    show _ = _
    rw [HDN.out, ← Bool.and_assoc, hq]
   clear hq
   cases q
   ·gi_wp2_with fail
    go_roundw
    case rel => exact ⟨i + 1, by go_num, HLT.out, J9.out.set1 false HQ2.out (Nat.le_refl _) l26.out X2l.out⟩
    case measure => simp [intOf] <;> (have := HLT.out; omega)
   ·gi_wp2_with fail
    go_roundw
    case rel => exact ⟨i + 1, by go_num, HLT.out, J9.out.set1 d (HQ2.out.trans (Bool.true_and d)) (Nat.le_refl _) l26.out X2l.out⟩
    case measure => simp [intOf] <;> (have := HLT.out; omega)
  ·obtain rfl : i = n := by omega
   have hnl : bs.take i = bs := List.take_of_length_le (by rw [HBL.out, HN.out]; exact Nat.le_refl _)
   have hI1 := hI.out.r1
   rw [hnl] at hI1
   have hne : nzP r c bs i = nzL r c bs := by rw [← HN.out]; exact nzP_end HBL.out
   have hrow : Row wr (.slice (some ⟨g9, 0, none⟩) i cap) (zs (nzL r c bs)) := by rw [← hne]; exact Row.of_owns hI.out.own
   have HROW := hid hrow
   obtain ⟨q, hq⟩ : ∃ q, (d0 && dnL r bs) = q := ⟨_, rfl⟩
   rw [hq] at hI1
   have HZ2 := HZ.out
   rw [hq] at HZ2
   have e0 := hI1.cell 0
   have e1 := hI1.free 0
   have e2 := hI.out.r0.cell 0
   have e3 := hI.out.r0.free 0
   have e4 := hI.out.r2.cell 0
   have e5 := hI.out.r2.free 0
   simp at e0 e2 e4
   have q1 : decide ((i : Int) < (i : Int)) = false := by simp
   have HI1 := hid hI1
   clear hlt hi' hnl hne hrow hq hI1
   cases q
   ·have hz : z = (0, false) := by rw [← HZ2]; rfl
    have HZZ := hid hz
    clear HZ2 hz
    gi_wp2_with fail
    have p0 := (((hI.out.r0.set 0 (.int .i64 0)).other (a := ⟨w.heap.size + 1, 0, none⟩) (by simp) (.bool false)).other (a := ⟨w.heap.size + 1 + 1, 0, none⟩) (by simp <;> omega) (.int .i64 0)).cell 0
    have p1 := (((HI1.out.other (a := ⟨w.heap.size, 0, none⟩) (by simp) (.int .i64 0)).set 0 (.bool false)).other (a := ⟨w.heap.size + 1 + 1, 0, none⟩) (by simp) (.int .i64 0)).cell 0
    have p2 := (((hI.out.r2.other (a := ⟨w.heap.size, 0, none⟩) (by simp <;> omega) (.int .i64 0)).other (a := ⟨w.heap.size + 1, 0, none⟩) (by simp) (.bool false)).set 0 (.int .i64 0)).cell 0
    simp at p0 p1 p2
    refine marks_ret (v := .tuple #[.int .i64 0, .bool false, .int .i64 0]) (by simp [results, Tryz.results12, go_sem, p0, p1, p2]) ⟨by rw [HZZ.out], ?_⟩
    exact ((hI.out.bel.setCell (by simp) _).setCell (by simp) _).setCell (by simp <;> omega) _
   ·have hz : z = fsV i (some (hitI (thr + v0) (nzL r c bs))) := by rw [← HZ2]; rfl
    have HZZ := hid hz
    have x1 := hI.out.x.cell 1
    simp at x1
    have wt : IntKind.i64.wrap (thr + v0) = thr + v0 := by have := HTH.out; have := HV0.out; rw [IntWalk.i64_in _ ⟨by omega, by omega⟩]
    have hln : (nzL r c bs).length = i := by rw [nzL_length HBL.out, HN.out]
    have HLN := hid hln
    clear HZ2 hz q1 hln
    gi_wp2_with fail
    refine ⟨trivial, ?_⟩
    refine (callsIn_wide.2 (sp_hits _ _ _ _ _)).mono ?_; rintro e w' ⟨rfl, rfl⟩
    gi_wp2_with fail
    obtain ⟨W0, hW0⟩ : ∃ W0, (wr.alloc (.cells #[.slice (some ⟨g9, 0, none⟩) i cap] 24)).alloc (.cells #[.int .i64 (thr + v0)] 3) = W0 := ⟨_, rfl⟩
    have d0 : Below wr.heap.size wr W0 := by rw [← hW0]; exact ((Below.refl _ _).alloc (Nat.le_refl _) _).alloc (by simp) _
    have d1 : Blk W0 wr.heap.size #[.slice (some ⟨g9, 0, none⟩) i cap] 24 := by rw [← hW0]; exact (Blk.new wr _ _).alloc _
    have d2 : Blk W0 (wr.heap.size + 1) #[.int .i64 (thr + v0)] 3 := by rw [← hW0]; exact Blk.made _ _ _ (by simp)
    rw [hW0]
    have E0 := hid (hI.out.r0.call d0); have E1 := hid (HI1.out.call d0); have E2 := hid (hI.out.r2.call d0); have B0 := hid (bnext hI.out.bel d0)
    have RW := hid (HROW.out.call d0)
    have Y1 := hid d1; have Y2 := hid d2
    obtain ⟨B, hB⟩ : ∃ B, wr.heap.size = B := ⟨_, rfl⟩
    rw [hB] at Y1 Y2 ⊢
    obtain ⟨hh, hhh⟩ : ∃ h, hitI (thr + v0) (nzL r c bs) = h := ⟨_, rfl⟩
    rw [hhh] at HZZ
    have HHH := hid hhh
    have LG := hid E2.out.lt
    clear d0 d1 d2 hW0 hB hhh e0 e1 e2 e3 e4 e5 x1 wt
    have hread : ∀ W1 W2, Below W0.heap.size W0 W1 → KpC W0.heap.size W1 W2 → W2.cell? ⟨B, 0, none⟩ = some (.slice (some ⟨g9, 0, none⟩) i cap) ∧ W2.cell? ⟨B + 1, 0, none⟩ = some (.int .i64 (thr + v0)) ∧ Row W2 (.slice (some ⟨g9, 0, none⟩) i cap) (zs (nzL r c bs)) := fun W1 W2 b1 b2 => by
     have b3 : Below W0.heap.size W0 W2 := b1.trans (b2.rest b1.size)
     exact ⟨(Y1.out.call b3).cell 0, (Y2.out.call b3).cell 0, RW.out.call b3⟩
    refine range_ok (by omega) (gf := 105) (lb := #[.pointer (some ⟨B, 0, none⟩), .pointer (some ⟨B + 1, 0, none⟩)]) rfl (enters_of Tryz.func105 (by kernel_rfl) rfl)
     (hits_feeds (Kp := KpC W0.heap.size) 8 (by omega) W0 B (B + 1) (.slice (some ⟨g9, 0, none⟩) i cap) (nzL r c bs) (thr + v0) (by rw [HLN.out]; exact HN256.out) (KpC.refl _) KpC.trans hread (fun _ _ => KpC.of_below)) KpC.trans (KpC.put (Nat.le_refl _)) (Below.refl _ _) (fun _ => rfl)
     (fun p W => (p = [] ∧ Blk W w.heap.size #[.int .i64 0] 3 ∧ Blk W (w.heap.size + 1) #[.bool true] 4 ∧ Blk W (w.heap.size + 1 + 1) #[.int .i64 0] 27) ∧ Below w.heap.size w W)
     (fun c p W => (c = .ret ∧ hh < i ∧ Blk W w.heap.size #[.int .i64 (hh : Nat)] 3 ∧ Blk W (w.heap.size + 1) #[.bool true] 4 ∧ Blk W (w.heap.size + 1 + 1) #[.int .i64 0] 27) ∧ Below w.heap.size w W)
     (OwnFrom.and (fun s X Y row hs hg hr => ⟨hs.1, hs.2.1.kept hg (fun r e => (hr r e).2), hs.2.2.1.kept hg (fun r e => (hr r e).2), hs.2.2.2.kept hg (fun r e => (hr r e).2)⟩) (ownFrom_below (Nat.le_refl _) (by have := LG.out; omega)))
     (fun c => OwnFrom.and (fun s X Y row hs hg hr => ⟨hs.1, hs.2.1, hs.2.2.1.kept hg (fun r e => (hr r e).2), hs.2.2.2.1.kept hg (fun r e => (hr r e).2), hs.2.2.2.2.kept hg (fun r e => (hr r e).2)⟩) (ownFrom_below (Nat.le_refl _) (by have := LG.out; omega)))
     ⟨⟨rfl, E0.out, E1.out, E2.out⟩, B0.out⟩ ?act ?assign ?body ?done ?stop
    case assign =>
     intro l x W K hK
     gi_wp2
     exact hK
    case body =>
     rintro l p x W hOk ⟨⟨rfl, r0, r1, r2⟩, hB⟩
     obtain ⟨hx, hlt⟩ := hOk rfl
     rw [HHH.out] at hx hlt
     rw [HLN.out] at hlt
     subst hx
     have e0 := r0.cell 0
     have e1 := r0.free 0
     have e2 := r1.cell 0
     have e3 := r1.free 0
     have e4 := r2.cell 0
     have e5 := r2.free 0
     simp at e0 e2 e4
     have R0 := hid r0; have R1 := hid r1; have R2 := hid r2; have HB2 := hid hB; have HLT := hid hlt
     clear r0 r1 r2 hB hlt hOk
     gi_wp2_with fail
     refine ⟨(((KeepsOthers.setCell _ _ _).trans (KeepsOthers.setCell _ _ _)).trans (KeepsOthers.setCell _ _ _)).from _, ⟨rfl, HLT.out, ?_, ?_, ?_⟩, ?_⟩
     ·exact ((R0.out.set 0 _).other (by simp) _).other (by simp <;> omega) _
     ·exact ((R1.out.other (by simp) _).set 0 _).other (by simp) _
     ·exact ((R2.out.other (by simp <;> omega) _).other (by simp) _).set 0 _
     ·exact ((HB2.out.setCell (by simp) _).setCell (by simp) _).setCell (by simp <;> omega) _
    case done =>
     rintro D' xs W hD hS ⟨⟨hx, r0, r1, r2⟩, hB⟩ hK
     have hz := hS hx
     rw [HHH.out, HLN.out] at hz
     have HZ3 : Hid (z = (-1, true)) := by
      show z = _
      rw [HZZ.out]
      unfold fsV
      dsimp only
      rw [if_pos hz]
     have e0 := r0.cell 0
     have e1 := r0.free 0
     have e2 := r1.cell 0
     have e3 := r1.free 0
     have e4 := r2.cell 0
     have e5 := r2.free 0
     simp at e0 e2 e4
     have R0 := hid r0; have R1 := hid r1; have R2 := hid r2; have HB2 := hid hB; have HK := hid hK; have HDD := hid hD
     clear r0 r1 r2 hB hx hS hz hK hD
     gi_wp2_with fail
     have q1 := ((R0.out.set 0 (.int .i64 (-1))).other (a := ⟨w.heap.size + 1, 0, none⟩) (by simp) (.bool true)).other (a := ⟨w.heap.size + 1 + 1, 0, none⟩) (by simp <;> omega) (.int .i64 0)
     have q2 := ((R1.out.other (a := ⟨w.heap.size, 0, none⟩) (by simp) (.int .i64 (-1))).set 0 (.bool true)).other (a := ⟨w.heap.size + 1 + 1, 0, none⟩) (by simp) (.int .i64 0)
     have q3 := ((R2.out.other (a := ⟨w.heap.size, 0, none⟩) (by simp <;> omega) (.int .i64 (-1))).other (a := ⟨w.heap.size + 1, 0, none⟩) (by simp) (.bool true)).set 0 (.int .i64 0)
     have hk3 := ((((KeepsOthers.setCell W ⟨w.heap.size, 0, none⟩ (.int .i64 (-1))).trans (KeepsOthers.setCell _ ⟨w.heap.size + 1, 0, none⟩ (.bool true))).trans (KeepsOthers.setCell _ ⟨w.heap.size + 1 + 1, 0, none⟩ (.int .i64 0)))).same D' _ HK.out rfl
     have p1 := (q1.put hk3 (.deferred none)).cell 0
     have p2 := (q2.put hk3 (.deferred none)).cell 0
     have p3 := (q3.put hk3 (.deferred none)).cell 0
     simp at p1 p2 p3
     have h9 := HDD.out; have h8 := LG.out
     refine marks_end hk3 (v := .tuple #[.int .i64 (-1), .bool true, .int .i64 0]) (by simp [results, Tryz.results12, go_sem, p1, p2, p3]) ⟨by rw [HZ3.out], ?_⟩
     exact (((HB2.out.setCell (by simp) _).setCell (by simp) _).setCell (by simp <;> omega) _).trans (belowK_b (w := w) (Nat.le_refl _) _ D' _ _ (by omega) hk3 rfl rfl)
    case stop =>
     rintro D' c p W hD - ⟨⟨rfl, hlt, r0, r1, r2⟩, hB⟩ hK
     have HZ3 : Hid (z = ((hh : Int), true)) := by
      show z = _
      rw [HZZ.out]
      unfold fsV
      dsimp only
      rw [if_neg (by omega)]
     have p1 := (r0.put hK (.deferred none)).cell 0
     have p2 := (r1.put hK (.deferred none)).cell 0
     have p3 := (r2.put hK (.deferred none)).cell 0
     simp at p1 p2 p3
     have HB2 := hid hB; have HK := hid hK; have HDD := hid hD
     clear r0 r1 r2 hB hlt hK hD
     gi_wp2_with fail
     have h9 := HDD.out; have h8 := LG.out
     refine marks_end HK.out (v := .tuple #[.int .i64 (hh : Nat), .bool true, .int .i64 0]) (by simp [results, Tryz.results12, go_sem, p1, p2, p3]) ⟨by rw [HZ3.out], ?_⟩
     exact HB2.out.trans (belowK_b (w := w) (Nat.le_refl _) _ D' _ _ (by omega) HK.out rfl rfl)
theorem sp_First (w : World) (v u : Value) (c : List Int) (thr : Int) (a r : ByteArray) (b : List ByteArray) (hv : Row w v (zs c)) (hu : Row w u (strs b)) (ha : a.size ≤ 100000) (hr : r.size ≤ 100000) (hb : ∀ x ∈ b, x.size ≤ 100000000) (hL : Lay w) :
 Calls Tryz.prog 12 #[v, .int .i64 thr, .string a, .string r, u] w fun e w' => e = .returned (.tuple #[.int .i64 (fsA c thr a r b).1, .bool (fsA c thr a r b).2, .int .i64 (fsE c thr a r b)]) ∧ Below w.heap.size w w' := by
 by_cases h0 : fsE c thr a r b = 0
 ·cases b with
  | nil => exact absurd (fsE_ok h0).len (by simp)
  | cons b0 bs =>
   rw [h0]
   exact sp_First_ok w v u c thr a r b0 bs hv hu ha hr hb hL h0
 ·exact sp_First_bad w v u c thr a r b hv hu ha hr hb hL h0
theorem MRow.nilP (w : World) : MRow w (.slice none 0 0) [] := MRow.nil w
theorem sp_Law (w : World) (v : Value) (c : List Int) (thr : Int) (a r : ByteArray) (n : Int) (hv : Row w v (zs c)) (ha : a.size ≤ 100000) (hr : r.size ≤ 100000) (hL : LayB w) :
 Calls Tryz.prog 10 #[v, .int .i64 thr, .string a, .string r, .int .i64 n] w fun e w' => (∃ u, e = .returned (.tuple #[u, .int .i64 (slE c thr a r n)]) ∧ MRow w' u (slR c thr a r n)) ∧ Below w.heap.size w w' := by
 by_cases h0 : slE c thr a r n = 0
 ·have hE := h0
  unfold slE at h0
  split at h0
  ·rename_i h1; exact absurd h0 h1
  ·rename_i h1
   split at h0
   ·cases h0
   ·rename_i h2
    split at h0
    ·cases h0
    ·rename_i h3
     obtain ⟨m, rfl⟩ : ∃ m : Nat, n = (m : Nat) := ⟨n.toNat, by omega⟩
     rw [hE]
     have e2 : slR c thr a r (m : Nat) = sortM (sqD (gV (bN (cW a)) (bN (qD a)) true m) (gV (bN (cW r)) (bN (qD r)) true m) m thr c) := by unfold slR; rw [if_pos hE, Int.toNat_natCast]
     rw [e2]
     refine sp_Law_ok w v c thr a r m hv ha hr (Classical.byContradiction h1) (by omega) ?_ hL
     have : ¬ (256 : Int) < ((m * (c.length + 1) : Nat) : Int) := by rwa [Int.natCast_mul, Int.natCast_add]
     omega
 ·have e2 : slR c thr a r n = [] := if_neg h0
  rw [e2]
  have HQ := fun V hV hLV => hid (sp_question V v c thr a r hV ha hr hLV)
  have HV := hid hv; have HL := hid hL
  obtain ⟨s, cp, rfl, q1, q2, q3⟩ := hv.openZ
  obtain ⟨L, hLL⟩ : ∃ L, c.length = L := ⟨_, rfl⟩
  unfold slE at h0 ⊢
  obtain ⟨z, hz⟩ : ∃ z, sqnE c thr a r = z := ⟨_, rfl⟩
  have hz0 := hz
  simp only [hz] at HQ
  rw [hz] at h0 ⊢
  rw [hLL] at HV h0 q1 ⊢
  simp only [hLL] at HQ
  have A1 := hid ((Below.refl w.heap.size w).alloc (Nat.le_refl _) (.cells #[.string a, .string r] 60))
  have X1 := hid (Blk.new w #[.string a, .string r] 60)
  by_cases c0 : z = 0
  case neg =>
   rw [if_pos c0]
   have t0 : (z == 0) = false := by rw [beq_eq_false_iff_ne]; exact c0
   have t0' : (z != 0) = true := by simpa using c0
   clear hv q3 hLL hz hz0 h0 c0 ha hr hL
   go_enter Tryz.func10, Tryz.ntmps10
   go_wp2_with fail
   refine (HQ _ (HV.out.call A1.out) (HL.out.call A1.out).l).out.mono ?_; rintro e w0 ⟨rfl, hb0⟩
   go_wp2_with fail
   go_ret2
   exact ⟨⟨_, rfl, MRow.nilP _⟩, bnext A1.out hb0⟩
  simp only [c0] at HQ
  rw [if_neg (by rw [c0]; simp)] at h0 ⊢
  by_cases c1 : n < 0 ∨ 32 < n
  ·rw [if_pos c1]
   obtain ⟨p, hp⟩ : ∃ p, decide (n < 0) = p := ⟨_, rfl⟩
   obtain ⟨q, hq⟩ : ∃ q, decide (32 < n) = q := ⟨_, rfl⟩
   have hpq : (p || q) = true := by rw [← hp, ← hq]; simpa using c1
   clear hv q3 hLL hz hz0 h0 c0 c1 ha hr hL
   cases p
   ·obtain rfl : q = true := by simpa using hpq
    clear hpq
    go_enter Tryz.func10, Tryz.ntmps10
    go_wp2_with fail
    refine (HQ _ (HV.out.call A1.out) (HL.out.call A1.out).l).out.mono ?_; rintro e w0 ⟨rfl, hb0⟩
    go_wp2_with fail
    go_ret2
    exact ⟨⟨_, rfl, MRow.nilP _⟩, bnext A1.out hb0⟩
   ·clear hpq hq
    go_enter Tryz.func10, Tryz.ntmps10
    go_wp2_with fail
    refine (HQ _ (HV.out.call A1.out) (HL.out.call A1.out).l).out.mono ?_; rintro e w0 ⟨rfl, hb0⟩
    go_wp2_with fail
    go_ret2
    exact ⟨⟨_, rfl, MRow.nilP _⟩, bnext A1.out hb0⟩
  ·rw [if_neg c1] at h0 ⊢
   obtain ⟨-, k2, -⟩ := sqnE_q (hz0.trans c0)
   rw [hLL] at k2
   obtain ⟨m, rfl⟩ : ∃ m : Nat, n = (m : Nat) := ⟨n.toNat, by omega⟩
   by_cases c2 : 256 < ((m : Nat) : Int) * (((L : Nat) : Int) + 1)
   ·rw [if_pos c2]
    have t1 : decide ((m : Int) < 0) = false := by simp
    have t2 : decide ((32 : Int) < (m : Int)) = false := by simp; omega
    obtain ⟨L1, hL1⟩ : ∃ L1, L1 = L + 1 := ⟨_, rfl⟩
    have wl : IntKind.i64.wrap ((L : Int) + 1) = (L1 : Int) := by rw [IntWalk.i64_in _ ⟨by omega, by omega⟩]; omega
    have e1 : ((L : Nat) : Int) + 1 = (L1 : Int) := by omega
    rw [e1] at c2
    obtain ⟨M, hM⟩ : ∃ M : Int, (m : Int) * (L1 : Int) = M := ⟨_, rfl⟩
    have hM2 : M ≤ 100000 := by
     rw [← hM]
     have h5 : m * L1 ≤ 32 * 257 := Nat.mul_le_mul (by omega) (by omega)
     have : ((m * L1 : Nat) : Int) ≤ 100000 := by omega
     rwa [Int.natCast_mul] at this
    rw [hM] at c2
    have wm : IntKind.i64.wrap ((m : Int) * (L1 : Int)) = M := by rw [hM, IntWalk.i64_in _ ⟨by omega, by omega⟩]
    have t3 : decide (256 < M) = true := decide_eq_true c2
    clear hv q3 hLL hz hz0 h0 c0 c1 c2 ha hr hL hM hM2 k2 e1 hL1
    go_enter Tryz.func10, Tryz.ntmps10
    go_wp2_with fail
    refine (HQ _ (HV.out.call A1.out) (HL.out.call A1.out).l).out.mono ?_; rintro e w0 ⟨rfl, hb0⟩
    go_wp2_with fail
    go_ret2
    exact ⟨⟨_, rfl, MRow.nilP _⟩, bnext A1.out hb0⟩
   ·rw [if_neg c2] at h0
    exact absurd rfl h0
end Go.Proofs.YtlmnpocifldpmaaGreatDoor
namespace Go.Proofs.YtlmnpocifldpmaaGreatDoor
open Go.RowKit
open Go.Lib (decDigits nDigits)
def hfQ (r : Rat) : Rat := (r + r) / (r + 1)
theorem hfQ_mul {r : Rat} (h : 1 ≤ r) : hfQ r * (r + 1) = r + r := by
 unfold hfQ
 have h0 : r + 1 ≠ 0 := by grind
 grind
theorem hf_sq {r : Rat} (h : 1 ≤ r) : hfQ r * hfQ r ≤ r := by
 have e := hfQ_mul h
 obtain ⟨x, hx⟩ : ∃ x, hfQ r = x := ⟨_, rfl⟩
 rw [hx] at e ⊢
 have h0 : 0 ≤ r * ((r - 1) * (r - 1)) := Rat.mul_nonneg (by grind) (Rat.mul_nonneg (by grind) (by grind))
 have ht : 0 < (r + 1) * (r + 1) := Rat.mul_pos (by grind) (by grind)
 have h1 : (x * x) * ((r + 1) * (r + 1)) ≤ r * ((r + 1) * (r + 1)) := by
  have e1 : (x * x) * ((r + 1) * (r + 1)) = (r + r) * (r + r) := by rw [← e]; grind
  have e2 : r * ((r + 1) * (r + 1)) = (r + r) * (r + r) + r * ((r - 1) * (r - 1)) := by grind
  rw [e1, e2]
  grind
 exact Rat.le_of_mul_le_mul_right h1 ht
theorem hf_one {r : Rat} (h : 1 ≤ r) : 1 ≤ hfQ r := by
 have e := hfQ_mul h
 have h1 : 1 * (r + 1) ≤ hfQ r * (r + 1) := by rw [e]; grind
 exact Rat.le_of_mul_le_mul_right h1 (by grind)
theorem sgnQ_cases (q : Rat) : (0 < q ∧ sgnQ q = 1) ∨ (q = 0 ∧ sgnQ q = 0) ∨ (q < 0 ∧ sgnQ q = -1) := by
 unfold sgnQ
 by_cases h : q.num = 0
 ·exact .inr (.inl ⟨Rat.num_eq_zero.1 h, by rw [if_pos h]⟩)
 ·have hq : q ≠ 0 := fun e => h (Rat.num_eq_zero.2 e)
  by_cases h2 : q.num < 0
  ·have h3 : ¬ 0 ≤ q := fun e => absurd (Rat.num_nonneg.2 e) (by omega)
   exact .inr (.inr ⟨by grind, by rw [if_neg h, if_pos h2]⟩)
  ·have h3 : 0 ≤ q := Rat.num_nonneg.1 (by omega)
   exact .inl ⟨by grind, by rw [if_neg h, if_neg h2]⟩
theorem ordQ_le {p q : Rat} (h : p ≤ q) : ordQ p q ≤ 0 := by
 unfold ordQ
 rcases sgnQ_cases (p - q) with ⟨h1, h2⟩ | ⟨h1, h2⟩ | ⟨h1, h2⟩
 ·exfalso; grind
 ·omega
 ·omega
theorem ordQ_ge {p q : Rat} (h : q ≤ p) : 0 ≤ ordQ p q := by
 unfold ordQ
 rcases sgnQ_cases (p - q) with ⟨h1, h2⟩ | ⟨h1, h2⟩ | ⟨h1, h2⟩
 ·omega
 ·omega
 ·exfalso; grind
theorem ordQ_lt1 {p q : Rat} (h : ¬ ordQ p q < 0) : q ≤ p := by
 unfold ordQ at h
 rcases sgnQ_cases (p - q) with ⟨h1, h2⟩ | ⟨h1, h2⟩ | ⟨h1, h2⟩
 ·grind
 ·grind
 ·omega
theorem hf_ord {r s : Rat} (h : 1 ≤ r) (h' : 1 ≤ s) : ordQ r s = ordQ (hfQ r) (hfQ s) := by
 have e := hfQ_mul h
 have e' := hfQ_mul h'
 obtain ⟨x, hx⟩ : ∃ x, hfQ r = x := ⟨_, rfl⟩
 obtain ⟨y, hy⟩ : ∃ y, hfQ s = y := ⟨_, rfl⟩
 rw [hx] at e ⊢
 rw [hy] at e' ⊢
 have ht : 0 < (r + 1) * (s + 1) := Rat.mul_pos (by grind) (by grind)
 have k : (x - y) * ((r + 1) * (s + 1)) = (r - s) + (r - s) := by
  have : (x - y) * ((r + 1) * (s + 1)) = (x * (r + 1)) * (s + 1) - (y * (s + 1)) * (r + 1) := by grind
  rw [this, e, e']; grind
 unfold ordQ
 rcases sgnQ_cases (r - s) with ⟨h1, h2⟩ | ⟨h1, h2⟩ | ⟨h1, h2⟩ <;> rcases sgnQ_cases (x - y) with ⟨k1, k2⟩ | ⟨k1, k2⟩ | ⟨k1, k2⟩ <;> rw [h2, k2] <;> exfalso
 ·rw [k1] at k; grind
 ·have := Rat.mul_pos (show 0 < y - x by grind) ht
  grind
 ·have := Rat.mul_pos k1 ht
  grind
 ·have := Rat.mul_pos (show 0 < y - x by grind) ht
  grind
 ·have := Rat.mul_pos k1 ht
  grind
 ·rw [k1] at k; grind
def hlE (s : ByteArray) : Int := if qE s ≠ 0 then qE s else if ordQ (vQ s) 1 < 0 then 2 else outE (hfQ (vQ s))
def hlB (s : ByteArray) : ByteArray := if qE s = 0 ∧ ¬ ordQ (vQ s) 1 < 0 then outB (hfQ (vQ s)) else ⟨#[]⟩
theorem hl_ok {s : ByteArray} (h : hlE s = 0) : qE s = 0 ∧ 1 ≤ vQ s ∧ ¬ ovQ (hfQ (vQ s)) ∧ hlB s = txQ (hfQ (vQ s)) := by
 unfold hlE at h
 split at h
 ·rename_i h1; exact absurd h h1
 ·rename_i h1
  have h1 : qE s = 0 := Classical.byContradiction h1
  split at h
  ·cases h
  ·rename_i h2
   have h3 : ¬ ovQ (hfQ (vQ s)) := fun e => by
    unfold outE at h
    rw [if_pos e] at h
    cases h
   refine ⟨h1, ordQ_lt1 h2, h3, ?_⟩
   unfold hlB
   rw [if_pos ⟨h1, h2⟩, outB_fits h3]
theorem hl_err {s : ByteArray} (h : ¬ hlE s = 0) : hlB s = ⟨#[]⟩ := by
 unfold hlB
 split
 ·rename_i h1
  unfold hlE at h
  rw [if_neg (by simpa using h1.1), if_neg h1.2] at h
  unfold outE at h
  unfold outB
  split at h
  ·rename_i h2; rw [if_pos h2]
  ·exact absurd rfl h
 ·rfl
theorem hf_dig {v : Rat} (h : 1 ≤ v) (hd : Dig 300 v) : Dig 903 (hfQ v) := by
 unfold hfQ
 rw [Rat.div_def]
 have h1 : Dig 601 (v + v) := dig_add hd hd
 have h2 : Dig 302 (v + 1) := dig_add hd dig_one
 exact dig_mul h1 (dig_inv (by grind) h2)
theorem cm_tx {p q : Rat} (hp : ¬ ovQ p) (hq : ¬ ovQ q) : cmB (txQ p) (txQ q) = ordQ p q := by
 unfold cmB
 rw [if_pos ⟨qE_txQ hp, qE_txQ hq⟩, vQ_txQ, vQ_txQ]
theorem cm_tx1 {p : Rat} {s : ByteArray} (hp : ¬ ovQ p) (hs : qE s = 0) : cmB (txQ p) s = ordQ p (vQ s) := by
 unfold cmB
 rw [if_pos ⟨qE_txQ hp, hs⟩, vQ_txQ]
theorem hl_sq {s : ByteArray} (h : hlE s = 0) (hs : s.size ≤ 300) : cmB (op2B (· * ·) (hlB s) (hlB s)) s ≤ 0 := by
 obtain ⟨h1, h2, h3, h4⟩ := hl_ok h
 have hd := hf_dig h2 (dig_text h1 hs (by omega))
 have h5 : ¬ ovQ (hfQ (vQ s) * hfQ (vQ s)) := (dig_mul hd hd).fits (by omega) (by omega)
 rw [h4, (op2_txt (f := (· * ·)) h3 h3 h5).1]
 show cmB (txQ (hfQ (vQ s) * hfQ (vQ s))) s ≤ 0
 rw [cm_tx1 h5 h1]
 exact ordQ_le (hf_sq h2)
theorem hl_one {s : ByteArray} (h : hlE s = 0) : 0 ≤ cmB (hlB s) t1 := by
 obtain ⟨h1, h2, h3, h4⟩ := hl_ok h
 rw [h4, cm_tx1 h3 qE_t1, vQ_t1]
 exact ordQ_ge (hf_one h2)
theorem hl_ord {r s : ByteArray} (hr : hlE r = 0) (hs : hlE s = 0) : cmB r s = cmB (hlB r) (hlB s) := by
 obtain ⟨h1, h2, h3, h4⟩ := hl_ok hr
 obtain ⟨k1, k2, k3, k4⟩ := hl_ok hs
 rw [h4, k4, cm_tx h3 k3]
 unfold cmB
 rw [if_pos ⟨h1, k1⟩]
 exact hf_ord h2 k2
def h12 : ByteArray := ⟨#[49, 47, 50]⟩
def x11 : ByteArray := ⟨#[49, 49]⟩
theorem sn_l : fsA [3, 8, 9] 5 h12 h12 [x11, x11, x11, x11] = (1, true) ∧ fsE [3, 8, 9] 5 h12 h12 [x11, x11, x11, x11] = 0 := by decide +kernel
theorem addL_sort_two : sortM [((⟨#[108, 97, 116, 101]⟩, ⟨#[49, 53, 47, 49, 54]⟩) : ByteArray × ByteArray), (⟨#[48]⟩, ⟨#[49, 47, 49, 54]⟩)] = [(⟨#[48]⟩, ⟨#[49, 47, 49, 54]⟩), (⟨#[108, 97, 116, 101]⟩, ⟨#[49, 53, 47, 49, 54]⟩)] := by
 have h := addL_sort (L := [((⟨#[108, 97, 116, 101]⟩, ⟨#[49, 53, 47, 49, 54]⟩) : ByteArray × ByteArray)]) (key := ⟨#[48]⟩) (p := ⟨#[49, 47, 49, 54]⟩) (by decide) (by intro x hx; simp at hx; subst hx; decide) (List.pairwise_singleton _ _)
 have e : sortM [((⟨#[108, 97, 116, 101]⟩, ⟨#[49, 53, 47, 49, 54]⟩) : ByteArray × ByteArray)] = [(⟨#[108, 97, 116, 101]⟩, ⟨#[49, 53, 47, 49, 54]⟩)] := List.mergeSort_singleton _
 rw [e] at h
 refine Eq.trans h.symm ?_
 decide +kernel
theorem sn_d : slE [5] 5 h12 h12 2 = 0 ∧ slR [5] 5 h12 h12 2 = [(⟨#[48]⟩, ⟨#[49, 47, 49, 54]⟩), (⟨#[108, 97, 116, 101]⟩, ⟨#[49, 53, 47, 49, 54]⟩)] := by
 have h : slE [5] 5 h12 h12 2 = 0 := by decide +kernel
 refine ⟨h, ?_⟩
 unfold slR
 rw [if_pos h]
 have e : sqD (gV (bN (cW h12)) (bN (qD h12)) true (2 : Int).toNat) (gV (bN (cW h12)) (bN (qD h12)) true (2 : Int).toNat) (2 : Int).toNat 5 [5] = [(⟨#[108, 97, 116, 101]⟩, ⟨#[49, 53, 47, 49, 54]⟩), (⟨#[48]⟩, ⟨#[49, 47, 49, 54]⟩)] := by decide +kernel
 rw [e]
 exact addL_sort_two
end Go.Proofs.YtlmnpocifldpmaaGreatDoor
namespace Go.Proofs.YtlmnpocifldpmaaGreatDoor
open Go.RowKit
open Go.Shelf
theorem mrow_lit (w : World) (L : List (ByteArray × ByteArray)) (n : Nat) (hn : L.length = n) (hL : n ≤ 1000) : MRow (w.alloc (.cells (massC L).toArray 39)) (.slice (some ⟨w.heap.size, 0, none⟩) n n) L := by
 subst hn
 refine ⟨some ⟨w.heap.size, 0, none⟩, L.length, rfl, Nat.le_refl _, by omega, fun i x h => ⟨w.heap.size, 0, rfl, by simp, ?_, ?_⟩⟩
 ·rw [Nat.zero_add, (Blk.new w _ _).cell, List.getElem?_toArray]; exact (massC_get h).1
 ·rw [Nat.zero_add, (Blk.new w _ _).cell, List.getElem?_toArray]; exact (massC_get h).2
theorem rowZ_lit (w : World) (L : List Int) (n : Nat) (hn : L.length = n) (hL : n ≤ 1000) : Row (w.alloc (.cells (zs L).toArray 3)) (.slice (some ⟨w.heap.size, 0, none⟩) n n) (zs L) :=
 Row.of_blk (Blk.new w _ _) (by rw [zs_length]; exact hn) (by unfold maxLen; omega) (fun i x h => by rw [List.getElem?_toArray]; exact h) (Nat.le_refl _) (by unfold maxLen; omega)
open Go.Lib (decDigits nDigits)
theorem rowZ_isS (w : World) (L : List Int) (cs : Array Value) (n b : Nat) (hc : cs = (zs L).toArray) (hb : w.heap.size = b) (hn : L.length = n) (hL : n ≤ 1000) : Row (w.alloc (.cells cs 3)) (.slice (some ⟨b, 0, none⟩) n n) (zs L) := by
 subst hc hb
 exact rowZ_lit w L n hn hL
theorem rowB_isS (w : World) (L : List ByteArray) (cs : Array Value) (n b : Nat) (hc : cs = (strs L).toArray) (hb : w.heap.size = b) (hn : L.length = n) (hL : n ≤ 1000) : Row (w.alloc (.cells cs 33)) (.slice (some ⟨b, 0, none⟩) n n) (strs L) := by
 subst hc hb
 exact Row.of_blk (Blk.new w _ _) (by rw [strs_length]; exact hn) (by unfold maxLen; omega) (fun i x h => by rw [List.getElem?_toArray]; exact h) (Nat.le_refl _) (by unfold maxLen; omega)
theorem w_lives24 (w : World) (hL : LayB w) :
 Calls Tryz.prog 9 #[] w fun e w' => e = .returned (.bool true) ∧ Below w.heap.size w w' := by
 have HL := hid hL
 have PP := fun V v u hv hu hV => hid (sp_First V v u [3, 8, 9] 5 h12 h12 [x11, x11, x11, x11] hv hu (by decide) (by decide) (by decide) hV)
 have PL := fun V v hv hV => hid (sp_Law V v [5] 5 h12 h12 2 hv (by decide) (by decide) hV)
 rw [sn_l.1, sn_l.2] at PP
 rw [sn_d.1, sn_d.2] at PL
 unfold h12 x11 at PP
 unfold h12 at PL
 have PS := fun V u v hu hv => hid (k_SameM V u v [(⟨#[48]⟩, ⟨#[49, 47, 49, 54]⟩), (⟨#[108, 97, 116, 101]⟩, ⟨#[49, 53, 47, 49, 54]⟩)] [(⟨#[48]⟩, ⟨#[49, 47, 49, 54]⟩), (⟨#[108, 97, 116, 101]⟩, ⟨#[49, 53, 47, 49, 54]⟩)] hu hv)
 rw [decide_eq_true rfl] at PS
 clear hL
 have A1 := (Below.refl w.heap.size w).alloc (Nat.le_refl _) (.cells #[.int .i64 3, .int .i64 8, .int .i64 9] 3)
 have A2 := hid (A1.alloc A1.size (.cells #[.string ⟨#[49, 49]⟩, .string ⟨#[49, 49]⟩, .string ⟨#[49, 49]⟩, .string ⟨#[49, 49]⟩] 33))
 have R1 := hid ((rowZ_isS w [3, 8, 9] _ 3 w.heap.size rfl rfl rfl (by omega)).call ((Below.refl _ _).alloc (Nat.le_refl _) (.cells #[.string ⟨#[49, 49]⟩, .string ⟨#[49, 49]⟩, .string ⟨#[49, 49]⟩, .string ⟨#[49, 49]⟩] 33)))
 have R2 := hid (rowB_isS (w.alloc (.cells #[.int .i64 3, .int .i64 8, .int .i64 9] 3)) [⟨#[49, 49]⟩, ⟨#[49, 49]⟩, ⟨#[49, 49]⟩, ⟨#[49, 49]⟩] _ 4 (w.heap.size + 1) rfl (by simp) rfl (by omega))
 clear A1
 go_enter Tryz.func9, Tryz.ntmps9
 go_wp2_with fail
 refine (PP _ _ _ R1.out R2.out (HL.out.call A2.out).l).out.mono ?_; rintro e w1 ⟨rfl, hb1⟩
 have y1 := hid (bnext A2.out hb1)
 clear hb1
 go_wp2_with fail
 have A3 := hid ((Below.refl w1.heap.size w1).alloc (Nat.le_refl _) (.cells #[.int .i64 5] 3))
 have R3 := hid (rowZ_isS w1 [5] _ 1 w1.heap.size rfl rfl rfl (by omega))
 refine (PL _ _ R3.out (HL.out.call (bnext y1.out A3.out))).out.mono ?_; rintro e w2 ⟨⟨u, rfl, hu⟩, hb2⟩
 have y2 := hid (bnext y1.out (bnext A3.out hb2))
 have U2 := hid hu
 obtain ⟨a2, k2, rfl, -, -, -⟩ := hu.ex
 clear hb2 hu
 have A4 := hid ((Below.refl w2.heap.size w2).alloc (Nat.le_refl _) (.cells #[.string ⟨#[48]⟩, .string ⟨#[49, 47, 49, 54]⟩, .string ⟨#[108, 97, 116, 101]⟩, .string ⟨#[49, 53, 47, 49, 54]⟩] 39))
 have R4 := hid (mrow_lit w2 [(⟨#[48]⟩, ⟨#[49, 47, 49, 54]⟩), (⟨#[108, 97, 116, 101]⟩, ⟨#[49, 53, 47, 49, 54]⟩)] 2 rfl (by omega))
 go_wp2_with fail
 refine (PS _ _ _ (U2.out.call A4.out) R4.out).out.mono ?_; rintro e w3 ⟨rfl, hb3⟩
 go_wp2_with fail
 go_ret
 exact ⟨rfl, bnext y2.out (bnext A4.out hb3)⟩
end Go.Proofs.YtlmnpocifldpmaaGreatDoor
namespace Go.Proofs.YtlmnpocifldpmaaGreatDoor
open Go.RowKit
open Go.Lib (decDigits nDigits)
structure CutR (s W B D : ByteArray) (S M I fb : Bool) (k : Nat) : Prop where
 sl : ∀ w, Calls Tryz.prog 197 #[.string s] w fun e w' => e = .returned (.int .i64 k) ∧ w = w'
 kle : k ≤ s.size
 cutW : s.extract 0 k = W
 cutB : S = true → s.extract (k + 1) s.size = B
 has : S = decide (k < s.size)
 int : ∀ w, Calls Tryz.prog 176 #[.string W] w fun e w' => e = .returned (.tuple #[.bool M, .string D, .bool I]) ∧ w = w'
 form : ∀ w, Calls Tryz.prog 198 #[.string B] w fun e w' => e = .returned (.bool fb) ∧ w = w'
theorem cutR_of (s : ByteArray) (hs : s.size ≤ 1000000) : CutR s (cW s) (cB s) (iD (cW s)) (cS s) (iM (cW s)) (iB (cW s)) (fB (cB s)) (cW s).size := by
 have key : ∀ k, isSlash s.data.toList k → k = (cW s).size := by
  intro k hk
  obtain ⟨h1, h2, -⟩ := slash_cut hk
  rw [h2]
  simp
  omega
 have ex : ∃ k, isSlash s.data.toList k := by
  rcases sl_cases s.data.toList with hn | ⟨A, B, hA, e⟩
  ·exact ⟨s.data.toList.length, Nat.le_refl _, fun j b _ hb => hn b (List.mem_of_getElem? hb), fun h => absurd h (Nat.lt_irrefl _)⟩
  ·refine ⟨A.length, by rw [e]; simp, fun j b hj hb => ?_, fun _ => by rw [e]; simp⟩
   rw [e, List.getElem?_append_left hj] at hb
   exact hA b (List.mem_of_getElem? hb)
 obtain ⟨k, hk⟩ := ex
 obtain ⟨h1, h2, h3, h4⟩ := slash_cut hk
 have hk' := key k hk
 subst hk'
 exact {
  sl := fun w => (r2_slash w s (by omega)).mono (by
   rintro e w' ⟨⟨j, rfl, hj⟩, rfl⟩
   rw [key j hj]
   exact ⟨rfl, rfl⟩)
  kle := h1
  cutW := h2.symm
  cutB := fun h => (h4 (by rw [h3] at h; simpa using h)).symm
  has := h3
  int := fun w => r2_integer w (cW s) (by have := cW_size s; omega)
  form := fun w => r2_digits w (cB s) (by have := cB_size s; omega) }
def RetR (x : Int) (m : Bool) (n d : Nat) (e : Ending) (w' : World) : Prop := ∃ v, e = .returned (.tuple #[v, .int .i64 x]) ∧ (x = 0 → ∃ N D, v = .agg #[.bool m, N, D] ∧ IsN .i64 w' N n ∧ IsN .i64 w' D d) ∧ (x ≠ 0 → v = .agg #[.bool false, .slice none 0 0, .slice none 0 0])
theorem RetR.err {x : Int} {m : Bool} {n d : Nat} {w' : World} (h : x ≠ 0) : RetR x m n d (.returned (.tuple #[.agg #[.bool false, .slice none 0 0, .slice none 0 0], .int .i64 x])) w' := ⟨_, rfl, fun e => absurd e h, fun _ => rfl⟩
theorem rd_bad (w : World) (s W B D : ByteArray) (S M I fb : Bool) (k : Nat) (hs : s.size ≤ 1000000) (HC : CutR s W B D S M I fb k)
 (h : (I && (!S || (decide (D ≠ ⟨#[48]⟩) && fb && decide (B ≠ ⟨#[48]⟩) && decide (B ≠ ⟨#[49]⟩)))) = false) :
 Calls Tryz.prog 130 #[.string s] w fun e w' => e = .returned (.tuple #[.agg #[.bool false, .slice none 0 0, .slice none 0 0], .int .i64 3]) ∧ Below w.heap.size w w' := by
 have key : (I = false) ∨ (I = true ∧ S = true ∧ (D = ⟨#[48]⟩ ∨ (¬ D = ⟨#[48]⟩ ∧ (fb = false ∨ (fb = true ∧ (B = ⟨#[48]⟩ ∨ (¬ B = ⟨#[48]⟩ ∧ B = ⟨#[49]⟩))))))) := by
  by_cases h1 : D = ⟨#[48]⟩ <;> by_cases h2 : B = ⟨#[48]⟩ <;> by_cases h3 : B = ⟨#[49]⟩ <;> cases I <;> cases S <;> cases fb <;> simp [h1, h2, h3] at h ⊢
 have HK := hid HC
 have kle := HC.kle
 have hlt := HC.has
 have cw := hid HC.cutW
 have cb := hid HC.cutB
 clear HC h
 have t0 := hid (Blk.new w #[.bool false, .slice none 0 0, .slice none 0 0] 100)
 have t1 := hid ((Below.refl w.heap.size w).alloc (Nat.le_refl _) (.cells #[.bool false, .slice none 0 0, .slice none 0 0] 100))
 have d0 := t0.out.cell 0
 have d1 := t0.out.cell 1
 have d2 := t0.out.cell 2
 have e0 := t0.out.free 0
 have e1 := t0.out.free 1
 have e2 := t0.out.free 2
 simp at d0 d1 d2
 have ht : ∀ {b : Bool}, b = decide (k < s.size) → decide (k < s.size) = b := fun h => h.symm
 have wk : IntKind.i64.wrap ((k : Int) + 1) = (k : Int) + 1 := by rw [IntWalk.i64_in _ ⟨by omega, by omega⟩]
 have kle2 : S = true → k + 1 ≤ s.size := fun h => by rw [h] at hlt; have := of_decide_eq_true hlt.symm; omega
 rcases key with rfl | ⟨rfl, rfl, rfl | ⟨h1, rfl | ⟨rfl, rfl | ⟨h2, rfl⟩⟩⟩⟩
 ·cases S
  ·have q0 := ht hlt
   clear hlt ht kle2
   go_enter Tryz.func130, Tryz.ntmps130
   go_wp2_with (first
    | (go_at_call 197; refine (HK.out.sl _).mono ?_; rintro e w1 ⟨rfl, rfl⟩)
    | (go_at_call 176; rw [cw.out]; refine (HK.out.int _).mono ?_; rintro e w2 ⟨rfl, rfl⟩)
    | (go_at_call 198; (first | rw [cb.out trivial] | rw [cb.out rfl]); refine (HK.out.form _).mono ?_; rintro e w3 ⟨rfl, rfl⟩)
    | fail)
   obtain ⟨s1, s2⟩ := set3 t0.out false none none 0 0 0 0
   have f0 := s2.cell 0
   have f1 := s2.cell 1
   have f2 := s2.cell 2
   simp at f0 f1 f2
   refine bodyPost_ret (v := .tuple #[.agg #[.bool false, .slice none 0 0, .slice none 0 0], .int .i64 3]) (by simp [results, Tryz.results130, go_sem, f0, f1, f2]) rfl ⟨rfl, ?_⟩
   first | exact t1.out | exact ((t1.out.setCell (Nat.le_refl _) _).setCell (Nat.le_refl _) _).setCell (Nat.le_refl _) _
  ·have q0 := ht hlt
   have kle3 := kle2 rfl
   clear hlt ht kle2
   go_enter Tryz.func130, Tryz.ntmps130
   go_wp2_with (first
    | (go_at_call 197; refine (HK.out.sl _).mono ?_; rintro e w1 ⟨rfl, rfl⟩)
    | (go_at_call 176; rw [cw.out]; refine (HK.out.int _).mono ?_; rintro e w2 ⟨rfl, rfl⟩)
    | (go_at_call 198; (first | rw [cb.out trivial] | rw [cb.out rfl]); refine (HK.out.form _).mono ?_; rintro e w3 ⟨rfl, rfl⟩)
    | fail)
   obtain ⟨s1, s2⟩ := set3 t0.out false none none 0 0 0 0
   have f0 := s2.cell 0
   have f1 := s2.cell 1
   have f2 := s2.cell 2
   simp at f0 f1 f2
   refine bodyPost_ret (v := .tuple #[.agg #[.bool false, .slice none 0 0, .slice none 0 0], .int .i64 3]) (by simp [results, Tryz.results130, go_sem, f0, f1, f2]) rfl ⟨rfl, ?_⟩
   first | exact t1.out | exact ((t1.out.setCell (Nat.le_refl _) _).setCell (Nat.le_refl _) _).setCell (Nat.le_refl _) _
 ·have q0 := ht hlt
  have kle3 := kle2 rfl
  clear hlt ht kle2
  go_enter Tryz.func130, Tryz.ntmps130
  go_wp2_with (first
   | (go_at_call 197; refine (HK.out.sl _).mono ?_; rintro e w1 ⟨rfl, rfl⟩)
   | (go_at_call 176; rw [cw.out]; refine (HK.out.int _).mono ?_; rintro e w2 ⟨rfl, rfl⟩)
   | (go_at_call 198; (first | rw [cb.out trivial] | rw [cb.out rfl]); refine (HK.out.form _).mono ?_; rintro e w3 ⟨rfl, rfl⟩)
   | fail)
  obtain ⟨s1, s2⟩ := set3 t0.out false none none 0 0 0 0
  have f0 := s2.cell 0
  have f1 := s2.cell 1
  have f2 := s2.cell 2
  simp at f0 f1 f2
  refine bodyPost_ret (v := .tuple #[.agg #[.bool false, .slice none 0 0, .slice none 0 0], .int .i64 3]) (by simp [results, Tryz.results130, go_sem, f0, f1, f2]) rfl ⟨rfl, ?_⟩
  first | exact t1.out | exact ((t1.out.setCell (Nat.le_refl _) _).setCell (Nat.le_refl _) _).setCell (Nat.le_refl _) _
 ·have q0 := ht hlt
  have kle3 := kle2 rfl
  have i1 := ne_lit (l := [48]) h1
  clear hlt ht kle2
  go_enter Tryz.func130, Tryz.ntmps130
  go_wp2_with (first
   | (go_at_call 197; refine (HK.out.sl _).mono ?_; rintro e w1 ⟨rfl, rfl⟩)
   | (go_at_call 176; rw [cw.out]; refine (HK.out.int _).mono ?_; rintro e w2 ⟨rfl, rfl⟩)
   | (go_at_call 198; (first | rw [cb.out trivial] | rw [cb.out rfl]); refine (HK.out.form _).mono ?_; rintro e w3 ⟨rfl, rfl⟩)
   | fail)
  obtain ⟨s1, s2⟩ := set3 t0.out false none none 0 0 0 0
  have f0 := s2.cell 0
  have f1 := s2.cell 1
  have f2 := s2.cell 2
  simp at f0 f1 f2
  refine bodyPost_ret (v := .tuple #[.agg #[.bool false, .slice none 0 0, .slice none 0 0], .int .i64 3]) (by simp [results, Tryz.results130, go_sem, f0, f1, f2]) rfl ⟨rfl, ?_⟩
  first | exact t1.out | exact ((t1.out.setCell (Nat.le_refl _) _).setCell (Nat.le_refl _) _).setCell (Nat.le_refl _) _
 ·have q0 := ht hlt
  have kle3 := kle2 rfl
  have i1 := ne_lit (l := [48]) h1
  clear hlt ht kle2
  go_enter Tryz.func130, Tryz.ntmps130
  go_wp2_with (first
   | (go_at_call 197; refine (HK.out.sl _).mono ?_; rintro e w1 ⟨rfl, rfl⟩)
   | (go_at_call 176; rw [cw.out]; refine (HK.out.int _).mono ?_; rintro e w2 ⟨rfl, rfl⟩)
   | (go_at_call 198; (first | rw [cb.out trivial] | rw [cb.out rfl]); refine (HK.out.form _).mono ?_; rintro e w3 ⟨rfl, rfl⟩)
   | fail)
  obtain ⟨s1, s2⟩ := set3 t0.out false none none 0 0 0 0
  have f0 := s2.cell 0
  have f1 := s2.cell 1
  have f2 := s2.cell 2
  simp at f0 f1 f2
  refine bodyPost_ret (v := .tuple #[.agg #[.bool false, .slice none 0 0, .slice none 0 0], .int .i64 3]) (by simp [results, Tryz.results130, go_sem, f0, f1, f2]) rfl ⟨rfl, ?_⟩
  first | exact t1.out | exact ((t1.out.setCell (Nat.le_refl _) _).setCell (Nat.le_refl _) _).setCell (Nat.le_refl _) _
 ·have q0 := ht hlt
  have kle3 := kle2 rfl
  have i1 := ne_lit (l := [48]) h1
  have i2 := ne_lit (l := [48]) h2
  clear hlt ht kle2
  go_enter Tryz.func130, Tryz.ntmps130
  go_wp2_with (first
   | (go_at_call 197; refine (HK.out.sl _).mono ?_; rintro e w1 ⟨rfl, rfl⟩)
   | (go_at_call 176; rw [cw.out]; refine (HK.out.int _).mono ?_; rintro e w2 ⟨rfl, rfl⟩)
   | (go_at_call 198; (first | rw [cb.out trivial] | rw [cb.out rfl]); refine (HK.out.form _).mono ?_; rintro e w3 ⟨rfl, rfl⟩)
   | fail)
  obtain ⟨s1, s2⟩ := set3 t0.out false none none 0 0 0 0
  have f0 := s2.cell 0
  have f1 := s2.cell 1
  have f2 := s2.cell 2
  simp at f0 f1 f2
  refine bodyPost_ret (v := .tuple #[.agg #[.bool false, .slice none 0 0, .slice none 0 0], .int .i64 3]) (by simp [results, Tryz.results130, go_sem, f0, f1, f2]) rfl ⟨rfl, ?_⟩
  first | exact t1.out | exact ((t1.out.setCell (Nat.le_refl _) _).setCell (Nat.le_refl _) _).setCell (Nat.le_refl _) _
theorem rd_long (w : World) (s W B D : ByteArray) (S M fb : Bool) (k : Nat) (hs : s.size ≤ 1000000) (HC : CutR s W B D S M true fb k)
 (h : S = false ∨ (S = true ∧ ¬ D = ⟨#[48]⟩ ∧ ¬ B = ⟨#[48]⟩ ∧ ¬ B = ⟨#[49]⟩ ∧ fb = true)) (hl : 4000 < D.size ∨ (¬ 4000 < D.size ∧ S = true ∧ 4000 < B.size)) :
 Calls Tryz.prog 130 #[.string s] w fun e w' => e = .returned (.tuple #[.agg #[.bool false, .slice none 0 0, .slice none 0 0], .int .i64 5]) ∧ Below w.heap.size w w' := by
 have HK := hid HC
 have kle := HC.kle
 have hlt := HC.has
 have cw := hid HC.cutW
 have cb := hid HC.cutB
 clear HC
 have t0 := hid (Blk.new w #[.bool false, .slice none 0 0, .slice none 0 0] 100)
 have t1 := hid ((Below.refl w.heap.size w).alloc (Nat.le_refl _) (.cells #[.bool false, .slice none 0 0, .slice none 0 0] 100))
 have wk : IntKind.i64.wrap ((k : Int) + 1) = (k : Int) + 1 := by rw [IntWalk.i64_in _ ⟨by omega, by omega⟩]
 have d0 := t0.out.cell 0
 have d1 := t0.out.cell 1
 have d2 := t0.out.cell 2
 have e0 := t0.out.free 0
 have e1 := t0.out.free 1
 have e2 := t0.out.free 2
 simp at d0 d1 d2
 have kle2 : S = true → k + 1 ≤ s.size := fun h => by rw [h] at hlt; have := of_decide_eq_true hlt.symm; omega
 have q0 := hlt.symm
 clear hlt
 rcases h with rfl | ⟨rfl, h1, h2, h3, rfl⟩
 ·have q1 : decide ((4000 : Int) < (D.size : Int)) = true := by
   rcases hl with hl | ⟨_, hl, _⟩
   ·simp; omega
   ·cases hl
  clear hl kle2
  go_enter Tryz.func130, Tryz.ntmps130
  go_wp2_with (first
   | (go_at_call 197; refine (HK.out.sl _).mono ?_; rintro e w1 ⟨rfl, rfl⟩)
   | (go_at_call 176; rw [cw.out]; refine (HK.out.int _).mono ?_; rintro e w2 ⟨rfl, rfl⟩)
   | (go_at_call 198; (first | rw [cb.out trivial] | rw [cb.out rfl]); refine (HK.out.form _).mono ?_; rintro e w3 ⟨rfl, rfl⟩)
   | fail)
  obtain ⟨s1, s2⟩ := set3 t0.out false none none 0 0 0 0
  have f0 := s2.cell 0
  have f1 := s2.cell 1
  have f2 := s2.cell 2
  simp at f0 f1 f2
  refine bodyPost_ret (v := .tuple #[.agg #[.bool false, .slice none 0 0, .slice none 0 0], .int .i64 5]) (by simp [results, Tryz.results130, go_sem, f0, f1, f2]) rfl ⟨rfl, ?_⟩
  first | exact t1.out | exact ((t1.out.setCell (Nat.le_refl _) _).setCell (Nat.le_refl _) _).setCell (Nat.le_refl _) _
 ·have kle3 := kle2 rfl
  have i1 := ne_lit (l := [48]) h1
  have i2 := ne_lit (l := [48]) h2
  have i3 := ne_lit (l := [49]) h3
  clear kle2
  rcases hl with hl | ⟨hl, -, hl2⟩
  ·have q1 : decide ((4000 : Int) < (D.size : Int)) = true := by simp; omega
   clear hl
   go_enter Tryz.func130, Tryz.ntmps130
   go_wp2_with (first
    | (go_at_call 197; refine (HK.out.sl _).mono ?_; rintro e w1 ⟨rfl, rfl⟩)
    | (go_at_call 176; rw [cw.out]; refine (HK.out.int _).mono ?_; rintro e w2 ⟨rfl, rfl⟩)
    | (go_at_call 198; (first | rw [cb.out trivial] | rw [cb.out rfl]); refine (HK.out.form _).mono ?_; rintro e w3 ⟨rfl, rfl⟩)
    | fail)
   obtain ⟨s1, s2⟩ := set3 t0.out false none none 0 0 0 0
   have f0 := s2.cell 0
   have f1 := s2.cell 1
   have f2 := s2.cell 2
   simp at f0 f1 f2
   refine bodyPost_ret (v := .tuple #[.agg #[.bool false, .slice none 0 0, .slice none 0 0], .int .i64 5]) (by simp [results, Tryz.results130, go_sem, f0, f1, f2]) rfl ⟨rfl, ?_⟩
   first | exact t1.out | exact ((t1.out.setCell (Nat.le_refl _) _).setCell (Nat.le_refl _) _).setCell (Nat.le_refl _) _
  ·have q1 : decide ((4000 : Int) < (D.size : Int)) = false := by simp; omega
   have q2 : decide ((4000 : Int) < (B.size : Int)) = true := by simp; omega
   clear hl hl2
   go_enter Tryz.func130, Tryz.ntmps130
   go_wp2_with (first
    | (go_at_call 197; refine (HK.out.sl _).mono ?_; rintro e w1 ⟨rfl, rfl⟩)
    | (go_at_call 176; rw [cw.out]; refine (HK.out.int _).mono ?_; rintro e w2 ⟨rfl, rfl⟩)
    | (go_at_call 198; (first | rw [cb.out trivial] | rw [cb.out rfl]); refine (HK.out.form _).mono ?_; rintro e w3 ⟨rfl, rfl⟩)
    | fail)
   obtain ⟨s1, s2⟩ := set3 t0.out false none none 0 0 0 0
   have f0 := s2.cell 0
   have f1 := s2.cell 1
   have f2 := s2.cell 2
   simp at f0 f1 f2
   refine bodyPost_ret (v := .tuple #[.agg #[.bool false, .slice none 0 0, .slice none 0 0], .int .i64 5]) (by simp [results, Tryz.results130, go_sem, f0, f1, f2]) rfl ⟨rfl, ?_⟩
   first | exact t1.out | exact ((t1.out.setCell (Nat.le_refl _) _).setCell (Nat.le_refl _) _).setCell (Nat.le_refl _) _
def RetRF (B : Nat) (x : Int) (m : Bool) (n d : Nat) (e : Ending) (w' : World) : Prop := ∃ v, e = .returned (.tuple #[v, .int .i64 x]) ∧ (x = 0 → ∃ N D, v = .agg #[.bool m, N, D] ∧ IsN .i64 w' N n ∧ IsN .i64 w' D d ∧ (∀ g, N.ownBlock = some g → B ≤ g) ∧ (∀ g, D.ownBlock = some g → B ≤ g)) ∧ (x ≠ 0 → v = .agg #[.bool false, .slice none 0 0, .slice none 0 0])
theorem RetRF.err {B : Nat} {x : Int} {m : Bool} {n d : Nat} {w' : World} (h : x ≠ 0) : RetRF B x m n d (.returned (.tuple #[.agg #[.bool false, .slice none 0 0, .slice none 0 0], .int .i64 x])) w' := ⟨_, rfl, fun e => absurd e h, fun _ => rfl⟩
theorem rd_fracF (w : World) (s W B D : ByteArray) (M : Bool) (k : Nat) (hs : s.size ≤ 1000000) (HC : CutR s W B D true M true true k)
 (h1 : ¬ D = ⟨#[48]⟩) (h2 : ¬ B = ⟨#[48]⟩) (h3 : ¬ B = ⟨#[49]⟩) (hl1 : ¬ 4000 < D.size) (hl2 : ¬ 4000 < B.size) (hd1 : allDig D.data.toList) (hd2 : allDig B.data.toList) :
 Calls Tryz.prog 130 #[.string s] w fun e w' => RetRF w.heap.size (if Nat.gcd (bN D) (bN B) = 1 then 0 else 3) M (bN D) (bN B) e w' ∧ Below w.heap.size w w' := by
 obtain ⟨xc, hxc⟩ : ∃ x : Int, (if Nat.gcd (bN D) (bN B) = 1 then 0 else 3) = x := ⟨_, rfl⟩
 rw [hxc]
 have HXC := hid hxc
 clear hxc
 have HK := hid HC
 have kle := HC.kle
 have hlt := HC.has
 have cw := hid HC.cutW
 have cb := hid HC.cutB
 clear HC
 have t0 := hid (Blk.new w #[.bool false, .slice none 0 0, .slice none 0 0] 100)
 have t1 := hid ((Below.refl w.heap.size w).alloc (Nat.le_refl _) (.cells #[.bool false, .slice none 0 0, .slice none 0 0] 100))
 have wk : IntKind.i64.wrap ((k : Int) + 1) = (k : Int) + 1 := by rw [IntWalk.i64_in _ ⟨by omega, by omega⟩]
 have kle3 : k + 1 ≤ s.size := by have := of_decide_eq_true hlt.symm; omega
 have q0 := hlt.symm
 clear hlt
 have i1 := ne_lit (l := [48]) h1
 have i2 := ne_lit (l := [48]) h2
 have i3 := ne_lit (l := [49]) h3
 have q1 : decide ((4000 : Int) < (D.size : Int)) = false := by simp; omega
 have q2 : decide ((4000 : Int) < (B.size : Int)) = false := by simp; omega
 have L1 := hid (bN_limbs hd1 hl1)
 have L2 := hid (bN_limbs hd2 hl2)
 have P1 := fun W => hid (r1_ReadF W D hd1 (by omega))
 have P2 := fun W => hid (r1_ReadF W B hd2 (by omega))
 clear hd1 hd2 h1 h2 h3 hl1 hl2
 go_enter Tryz.func130, Tryz.ntmps130
 go_wp2_with (first
  | (go_at_call 197; refine (HK.out.sl _).mono ?_; rintro e w1 ⟨rfl, rfl⟩)
  | (go_at_call 176; rw [cw.out]; refine (HK.out.int _).mono ?_; rintro e w2 ⟨rfl, rfl⟩)
  | (go_at_call 198; (first | rw [cb.out trivial] | rw [cb.out rfl]); refine (HK.out.form _).mono ?_; rintro e w3 ⟨rfl, rfl⟩)
  | fail)
 refine (P1 _).out.mono ?_; rintro e w4 ⟨⟨v4, rfl, hv4, hf4⟩, hb4⟩
 have F4 := hid (fun g hg => Nat.le_trans t1.out.size (hf4 g hg))
 have x4 := hid (t0.out.call hb4)
 have y4 := hid (bnext t1.out hb4)
 have N4 := hid hv4
 clear hb4 hv4 hf4
 obtain ⟨a4, c4, rfl, _⟩ := N4.out.openI
 obtain ⟨k1, hk1⟩ : ∃ k, (limbs (dv D.data.toList)).length = k := ⟨_, rfl⟩
 rw [hk1] at N4 F4 ⊢
 clear P1
 go_wp2_with fail
 refine (P2 _).out.mono ?_; rintro e w5 ⟨⟨v5, rfl, hv5, hf5⟩, hb5⟩
 have F5 := hid (fun g hg => Nat.le_trans y4.out.size (hf5 g hg))
 have x5 := hid (x4.out.call hb5)
 have y5 := hid (bnext y4.out hb5)
 have N5 := hid (N4.out.call hb5)
 have D5 := hid hv5
 clear hb5 hv5 hf5
 obtain ⟨a5, c5, rfl, _⟩ := D5.out.openI
 obtain ⟨k2, hk2⟩ : ∃ k, (limbs (dv B.data.toList)).length = k := ⟨_, rfl⟩
 rw [hk2] at D5 F5 ⊢
 clear P2
 go_wp2_with fail
 have z5 := hid (Blk.new w5 #[.bool M, .slice a4 k1 c4, .slice a5 k2 c5] 100)
 have b5 := hid ((Below.refl w5.heap.size w5).alloc (Nat.le_refl _) (.cells #[.bool M, .slice a4 k1 c4, .slice a5 k2 c5] 100))
 have g0 := z5.out.cell 0
 have g1 := z5.out.cell 1
 have g2 := z5.out.cell 2
 simp at g0 g1 g2
 go_wp2_with fail
 refine (r1_Common _ _ _ _ _ (N5.out.call b5.out) (D5.out.call b5.out) L1.out L2.out).mono ?_
 rintro e w6 ⟨⟨v6, rfl, hv6⟩, hb6⟩
 have z6 := hid (z5.out.call hb6)
 have x6 := hid ((x5.out.call b5.out).call hb6)
 have y6 := hid (bnext (bnext y5.out b5.out) hb6)
 have N6 := hid ((N5.out.call b5.out).call hb6)
 have D6 := hid ((D5.out.call b5.out).call hb6)
 have G6 := hid hv6
 clear hb6 hv6 g0 g1 g2
 go_wp2_with fail
 refine (r2_one _).mono ?_
 rintro e w7 ⟨⟨v7, rfl, hv7⟩, hb7⟩
 have z7 := hid (z6.out.call hb7)
 have x7 := hid (x6.out.call hb7)
 have y7 := hid (bnext y6.out hb7)
 have N7 := hid (N6.out.call hb7)
 have D7 := hid (D6.out.call hb7)
 have G7 := hid (G6.out.call hb7)
 have O7 := hid hv7
 clear hb7 hv7
 go_wp2_with fail
 refine (r1_Order _ _ _ _ _ G7.out O7.out).mono ?_
 rintro e w8 ⟨rfl, hb8⟩
 have z8 := hid (z7.out.call hb8)
 have x8 := hid (x7.out.call hb8)
 have y8 := hid (bnext y7.out hb8)
 have N8 := hid (N7.out.call hb8)
 have D8 := hid (D7.out.call hb8)
 clear hb8
 have d0 := x8.out.cell 0
 have d1 := x8.out.cell 1
 have d2 := x8.out.cell 2
 have e0 := x8.out.free 0
 have e1 := x8.out.free 1
 have e2 := x8.out.free 2
 have g0 := z8.out.cell 0
 have g1 := z8.out.cell 1
 have g2 := z8.out.cell 2
 simp at d0 d1 d2 g0 g1 g2
 by_cases hG : Nat.gcd (bN D) (bN B) = 1
 ·have hO : ordN (Nat.gcd (dv D.data.toList) (dv B.data.toList)) 1 = 0 := by rw [show Nat.gcd (dv D.data.toList) (dv B.data.toList) = 1 from hG]; exact ordN_eq
  have X0 := hid (show xc = 0 from by rw [← HXC.out, if_pos hG])
  rw [hO]
  clear hO hG
  go_wp2_with fail
  obtain ⟨s1, s2⟩ := set3 x8.out M a4 a5 k1 c4 k2 c5
  have f0 := s2.cell 0
  have f1 := s2.cell 1
  have f2 := s2.cell 2
  simp at f0 f1 f2
  refine bodyPost_ret (v := .tuple #[.agg #[.bool M, .slice a4 k1 c4, .slice a5 k2 c5], .int .i64 0]) (by simp [results, Tryz.results130, go_sem, f0, f1, f2]) rfl ⟨by rw [X0.out]; exact ⟨_, rfl, fun _ => ⟨_, _, rfl, s1 _ _ _ N8.out, s1 _ _ _ D8.out, F4.out, F5.out⟩, fun h => absurd rfl h⟩, ?_⟩
  exact ((y8.out.setCell (Nat.le_refl _) _).setCell (Nat.le_refl _) _).setCell (Nat.le_refl _) _
 ·have hO : (ordN (Nat.gcd (dv D.data.toList) (dv B.data.toList)) 1 != 0) = true := by
   have hG' : ¬ Nat.gcd (dv D.data.toList) (dv B.data.toList) = 1 := hG
   unfold ordN
   split
   ·rfl
   ·split
    ·rfl
    ·omega
  have X0 := hid (show xc = 3 from by rw [← HXC.out, if_neg hG])
  obtain ⟨t, ht⟩ : ∃ t, ordN (Nat.gcd (dv D.data.toList) (dv B.data.toList)) 1 = t := ⟨_, rfl⟩
  rw [ht] at hO ⊢
  clear ht hG
  go_wp2_with fail
  obtain ⟨s1, s2⟩ := set3 x8.out false none none 0 0 0 0
  have f0 := s2.cell 0
  have f1 := s2.cell 1
  have f2 := s2.cell 2
  simp at f0 f1 f2
  refine bodyPost_ret (v := .tuple #[.agg #[.bool false, .slice none 0 0, .slice none 0 0], .int .i64 3]) (by simp [results, Tryz.results130, go_sem, f0, f1, f2]) rfl ⟨by rw [X0.out]; exact RetRF.err (by decide), ?_⟩
  exact ((y8.out.setCell (Nat.le_refl _) _).setCell (Nat.le_refl _) _).setCell (Nat.le_refl _) _
theorem rd_intF (w : World) (s W B D : ByteArray) (M fb : Bool) (k : Nat) (hs : s.size ≤ 1000000) (HC : CutR s W B D false M true fb k)
 (hl1 : ¬ 4000 < D.size) (hd1 : allDig D.data.toList) :
 Calls Tryz.prog 130 #[.string s] w fun e w' => RetRF w.heap.size 0 M (bN D) 1 e w' ∧ Below w.heap.size w w' := by
 have HK := hid HC
 have kle := HC.kle
 have hlt := HC.has
 have cw := hid HC.cutW
 have cb := hid HC.cutB
 clear HC
 have t0 := hid (Blk.new w #[.bool false, .slice none 0 0, .slice none 0 0] 100)
 have t1 := hid ((Below.refl w.heap.size w).alloc (Nat.le_refl _) (.cells #[.bool false, .slice none 0 0, .slice none 0 0] 100))
 have wk : IntKind.i64.wrap ((k : Int) + 1) = (k : Int) + 1 := by rw [IntWalk.i64_in _ ⟨by omega, by omega⟩]
 have q0 := hlt.symm
 clear hlt
 have q1 : decide ((4000 : Int) < (D.size : Int)) = false := by simp; omega
 have L1 := hid (bN_limbs hd1 hl1)
 have L2 : Hid ((limbs 1).length ≤ 1000000) := by show _ ≤ _; rw [limbs_one]; decide
 have P1 := fun W => hid (r1_ReadF W D hd1 (by omega))
 have P2 : ∀ W, Hid (Calls Tryz.prog 50 #[.string ⟨#[49]⟩] W fun e w' => RetFr W.heap.size .i64 1 e w' ∧ Below W.heap.size W w') := fun W => hid (r1_ReadF W ⟨#[49]⟩ (by intro b hb; simp at hb; subst hb; rfl) (Nat.succ_le_succ (Nat.zero_le _)))
 have hO : ordN (Nat.gcd (dv D.data.toList) 1) 1 = 0 := by rw [Nat.gcd_one_right]; exact ordN_eq
 have HO := hid hO
 clear hd1 hl1 hO
 go_enter Tryz.func130, Tryz.ntmps130
 go_wp2_with (first
  | (go_at_call 197; refine (HK.out.sl _).mono ?_; rintro e w1 ⟨rfl, rfl⟩)
  | (go_at_call 176; rw [cw.out]; refine (HK.out.int _).mono ?_; rintro e w2 ⟨rfl, rfl⟩)
  | (go_at_call 198; (first | rw [cb.out trivial] | rw [cb.out rfl]); refine (HK.out.form _).mono ?_; rintro e w3 ⟨rfl, rfl⟩)
  | fail)
 refine (P1 _).out.mono ?_; rintro e w4 ⟨⟨v4, rfl, hv4, hf4⟩, hb4⟩
 have F4 := hid (fun g hg => Nat.le_trans t1.out.size (hf4 g hg))
 have x4 := hid (t0.out.call hb4)
 have y4 := hid (bnext t1.out hb4)
 have N4 := hid hv4
 clear hb4 hv4 hf4
 obtain ⟨a4, c4, rfl, _⟩ := N4.out.openI
 obtain ⟨k1, hk1⟩ : ∃ k, (limbs (dv D.data.toList)).length = k := ⟨_, rfl⟩
 rw [hk1] at N4 F4 ⊢
 clear P1
 go_wp2_with fail
 refine (P2 _).out.mono ?_; rintro e w5 ⟨⟨v5, rfl, hv5, hf5⟩, hb5⟩
 have F5 := hid (fun g hg => Nat.le_trans y4.out.size (hf5 g hg))
 have x5 := hid (x4.out.call hb5)
 have y5 := hid (bnext y4.out hb5)
 have N5 := hid (N4.out.call hb5)
 have D5 := hid hv5
 clear hb5 hv5 hf5
 obtain ⟨a5, c5, rfl, _⟩ := D5.out.openI
 obtain ⟨k2, hk2⟩ : ∃ k, (limbs 1).length = k := ⟨_, rfl⟩
 rw [hk2] at D5 F5 ⊢
 clear P2
 go_wp2_with fail
 have z5 := hid (Blk.new w5 #[.bool M, .slice a4 k1 c4, .slice a5 k2 c5] 100)
 have b5 := hid ((Below.refl w5.heap.size w5).alloc (Nat.le_refl _) (.cells #[.bool M, .slice a4 k1 c4, .slice a5 k2 c5] 100))
 have g0 := z5.out.cell 0
 have g1 := z5.out.cell 1
 have g2 := z5.out.cell 2
 simp at g0 g1 g2
 go_wp2_with fail
 refine (r1_Common _ _ _ _ _ (N5.out.call b5.out) (D5.out.call b5.out) L1.out L2.out).mono ?_
 rintro e w6 ⟨⟨v6, rfl, hv6⟩, hb6⟩
 have z6 := hid (z5.out.call hb6)
 have x6 := hid ((x5.out.call b5.out).call hb6)
 have y6 := hid (bnext (bnext y5.out b5.out) hb6)
 have N6 := hid ((N5.out.call b5.out).call hb6)
 have D6 := hid ((D5.out.call b5.out).call hb6)
 have G6 := hid hv6
 clear hb6 hv6 g0 g1 g2
 go_wp2_with fail
 refine (r2_one _).mono ?_
 rintro e w7 ⟨⟨v7, rfl, hv7⟩, hb7⟩
 have z7 := hid (z6.out.call hb7)
 have x7 := hid (x6.out.call hb7)
 have y7 := hid (bnext y6.out hb7)
 have N7 := hid (N6.out.call hb7)
 have D7 := hid (D6.out.call hb7)
 have G7 := hid (G6.out.call hb7)
 have O7 := hid hv7
 clear hb7 hv7
 go_wp2_with fail
 refine (r1_Order _ _ _ _ _ G7.out O7.out).mono ?_
 rintro e w8 ⟨rfl, hb8⟩
 have z8 := hid (z7.out.call hb8)
 have x8 := hid (x7.out.call hb8)
 have y8 := hid (bnext y7.out hb8)
 have N8 := hid (N7.out.call hb8)
 have D8 := hid (D7.out.call hb8)
 clear hb8
 have d0 := x8.out.cell 0
 have d1 := x8.out.cell 1
 have d2 := x8.out.cell 2
 have e0 := x8.out.free 0
 have e1 := x8.out.free 1
 have e2 := x8.out.free 2
 have g0 := z8.out.cell 0
 have g1 := z8.out.cell 1
 have g2 := z8.out.cell 2
 simp at d0 d1 d2 g0 g1 g2
 rw [HO.out]
 go_wp2_with fail
 obtain ⟨s1, s2⟩ := set3 x8.out M a4 a5 k1 c4 k2 c5
 have f0 := s2.cell 0
 have f1 := s2.cell 1
 have f2 := s2.cell 2
 simp at f0 f1 f2
 refine bodyPost_ret (v := .tuple #[.agg #[.bool M, .slice a4 k1 c4, .slice a5 k2 c5], .int .i64 0]) (by simp [results, Tryz.results130, go_sem, f0, f1, f2]) rfl ⟨⟨_, rfl, fun _ => ⟨_, _, rfl, s1 _ _ _ N8.out, s1 _ _ _ D8.out, F4.out, F5.out⟩, fun h => absurd rfl h⟩, ?_⟩
 exact ((y8.out.setCell (Nat.le_refl _) _).setCell (Nat.le_refl _) _).setCell (Nat.le_refl _) _
theorem RetRF.ret {B : Nat} {x : Int} {m : Bool} {n d : Nat} {e : Ending} {w' : World} (h : RetRF B x m n d e w') : RetR x m n d e w' := by
 obtain ⟨v, h1, h2, h3⟩ := h
 refine ⟨v, h1, fun h => ?_, h3⟩
 obtain ⟨N, D, k1, k2, k3, -, -⟩ := h2 h
 exact ⟨N, D, k1, k2, k3⟩
theorem rd_frac (w : World) (s W B D : ByteArray) (M : Bool) (k : Nat) (hs : s.size ≤ 1000000) (HC : CutR s W B D true M true true k)
 (h1 : ¬ D = ⟨#[48]⟩) (h2 : ¬ B = ⟨#[48]⟩) (h3 : ¬ B = ⟨#[49]⟩) (hl1 : ¬ 4000 < D.size) (hl2 : ¬ 4000 < B.size) (hd1 : allDig D.data.toList) (hd2 : allDig B.data.toList) :
 Calls Tryz.prog 130 #[.string s] w fun e w' => RetR (if Nat.gcd (bN D) (bN B) = 1 then 0 else 3) M (bN D) (bN B) e w' ∧ Below w.heap.size w w' :=
 (rd_fracF w s W B D M k hs HC h1 h2 h3 hl1 hl2 hd1 hd2).mono fun _ _ h => ⟨h.1.ret, h.2⟩
theorem rd_int (w : World) (s W B D : ByteArray) (M fb : Bool) (k : Nat) (hs : s.size ≤ 1000000) (HC : CutR s W B D false M true fb k)
 (hl1 : ¬ 4000 < D.size) (hd1 : allDig D.data.toList) :
 Calls Tryz.prog 130 #[.string s] w fun e w' => RetR 0 M (bN D) 1 e w' ∧ Below w.heap.size w w' :=
 (rd_intF w s W B D M fb k hs HC hl1 hd1).mono fun _ _ h => ⟨h.1.ret, h.2⟩
theorem r2_Read0 (w : World) (s : ByteArray) (hs : s.size ≤ 1000000) :
 Calls Tryz.prog 130 #[.string s] w fun e w' => RetR (qE s) (iM (cW s)) (bN (iD (cW s))) (bN (qD s)) e w' ∧ Below w.heap.size w w' := by
 have HC := cutR_of s hs
 by_cases hq : qB s = true
 ·have hi := qB_whole hq
  rw [hi] at HC
  have hdD := fB_dig (iB_form hi)
  have hcS : cS s = false ∨ (cS s = true ∧ ¬ iD (cW s) = ⟨#[48]⟩ ∧ ¬ cB s = ⟨#[48]⟩ ∧ ¬ cB s = ⟨#[49]⟩ ∧ fB (cB s) = true) := by
   have hq' := hq
   unfold qB at hq'
   simp only [Bool.and_eq_true, Bool.or_eq_true, Bool.not_eq_true', decide_eq_true_eq] at hq'
   rcases hq'.2 with h | h
   ·exact .inl h
   ·cases hc : cS s
    ·exact .inl rfl
    ·exact .inr ⟨rfl, h.1.1.1, h.1.2, h.2, h.1.1.2⟩
  by_cases hl : qL s = true
  ·have e : qE s = 5 := by simp [qE, hq, hl]
   rw [e]
   unfold qL at hl
   simp only [Bool.or_eq_true, decide_eq_true_eq] at hl
   refine (rd_long w s _ _ _ _ _ _ _ hs HC hcS ?_).mono ?_
   ·by_cases h4 : 4000 < (iD (cW s)).size
    ·exact .inl h4
    ·refine .inr ⟨h4, ?_⟩
     rcases hcS with hc | ⟨hc, -⟩
     ·rw [qD_false hc] at hl
      exact absurd (hl.resolve_left h4) (by decide)
     ·rw [qD_true hc] at hl
      exact ⟨hc, hl.resolve_left h4⟩
   ·rintro e w' ⟨rfl, hb⟩
    exact ⟨RetR.err (by decide), hb⟩
  ·have hl' : qL s = false := by simpa using hl
   have hl1 : ¬ 4000 < (iD (cW s)).size ∧ ¬ 4000 < (qD s).size := by
    unfold qL at hl'
    simpa using hl'
   rcases hcS with hc | ⟨hc, h1, h2, h3, h4⟩
   ·rw [hc] at HC
    have e : qE s = 0 := by simp [qE, hq, hl', qG, hc]
    rw [e, qD_false hc]
    exact rd_int w s _ _ _ _ _ _ hs HC hl1.1 hdD
   ·rw [hc, h4] at HC
    have hl2 := hl1.2
    rw [qD_true hc] at hl2
    have e : qE s = if Nat.gcd (bN (iD (cW s))) (bN (cB s)) = 1 then 0 else 3 := by
     simp only [qE, hq, hl', qG, hc, qD_true hc]
     by_cases hg : Nat.gcd (bN (iD (cW s))) (bN (cB s)) = 1 <;> simp [hg]
    rw [e, qD_true hc]
    exact rd_frac w s _ _ _ _ _ hs HC h1 h2 h3 hl1.1 hl2 hdD (fB_dig h4)
 ·have hq' : qB s = false := by simpa using hq
  have e : qE s = 3 := by simp [qE, hq']
  rw [e]
  refine (rd_bad w s _ _ _ _ _ _ _ _ hs HC hq').mono ?_
  rintro e w' ⟨rfl, hb⟩
  exact ⟨RetR.err (by decide), hb⟩
def RetQE (s : ByteArray) (e : Ending) (w' : World) : Prop := ∃ v, e = .returned (.tuple #[v, .int .i64 (qE s)]) ∧ (qE s = 0 → IsQ .i64 w' v (vQ s)) ∧ (qE s ≠ 0 → v = .agg #[.bool false, .slice none 0 0, .slice none 0 0])
theorem r2_Read (w : World) (s : ByteArray) (hs : s.size ≤ 1000000) :
 Calls Tryz.prog 130 #[.string s] w fun e w' => RetQE s e w' ∧ Below w.heap.size w w' := by
 refine (r2_Read0 w s hs).mono ?_
 rintro e w' ⟨⟨v, rfl, h1, h2⟩, hb⟩
 refine ⟨⟨v, rfl, fun h => ?_, h2⟩, hb⟩
 obtain ⟨N, D, rfl, hN, hD⟩ := h1 h
 obtain ⟨e1, e2, e3⟩ := vQ_ok h
 exact ⟨N, D, by rw [e1], by rw [e2]; exact hN, by rw [e3]; exact hD⟩
end Go.Proofs.YtlmnpocifldpmaaGreatDoor
namespace Go.Proofs.YtlmnpocifldpmaaGreatDoor
open Go.RowKit
theorem neg_parts {q : Rat} {m : Bool} (hm : decide (q.num < 0) = m) : decide ((-q).num < 0) = (!m && decide (0 < q.num.natAbs)) ∧ (-q).num.natAbs = q.num.natAbs ∧ (-q).den = q.den := by
 refine ⟨?_, by rw [Rat.neg_num, Int.natAbs_neg], Rat.neg_den q⟩
 rw [Rat.neg_num, ← hm, Bool.eq_iff_iff]
 simp only [Bool.and_eq_true, Bool.not_eq_true', decide_eq_true_eq, decide_eq_false_iff_not]
 omega
theorem r2_Negative (w : World) (v : Value) (q : Rat) (h : IsQ .i64 w v q) :
 Calls Tryz.prog 90 #[v] w fun e w' => RetQ .i64 (-q) e w' ∧ Below w.heap.size w w' := by
 obtain ⟨N, D, rfl, hn, hd⟩ := h.ex
 obtain ⟨m, hm⟩ : ∃ m, decide (q.num < 0) = m := ⟨_, rfl⟩
 have HN := hid hn; have HD := hid hd; have HP := hid (neg_parts hm)
 rw [hm]
 obtain ⟨a1, c1, rfl, _⟩ := hn.openI
 obtain ⟨a2, c2, rfl, _⟩ := hd.openI
 clear hn hd hm h
 obtain ⟨l, hl⟩ : ∃ l, (limbs q.num.natAbs).length = l := ⟨_, rfl⟩
 have hz : decide (0 < l) = decide (0 < q.num.natAbs) := by
  have h1 : l = 0 ↔ q.num.natAbs = 0 := by rw [← hl, List.length_eq_zero_iff, limbs_nil]
  exact decide_eq_decide.2 (by omega)
 have HZ := hid hz; have HL := hid hl
 rw [hl]
 clear hz hl
 go_enter Tryz.func90, Tryz.ntmps90
 go_wp2_with fail
 all_goals
  obtain ⟨p1, p2, p3⟩ := HP.out
  rw [← HZ.out] at p1
  refine bodyPost_ret (v := .agg #[_, .slice a1 l c1, .slice a2 (limbs q.den).length c2]) (by simp [results, Tryz.results90, go_sem]; rfl) rfl ⟨⟨_, rfl, ⟨.slice a1 l c1, .slice a2 (limbs q.den).length c2, ?_, ?_, ?_⟩⟩, ?_⟩
  ·rw [p1]; clear HP HZ HL HN HD; simp_all
  ·have hh := HN.out
   rw [HL.out] at hh
   rw [p2]; exact hh.call (((Below.refl w.heap.size w).alloc (Nat.le_refl _) _).alloc (by simp) _)
  ·rw [p3]; exact HD.out.call (((Below.refl w.heap.size w).alloc (Nat.le_refl _) _).alloc (by simp) _)
  ·exact (((Below.refl w.heap.size w).alloc (Nat.le_refl _) _).alloc (by simp) _)
def PlKey (m1 m2 : Bool) (x y : Nat) (m : Bool) (s : Nat) : Prop :=
 (m1 = m2 ∧ m = m1 ∧ s = x + y) ∨ ((m1 == m2) = false ∧ x < y ∧ m = m2 ∧ s = y - x) ∨ ((m1 == m2) = false ∧ y ≤ x ∧ m = m1 ∧ s = x - y)
theorem limbs_add {a b p : Nat} (ha : (limbs a).length ≤ p) (hb : (limbs b).length ≤ p) : (limbs (a + b)).length ≤ p + 1 := by
 refine limbs_length_le.2 ?_
 have h1 := limbs_length_le.1 ha
 have h2 := limbs_length_le.1 hb
 rw [Nat.pow_succ]
 omega
theorem ord_ge {x y : Nat} (h : y ≤ x) : decide (ordN x y < 0) = false := by
 unfold ordN
 split
 ·omega
 ·split <;> simp
theorem r2_Plus_walk (w : World) (m1 m2 m : Bool) (N1 D1 N2 D2 : Value) (n1 d1 n2 d2 s : Nat) (hn1 : IsN .i64 w N1 n1) (hd1 : IsN .i64 w D1 d1) (hn2 : IsN .i64 w N2 n2) (hd2 : IsN .i64 w D2 d2)
 (l1 : (limbs n1).length ≤ 100000) (l2 : (limbs d1).length ≤ 100000) (l3 : (limbs n2).length ≤ 100000) (l4 : (limbs d2).length ≤ 100000) (p1 : 0 < d1) (p2 : 0 < d2) (key : PlKey m1 m2 (n1 * d2) (n2 * d1) m s) :
 Calls Tryz.prog 82 #[.agg #[.bool m1, N1, D1], .agg #[.bool m2, N2, D2]] w fun e w' => RetQ .i64 (qmk m s (d1 * d2)) e w' ∧ Below w.heap.size w w' := by
 have HN1 := hid hn1; have HD1 := hid hd1; have HN2 := hid hn2; have HD2 := hid hd2
 have L1 := hid (Nat.le_trans (limbs_mul l1 l4) (show 100000 + 100000 ≤ 1000000 by omega))
 have L2 := hid (Nat.le_trans (limbs_mul l3 l2) (show 100000 + 100000 ≤ 1000000 by omega))
 have L3 := hid (Nat.le_trans (limbs_mul l2 l4) (show 100000 + 100000 ≤ 1000000 by omega))
 have H1 := hid (Nat.le_trans l1 (show 100000 ≤ 1000000 by omega))
 have H2 := hid (Nat.le_trans l2 (show 100000 ≤ 1000000 by omega))
 have H3 := hid (Nat.le_trans l3 (show 100000 ≤ 1000000 by omega))
 have H4 := hid (Nat.le_trans l4 (show 100000 ≤ 1000000 by omega))
 have hD := hid (Nat.mul_pos p1 p2)
 have LS : Hid ((limbs s).length ≤ 1000000) := by
  have q1 := limbs_mul l1 l4
  have q2 := limbs_mul l3 l2
  have q3 := limbs_add q1 q2
  have q4 : (limbs s).length ≤ (limbs (n1 * d2 + n2 * d1)).length := limbs_length_mono (by rcases key with ⟨-, -, rfl⟩ | ⟨-, -, -, rfl⟩ | ⟨-, -, -, rfl⟩ <;> omega)
  show _ ≤ _
  omega
 clear l1 l2 l3 l4 p1 p2
 obtain ⟨a1, c1, rfl, _⟩ := hn1.openI
 obtain ⟨a2, c2, rfl, _⟩ := hd1.openI
 obtain ⟨a3, c3, rfl, _⟩ := hn2.openI
 obtain ⟨a4, c4, rfl, _⟩ := hd2.openI
 obtain ⟨k1, hk1⟩ : ∃ k, (limbs n1).length = k := ⟨_, rfl⟩
 obtain ⟨k2, hk2⟩ : ∃ k, (limbs d1).length = k := ⟨_, rfl⟩
 obtain ⟨k3, hk3⟩ : ∃ k, (limbs n2).length = k := ⟨_, rfl⟩
 obtain ⟨k4, hk4⟩ : ∃ k, (limbs d2).length = k := ⟨_, rfl⟩
 rw [hk1] at HN1 ⊢
 rw [hk2] at HD1 ⊢
 rw [hk3] at HN2 ⊢
 rw [hk4] at HD2 ⊢
 clear hn1 hd1 hn2 hd2 hk1 hk2 hk3 hk4
 obtain ⟨x, hx⟩ : ∃ x, n1 * d2 = x := ⟨_, rfl⟩
 obtain ⟨y, hy⟩ : ∃ y, n2 * d1 = y := ⟨_, rfl⟩
 obtain ⟨z, hz⟩ : ∃ z, d1 * d2 = z := ⟨_, rfl⟩
 rw [hx, hy] at key
 rw [hx] at L1
 rw [hy] at L2
 rw [hz] at hD L3 ⊢
 have HX := hid hx; have HY := hid hy; have HZ := hid hz
 clear hx hy hz
 unfold PlKey at key
 rcases key with ⟨rfl, rfl, rfl⟩ | ⟨hne, hlt, rfl, rfl⟩ | ⟨hne, hle, rfl, rfl⟩
 ·go_enter Tryz.func82, Tryz.ntmps82
  go_wp2_with fail
  obtain ⟨W, hW⟩ : ∃ W, ((w.alloc (.cells #[.bool m, .slice a1 k1 c1, .slice a2 k2 c2] 100)).alloc (.cells #[.bool m, .slice a3 k3 c3, .slice a4 k4 c4] 100)).alloc (.cells #[.bool false, .slice none 0 0, .slice none 0 0] 100) = W := ⟨_, rfl⟩
  rw [hW]
  have X0 : Below w.heap.size w W := by rw [← hW]; exact (((Below.refl _ _).alloc (Nat.le_refl _) _).alloc (by simp) _).alloc (by simp; omega) _
  have Y0 : Blk W w.heap.size #[.bool m, .slice a1 k1 c1, .slice a2 k2 c2] 100 := by rw [← hW]; exact ((Blk.new w _ _).alloc _).alloc _
  have Y1 : Blk W (w.heap.size + 1) #[.bool m, .slice a3 k3 c3, .slice a4 k4 c4] 100 := by rw [← hW]; exact (Blk.made (w.alloc _) _ _ (by simp)).alloc _
  have Y2 : Blk W (w.heap.size + 1 + 1) #[.bool false, .slice none 0 0, .slice none 0 0] 100 := by rw [← hW]; exact Blk.made ((w.alloc _).alloc _) _ _ (by simp)
  have K : Hid (∀ w', Below W.heap.size W w' → w'.cell? ⟨w.heap.size, 0, none⟩ = some (.bool m) ∧ w'.cell? ⟨w.heap.size, 1, none⟩ = some (.slice a1 k1 c1) ∧ w'.cell? ⟨w.heap.size, 2, none⟩ = some (.slice a2 k2 c2) ∧ w'.cell? ⟨w.heap.size + 1, 0, none⟩ = some (.bool m) ∧ w'.cell? ⟨w.heap.size + 1, 1, none⟩ = some (.slice a3 k3 c3) ∧ w'.cell? ⟨w.heap.size + 1, 2, none⟩ = some (.slice a4 k4 c4)) := fun w' hb => ⟨(Y0.call hb).cell 0, (Y0.call hb).cell 1, (Y0.call hb).cell 2, (Y1.call hb).cell 0, (Y1.call hb).cell 1, (Y1.call hb).cell 2⟩
  have HY0 := hid Y0; have HY1 := hid Y1; have HY2 := hid Y2; have HX0 := hid X0
  obtain ⟨i0, i1, i2, i3, i4, i5⟩ := K W (Below.refl _ _)
  clear Y0 Y1 Y2 X0 hW
  have XN1 := hid (HN1.out.call HX0.out); have XD1 := hid (HD1.out.call HX0.out); have XN2 := hid (HN2.out.call HX0.out); have XD2 := hid (HD2.out.call HX0.out)
  go_region_held3 (fun w' => w'.cell? ⟨w.heap.size, 0, none⟩ = some (.bool m) ∧ w'.cell? ⟨w.heap.size, 1, none⟩ = some (.slice a1 k1 c1) ∧ w'.cell? ⟨w.heap.size, 2, none⟩ = some (.slice a2 k2 c2) ∧ w'.cell? ⟨w.heap.size + 1, 0, none⟩ = some (.bool m) ∧ w'.cell? ⟨w.heap.size + 1, 1, none⟩ = some (.slice a3 k3 c3) ∧ w'.cell? ⟨w.heap.size + 1, 2, none⟩ = some (.slice a4 k4 c4))
   (first
    | exact K.out _ (Below.refl _ _).drew
    | exact K.out _ bb2.out
    | exact K.out _ bb1.out)
   (first
    | (go_at_call_of 132 (Value.slice a1 k1 c1); refine (r1_Times _ _ _ n1 d2 (XN1.out.call (by first | exact bb2.out | exact (Below.refl _ _).drew)) (XD2.out.call (by first | exact bb2.out | exact (Below.refl _ _).drew)) H1.out H4.out).mono ?_; rintro e w1 ⟨⟨v1, rfl, hv1⟩, hb1⟩; have bb1 := hid (bnext (by first | exact bb2.out | exact (Below.refl _ _).drew) hb1))
    | (go_at_call_of 132 (Value.slice a3 k3 c3); refine (r1_Times _ _ _ n2 d1 (XN2.out.call (by first | exact bb1.out | exact (Below.refl _ _).drew)) (XD1.out.call (by first | exact bb1.out | exact (Below.refl _ _).drew)) H3.out H2.out).mono ?_; rintro e w2 ⟨⟨v2, rfl, hv2⟩, hb2⟩; have bb2 := hid (bnext (by first | exact bb1.out | exact (Below.refl _ _).drew) hb2)))
  have V2 := hid hv2; have V1 := hid (hv1.call hb2)
  rw [HX.out] at V1
  rw [HY.out] at V2
  clear hv1 hv2 hb1 hb2 i0 i1 i2 i3 i4 i5
  obtain ⟨i0, i1, i2, i3, i4, i5⟩ := K.out _ bb2.out
  go_wp2_with fail
  refine (r1_Times _ _ _ d1 d2 (XD1.out.call bb2.out) (XD2.out.call bb2.out) H2.out H4.out).mono ?_; rintro e w3 ⟨⟨v3, rfl, hv3⟩, hb3⟩
  have bb3 := hid (bnext bb2.out hb3)
  rw [HZ.out] at hv3
  have V3 := hid hv3
  have V1' := hid (V1.out.call hb3); have V2' := hid (V2.out.call hb3)
  clear hv3 hb3 i0 i1 i2 i3 i4 i5 V1 V2
  obtain ⟨i0, i1, i2, i3, i4, i5⟩ := K.out _ bb3.out
  obtain ⟨ja1, jc1, rfl, _⟩ := V1'.out.openI
  obtain ⟨ja2, jc2, rfl, _⟩ := V2'.out.openI
  obtain ⟨ja3, jc3, rfl, _⟩ := V3.out.openI
  obtain ⟨jk1, hj1⟩ : ∃ k, (limbs x).length = k := ⟨_, rfl⟩
  obtain ⟨jk2, hj2⟩ : ∃ k, (limbs y).length = k := ⟨_, rfl⟩
  obtain ⟨jk3, hj3⟩ : ∃ k, (limbs z).length = k := ⟨_, rfl⟩
  rw [hj1] at V1' ⊢
  rw [hj2] at V2' ⊢
  rw [hj3] at V3 ⊢
  clear hj1 hj2 hj3
  go_wp2_with fail
  have K2 : Hid (∀ w1 x y z, Below W.heap.size W w1 → ∀ w', ((w1.setCell ⟨w.heap.size + 1 + 1, 0, none⟩ x).setCell ⟨w.heap.size + 1 + 1, 1, none⟩ y).setCell ⟨w.heap.size + 1 + 1, 2, none⟩ z = w' → w'.cell? ⟨w.heap.size, 0, none⟩ = some (.bool m) ∧ w'.cell? ⟨w.heap.size, 1, none⟩ = some (.slice a1 k1 c1) ∧ w'.cell? ⟨w.heap.size, 2, none⟩ = some (.slice a2 k2 c2) ∧ w'.cell? ⟨w.heap.size + 1, 0, none⟩ = some (.bool m) ∧ w'.cell? ⟨w.heap.size + 1, 1, none⟩ = some (.slice a3 k3 c3) ∧ w'.cell? ⟨w.heap.size + 1, 2, none⟩ = some (.slice a4 k4 c4)) := by
   rintro w1 x y z hb _ rfl
   have Z0 := (((HY0.out.call hb).other (a := ⟨w.heap.size + 1 + 1, 0, none⟩) (by simp; omega) x).other (a := ⟨w.heap.size + 1 + 1, 1, none⟩) (by simp; omega) y).other (a := ⟨w.heap.size + 1 + 1, 2, none⟩) (by simp; omega) z
   have Z1 := (((HY1.out.call hb).other (a := ⟨w.heap.size + 1 + 1, 0, none⟩) (by simp) x).other (a := ⟨w.heap.size + 1 + 1, 1, none⟩) (by simp) y).other (a := ⟨w.heap.size + 1 + 1, 2, none⟩) (by simp) z
   exact ⟨Z0.cell 0, Z0.cell 1, Z0.cell 2, Z1.cell 0, Z1.cell 1, Z1.cell 2⟩
  go_region_held3 (fun w' => w'.cell? ⟨w.heap.size, 0, none⟩ = some (.bool m) ∧ w'.cell? ⟨w.heap.size, 1, none⟩ = some (.slice a1 k1 c1) ∧ w'.cell? ⟨w.heap.size, 2, none⟩ = some (.slice a2 k2 c2) ∧ w'.cell? ⟨w.heap.size + 1, 0, none⟩ = some (.bool m) ∧ w'.cell? ⟨w.heap.size + 1, 1, none⟩ = some (.slice a3 k3 c3) ∧ w'.cell? ⟨w.heap.size + 1, 2, none⟩ = some (.slice a4 k4 c4))
   (first
    | exact K.out _ (by first | exact bb3.out.drew | exact below_drewN bb3.out _)
    | exact K2.out _ _ _ _ bb6.out _ rfl
    | exact K.out _ bb6.out
    | exact K.out _ bb5.out)
   (first
    | (go_at_call 111; refine (r1_Plus _ _ _ x y (V1'.out.call (by first | exact (Below.refl _ _).drew | exact below_drewN (Below.refl _ _) _ | exact Below.refl _ _)) (V2'.out.call (by first | exact (Below.refl _ _).drew | exact below_drewN (Below.refl _ _) _ | exact Below.refl _ _)) L1.out L2.out).mono ?_; rintro e w5 ⟨⟨v5, rfl, hv5⟩, hb5⟩; have bb5 := hid (bnext (by first | exact bb3.out.drew | exact below_drewN bb3.out _ | exact bb3.out) hb5); have V5 := hid hv5; have Z5 := hid ((V3.out.call (Below.refl _ _).drew).call hb5))
    | (go_at_call 131; refine (r2_Reduce _ _ _ _ (x + y) z V5.out Z5.out hD.out LS.out L3.out).mono ?_; rintro e w6 ⟨⟨v6, rfl, hv6⟩, hb6⟩; obtain ⟨N6, D6, rfl, hN6, hD6⟩ := hv6.ex; have bb6 := hid (bnext bb5.out hb6); obtain ⟨a5, c5, rfl, _⟩ := hN6.openI; obtain ⟨a6, c6, rfl, _⟩ := hD6.openI; have HN6 := hid hN6; have HD6 := hid hD6; have Z := hid (HY2.out.call bb6.out); have t0 := Z.out.cell 0; have t1 := Z.out.cell 1; have t2 := Z.out.cell 2; have t3 := Z.out.free 0; have t4 := Z.out.free 1; have t5 := Z.out.free 2; clear hv6 hN6 hD6))
  go_wp2_with fail
  obtain ⟨s1, s2⟩ := set3 Z.out (decide ((qmk m (x + y) z).num < 0)) a5 a6 (limbs (qmk m (x + y) z).num.natAbs).length c5 (limbs (qmk m (x + y) z).den).length c6
  have f0 := s2.cell 0
  have f1 := s2.cell 1
  have f2 := s2.cell 2
  simp at f0 f1 f2
  refine bodyPost_ret (v := .agg #[.bool (decide ((qmk m (x + y) z).num < 0)), .slice a5 (limbs (qmk m (x + y) z).num.natAbs).length c5, .slice a6 (limbs (qmk m (x + y) z).den).length c6]) (by simp [results, Tryz.results82, go_sem, f0, f1, f2]) rfl ⟨⟨_, rfl, ⟨_, _, rfl, s1 _ _ _ HN6.out, s1 _ _ _ HD6.out⟩⟩, ?_⟩
  exact (((HX0.out.trans (bb6.out.mono (Nat.le_trans (Nat.le_refl _) HX0.out.size))).setCell (by simp; omega) _).setCell (by simp; omega) _).setCell (by simp; omega) _
 ·have HLT := hid hlt; have HLE := hid (Nat.le_of_lt hlt)
  clear hlt
  go_enter Tryz.func82, Tryz.ntmps82
  go_wp2_with fail
  obtain ⟨W, hW⟩ : ∃ W, ((w.alloc (.cells #[.bool m1, .slice a1 k1 c1, .slice a2 k2 c2] 100)).alloc (.cells #[.bool m, .slice a3 k3 c3, .slice a4 k4 c4] 100)).alloc (.cells #[.bool false, .slice none 0 0, .slice none 0 0] 100) = W := ⟨_, rfl⟩
  rw [hW]
  have X0 : Below w.heap.size w W := by rw [← hW]; exact (((Below.refl _ _).alloc (Nat.le_refl _) _).alloc (by simp) _).alloc (by simp; omega) _
  have Y0 : Blk W w.heap.size #[.bool m1, .slice a1 k1 c1, .slice a2 k2 c2] 100 := by rw [← hW]; exact ((Blk.new w _ _).alloc _).alloc _
  have Y1 : Blk W (w.heap.size + 1) #[.bool m, .slice a3 k3 c3, .slice a4 k4 c4] 100 := by rw [← hW]; exact (Blk.made (w.alloc _) _ _ (by simp)).alloc _
  have Y2 : Blk W (w.heap.size + 1 + 1) #[.bool false, .slice none 0 0, .slice none 0 0] 100 := by rw [← hW]; exact Blk.made ((w.alloc _).alloc _) _ _ (by simp)
  have K : Hid (∀ w', Below W.heap.size W w' → w'.cell? ⟨w.heap.size, 0, none⟩ = some (.bool m1) ∧ w'.cell? ⟨w.heap.size, 1, none⟩ = some (.slice a1 k1 c1) ∧ w'.cell? ⟨w.heap.size, 2, none⟩ = some (.slice a2 k2 c2) ∧ w'.cell? ⟨w.heap.size + 1, 0, none⟩ = some (.bool m) ∧ w'.cell? ⟨w.heap.size + 1, 1, none⟩ = some (.slice a3 k3 c3) ∧ w'.cell? ⟨w.heap.size + 1, 2, none⟩ = some (.slice a4 k4 c4)) := fun w' hb => ⟨(Y0.call hb).cell 0, (Y0.call hb).cell 1, (Y0.call hb).cell 2, (Y1.call hb).cell 0, (Y1.call hb).cell 1, (Y1.call hb).cell 2⟩
  have HY0 := hid Y0; have HY1 := hid Y1; have HY2 := hid Y2; have HX0 := hid X0
  obtain ⟨i0, i1, i2, i3, i4, i5⟩ := K W (Below.refl _ _)
  clear Y0 Y1 Y2 X0 hW
  have XN1 := hid (HN1.out.call HX0.out); have XD1 := hid (HD1.out.call HX0.out); have XN2 := hid (HN2.out.call HX0.out); have XD2 := hid (HD2.out.call HX0.out)
  go_region_held3 (fun w' => w'.cell? ⟨w.heap.size, 0, none⟩ = some (.bool m1) ∧ w'.cell? ⟨w.heap.size, 1, none⟩ = some (.slice a1 k1 c1) ∧ w'.cell? ⟨w.heap.size, 2, none⟩ = some (.slice a2 k2 c2) ∧ w'.cell? ⟨w.heap.size + 1, 0, none⟩ = some (.bool m) ∧ w'.cell? ⟨w.heap.size + 1, 1, none⟩ = some (.slice a3 k3 c3) ∧ w'.cell? ⟨w.heap.size + 1, 2, none⟩ = some (.slice a4 k4 c4))
   (first
    | exact K.out _ (Below.refl _ _).drew
    | exact K.out _ bb2.out
    | exact K.out _ bb1.out)
   (first
    | (go_at_call_of 132 (Value.slice a1 k1 c1); refine (r1_Times _ _ _ n1 d2 (XN1.out.call (by first | exact bb2.out | exact (Below.refl _ _).drew)) (XD2.out.call (by first | exact bb2.out | exact (Below.refl _ _).drew)) H1.out H4.out).mono ?_; rintro e w1 ⟨⟨v1, rfl, hv1⟩, hb1⟩; have bb1 := hid (bnext (by first | exact bb2.out | exact (Below.refl _ _).drew) hb1))
    | (go_at_call_of 132 (Value.slice a3 k3 c3); refine (r1_Times _ _ _ n2 d1 (XN2.out.call (by first | exact bb1.out | exact (Below.refl _ _).drew)) (XD1.out.call (by first | exact bb1.out | exact (Below.refl _ _).drew)) H3.out H2.out).mono ?_; rintro e w2 ⟨⟨v2, rfl, hv2⟩, hb2⟩; have bb2 := hid (bnext (by first | exact bb1.out | exact (Below.refl _ _).drew) hb2)))
  have V2 := hid hv2; have V1 := hid (hv1.call hb2)
  rw [HX.out] at V1
  rw [HY.out] at V2
  clear hv1 hv2 hb1 hb2 i0 i1 i2 i3 i4 i5
  obtain ⟨i0, i1, i2, i3, i4, i5⟩ := K.out _ bb2.out
  go_wp2_with fail
  refine (r1_Times _ _ _ d1 d2 (XD1.out.call bb2.out) (XD2.out.call bb2.out) H2.out H4.out).mono ?_; rintro e w3 ⟨⟨v3, rfl, hv3⟩, hb3⟩
  have bb3 := hid (bnext bb2.out hb3)
  rw [HZ.out] at hv3
  have V3 := hid hv3
  have V1' := hid (V1.out.call hb3); have V2' := hid (V2.out.call hb3)
  clear hv3 hb3 i0 i1 i2 i3 i4 i5 V1 V2
  obtain ⟨i0, i1, i2, i3, i4, i5⟩ := K.out _ bb3.out
  obtain ⟨ja1, jc1, rfl, _⟩ := V1'.out.openI
  obtain ⟨ja2, jc2, rfl, _⟩ := V2'.out.openI
  obtain ⟨ja3, jc3, rfl, _⟩ := V3.out.openI
  obtain ⟨jk1, hj1⟩ : ∃ k, (limbs x).length = k := ⟨_, rfl⟩
  obtain ⟨jk2, hj2⟩ : ∃ k, (limbs y).length = k := ⟨_, rfl⟩
  obtain ⟨jk3, hj3⟩ : ∃ k, (limbs z).length = k := ⟨_, rfl⟩
  rw [hj1] at V1' ⊢
  rw [hj2] at V2' ⊢
  rw [hj3] at V3 ⊢
  clear hj1 hj2 hj3
  go_wp2_with fail
  refine (r1_Order _ _ _ x y V1'.out V2'.out).mono ?_; rintro e w4 ⟨rfl, hb4⟩
  have bb4 := hid (bnext bb3.out hb4)
  have W1 := hid (V1'.out.call hb4); have W2 := hid (V2'.out.call hb4); have W3 := hid (V3.out.call hb4)
  clear hb4 i0 i1 i2 i3 i4 i5
  obtain ⟨i0, i1, i2, i3, i4, i5⟩ := K.out _ bb4.out
  rw [ordN_lt HLT.out]
  go_wp2_with fail
  have K2 : Hid (∀ w1 x y z, Below W.heap.size W w1 → ∀ w', ((w1.setCell ⟨w.heap.size + 1 + 1, 0, none⟩ x).setCell ⟨w.heap.size + 1 + 1, 1, none⟩ y).setCell ⟨w.heap.size + 1 + 1, 2, none⟩ z = w' → w'.cell? ⟨w.heap.size, 0, none⟩ = some (.bool m1) ∧ w'.cell? ⟨w.heap.size, 1, none⟩ = some (.slice a1 k1 c1) ∧ w'.cell? ⟨w.heap.size, 2, none⟩ = some (.slice a2 k2 c2) ∧ w'.cell? ⟨w.heap.size + 1, 0, none⟩ = some (.bool m) ∧ w'.cell? ⟨w.heap.size + 1, 1, none⟩ = some (.slice a3 k3 c3) ∧ w'.cell? ⟨w.heap.size + 1, 2, none⟩ = some (.slice a4 k4 c4)) := by
   rintro w1 x y z hb _ rfl
   have Z0 := (((HY0.out.call hb).other (a := ⟨w.heap.size + 1 + 1, 0, none⟩) (by simp; omega) x).other (a := ⟨w.heap.size + 1 + 1, 1, none⟩) (by simp; omega) y).other (a := ⟨w.heap.size + 1 + 1, 2, none⟩) (by simp; omega) z
   have Z1 := (((HY1.out.call hb).other (a := ⟨w.heap.size + 1 + 1, 0, none⟩) (by simp) x).other (a := ⟨w.heap.size + 1 + 1, 1, none⟩) (by simp) y).other (a := ⟨w.heap.size + 1 + 1, 2, none⟩) (by simp) z
   exact ⟨Z0.cell 0, Z0.cell 1, Z0.cell 2, Z1.cell 0, Z1.cell 1, Z1.cell 2⟩
  go_region_held3 (fun w' => w'.cell? ⟨w.heap.size, 0, none⟩ = some (.bool m1) ∧ w'.cell? ⟨w.heap.size, 1, none⟩ = some (.slice a1 k1 c1) ∧ w'.cell? ⟨w.heap.size, 2, none⟩ = some (.slice a2 k2 c2) ∧ w'.cell? ⟨w.heap.size + 1, 0, none⟩ = some (.bool m) ∧ w'.cell? ⟨w.heap.size + 1, 1, none⟩ = some (.slice a3 k3 c3) ∧ w'.cell? ⟨w.heap.size + 1, 2, none⟩ = some (.slice a4 k4 c4))
   (first
    | exact K.out _ (by first | exact bb4.out.drew | exact below_drewN bb4.out _)
    | exact K2.out _ _ _ _ bb6.out _ rfl
    | exact K.out _ bb6.out
    | exact K.out _ bb5.out)
   (first
    | (go_at_call 151; refine (r1_Minus _ _ _ y x (W2.out.call (by first | exact (Below.refl _ _).drew | exact below_drewN (Below.refl _ _) _ | exact Below.refl _ _)) (W1.out.call (by first | exact (Below.refl _ _).drew | exact below_drewN (Below.refl _ _) _ | exact Below.refl _ _)) HLE.out L2.out).mono ?_; rintro e w5 ⟨⟨v5, rfl, hv5⟩, hb5⟩; have bb5 := hid (bnext (by first | exact bb4.out.drew | exact below_drewN bb4.out _ | exact bb4.out) hb5); have V5 := hid hv5; have Z5 := hid ((W3.out.call (Below.refl _ _).drew).call hb5))
    | (go_at_call 131; refine (r2_Reduce _ _ _ _ (y - x) z V5.out Z5.out hD.out LS.out L3.out).mono ?_; rintro e w6 ⟨⟨v6, rfl, hv6⟩, hb6⟩; obtain ⟨N6, D6, rfl, hN6, hD6⟩ := hv6.ex; have bb6 := hid (bnext bb5.out hb6); obtain ⟨a5, c5, rfl, _⟩ := hN6.openI; obtain ⟨a6, c6, rfl, _⟩ := hD6.openI; have HN6 := hid hN6; have HD6 := hid hD6; have Z := hid (HY2.out.call bb6.out); have t0 := Z.out.cell 0; have t1 := Z.out.cell 1; have t2 := Z.out.cell 2; have t3 := Z.out.free 0; have t4 := Z.out.free 1; have t5 := Z.out.free 2; clear hv6 hN6 hD6))
  go_wp2_with fail
  obtain ⟨s1, s2⟩ := set3 Z.out (decide ((qmk m (y - x) z).num < 0)) a5 a6 (limbs (qmk m (y - x) z).num.natAbs).length c5 (limbs (qmk m (y - x) z).den).length c6
  have f0 := s2.cell 0
  have f1 := s2.cell 1
  have f2 := s2.cell 2
  simp at f0 f1 f2
  refine bodyPost_ret (v := .agg #[.bool (decide ((qmk m (y - x) z).num < 0)), .slice a5 (limbs (qmk m (y - x) z).num.natAbs).length c5, .slice a6 (limbs (qmk m (y - x) z).den).length c6]) (by simp [results, Tryz.results82, go_sem, f0, f1, f2]) rfl ⟨⟨_, rfl, ⟨_, _, rfl, s1 _ _ _ HN6.out, s1 _ _ _ HD6.out⟩⟩, ?_⟩
  exact (((HX0.out.trans (bb6.out.mono (Nat.le_trans (Nat.le_refl _) HX0.out.size))).setCell (by simp; omega) _).setCell (by simp; omega) _).setCell (by simp; omega) _
 ·have HLE := hid hle
  clear hle
  go_enter Tryz.func82, Tryz.ntmps82
  go_wp2_with fail
  obtain ⟨W, hW⟩ : ∃ W, ((w.alloc (.cells #[.bool m, .slice a1 k1 c1, .slice a2 k2 c2] 100)).alloc (.cells #[.bool m2, .slice a3 k3 c3, .slice a4 k4 c4] 100)).alloc (.cells #[.bool false, .slice none 0 0, .slice none 0 0] 100) = W := ⟨_, rfl⟩
  rw [hW]
  have X0 : Below w.heap.size w W := by rw [← hW]; exact (((Below.refl _ _).alloc (Nat.le_refl _) _).alloc (by simp) _).alloc (by simp; omega) _
  have Y0 : Blk W w.heap.size #[.bool m, .slice a1 k1 c1, .slice a2 k2 c2] 100 := by rw [← hW]; exact ((Blk.new w _ _).alloc _).alloc _
  have Y1 : Blk W (w.heap.size + 1) #[.bool m2, .slice a3 k3 c3, .slice a4 k4 c4] 100 := by rw [← hW]; exact (Blk.made (w.alloc _) _ _ (by simp)).alloc _
  have Y2 : Blk W (w.heap.size + 1 + 1) #[.bool false, .slice none 0 0, .slice none 0 0] 100 := by rw [← hW]; exact Blk.made ((w.alloc _).alloc _) _ _ (by simp)
  have K : Hid (∀ w', Below W.heap.size W w' → w'.cell? ⟨w.heap.size, 0, none⟩ = some (.bool m) ∧ w'.cell? ⟨w.heap.size, 1, none⟩ = some (.slice a1 k1 c1) ∧ w'.cell? ⟨w.heap.size, 2, none⟩ = some (.slice a2 k2 c2) ∧ w'.cell? ⟨w.heap.size + 1, 0, none⟩ = some (.bool m2) ∧ w'.cell? ⟨w.heap.size + 1, 1, none⟩ = some (.slice a3 k3 c3) ∧ w'.cell? ⟨w.heap.size + 1, 2, none⟩ = some (.slice a4 k4 c4)) := fun w' hb => ⟨(Y0.call hb).cell 0, (Y0.call hb).cell 1, (Y0.call hb).cell 2, (Y1.call hb).cell 0, (Y1.call hb).cell 1, (Y1.call hb).cell 2⟩
  have HY0 := hid Y0; have HY1 := hid Y1; have HY2 := hid Y2; have HX0 := hid X0
  obtain ⟨i0, i1, i2, i3, i4, i5⟩ := K W (Below.refl _ _)
  clear Y0 Y1 Y2 X0 hW
  have XN1 := hid (HN1.out.call HX0.out); have XD1 := hid (HD1.out.call HX0.out); have XN2 := hid (HN2.out.call HX0.out); have XD2 := hid (HD2.out.call HX0.out)
  go_region_held3 (fun w' => w'.cell? ⟨w.heap.size, 0, none⟩ = some (.bool m) ∧ w'.cell? ⟨w.heap.size, 1, none⟩ = some (.slice a1 k1 c1) ∧ w'.cell? ⟨w.heap.size, 2, none⟩ = some (.slice a2 k2 c2) ∧ w'.cell? ⟨w.heap.size + 1, 0, none⟩ = some (.bool m2) ∧ w'.cell? ⟨w.heap.size + 1, 1, none⟩ = some (.slice a3 k3 c3) ∧ w'.cell? ⟨w.heap.size + 1, 2, none⟩ = some (.slice a4 k4 c4))
   (first
    | exact K.out _ (Below.refl _ _).drew
    | exact K.out _ bb2.out
    | exact K.out _ bb1.out)
   (first
    | (go_at_call_of 132 (Value.slice a1 k1 c1); refine (r1_Times _ _ _ n1 d2 (XN1.out.call (by first | exact bb2.out | exact (Below.refl _ _).drew)) (XD2.out.call (by first | exact bb2.out | exact (Below.refl _ _).drew)) H1.out H4.out).mono ?_; rintro e w1 ⟨⟨v1, rfl, hv1⟩, hb1⟩; have bb1 := hid (bnext (by first | exact bb2.out | exact (Below.refl _ _).drew) hb1))
    | (go_at_call_of 132 (Value.slice a3 k3 c3); refine (r1_Times _ _ _ n2 d1 (XN2.out.call (by first | exact bb1.out | exact (Below.refl _ _).drew)) (XD1.out.call (by first | exact bb1.out | exact (Below.refl _ _).drew)) H3.out H2.out).mono ?_; rintro e w2 ⟨⟨v2, rfl, hv2⟩, hb2⟩; have bb2 := hid (bnext (by first | exact bb1.out | exact (Below.refl _ _).drew) hb2)))
  have V2 := hid hv2; have V1 := hid (hv1.call hb2)
  rw [HX.out] at V1
  rw [HY.out] at V2
  clear hv1 hv2 hb1 hb2 i0 i1 i2 i3 i4 i5
  obtain ⟨i0, i1, i2, i3, i4, i5⟩ := K.out _ bb2.out
  go_wp2_with fail
  refine (r1_Times _ _ _ d1 d2 (XD1.out.call bb2.out) (XD2.out.call bb2.out) H2.out H4.out).mono ?_; rintro e w3 ⟨⟨v3, rfl, hv3⟩, hb3⟩
  have bb3 := hid (bnext bb2.out hb3)
  rw [HZ.out] at hv3
  have V3 := hid hv3
  have V1' := hid (V1.out.call hb3); have V2' := hid (V2.out.call hb3)
  clear hv3 hb3 i0 i1 i2 i3 i4 i5 V1 V2
  obtain ⟨i0, i1, i2, i3, i4, i5⟩ := K.out _ bb3.out
  obtain ⟨ja1, jc1, rfl, _⟩ := V1'.out.openI
  obtain ⟨ja2, jc2, rfl, _⟩ := V2'.out.openI
  obtain ⟨ja3, jc3, rfl, _⟩ := V3.out.openI
  obtain ⟨jk1, hj1⟩ : ∃ k, (limbs x).length = k := ⟨_, rfl⟩
  obtain ⟨jk2, hj2⟩ : ∃ k, (limbs y).length = k := ⟨_, rfl⟩
  obtain ⟨jk3, hj3⟩ : ∃ k, (limbs z).length = k := ⟨_, rfl⟩
  rw [hj1] at V1' ⊢
  rw [hj2] at V2' ⊢
  rw [hj3] at V3 ⊢
  clear hj1 hj2 hj3
  go_wp2_with fail
  refine (r1_Order _ _ _ x y V1'.out V2'.out).mono ?_; rintro e w4 ⟨rfl, hb4⟩
  have bb4 := hid (bnext bb3.out hb4)
  have W1 := hid (V1'.out.call hb4); have W2 := hid (V2'.out.call hb4); have W3 := hid (V3.out.call hb4)
  clear hb4 i0 i1 i2 i3 i4 i5
  obtain ⟨i0, i1, i2, i3, i4, i5⟩ := K.out _ bb4.out
  obtain ⟨t, ht⟩ : ∃ t, ordN x y = t := ⟨_, rfl⟩
  have q7 : decide (t < 0) = false := by rw [← ht]; exact ord_ge HLE.out
  rw [ht]
  clear ht
  go_wp2_with fail
  have K2 : Hid (∀ w1 x y z, Below W.heap.size W w1 → ∀ w', ((w1.setCell ⟨w.heap.size + 1 + 1, 0, none⟩ x).setCell ⟨w.heap.size + 1 + 1, 1, none⟩ y).setCell ⟨w.heap.size + 1 + 1, 2, none⟩ z = w' → w'.cell? ⟨w.heap.size, 0, none⟩ = some (.bool m) ∧ w'.cell? ⟨w.heap.size, 1, none⟩ = some (.slice a1 k1 c1) ∧ w'.cell? ⟨w.heap.size, 2, none⟩ = some (.slice a2 k2 c2) ∧ w'.cell? ⟨w.heap.size + 1, 0, none⟩ = some (.bool m2) ∧ w'.cell? ⟨w.heap.size + 1, 1, none⟩ = some (.slice a3 k3 c3) ∧ w'.cell? ⟨w.heap.size + 1, 2, none⟩ = some (.slice a4 k4 c4)) := by
   rintro w1 x y z hb _ rfl
   have Z0 := (((HY0.out.call hb).other (a := ⟨w.heap.size + 1 + 1, 0, none⟩) (by simp; omega) x).other (a := ⟨w.heap.size + 1 + 1, 1, none⟩) (by simp; omega) y).other (a := ⟨w.heap.size + 1 + 1, 2, none⟩) (by simp; omega) z
   have Z1 := (((HY1.out.call hb).other (a := ⟨w.heap.size + 1 + 1, 0, none⟩) (by simp) x).other (a := ⟨w.heap.size + 1 + 1, 1, none⟩) (by simp) y).other (a := ⟨w.heap.size + 1 + 1, 2, none⟩) (by simp) z
   exact ⟨Z0.cell 0, Z0.cell 1, Z0.cell 2, Z1.cell 0, Z1.cell 1, Z1.cell 2⟩
  go_region_held3 (fun w' => w'.cell? ⟨w.heap.size, 0, none⟩ = some (.bool m) ∧ w'.cell? ⟨w.heap.size, 1, none⟩ = some (.slice a1 k1 c1) ∧ w'.cell? ⟨w.heap.size, 2, none⟩ = some (.slice a2 k2 c2) ∧ w'.cell? ⟨w.heap.size + 1, 0, none⟩ = some (.bool m2) ∧ w'.cell? ⟨w.heap.size + 1, 1, none⟩ = some (.slice a3 k3 c3) ∧ w'.cell? ⟨w.heap.size + 1, 2, none⟩ = some (.slice a4 k4 c4))
   (first
    | exact K.out _ (by first | exact bb4.out.drew | exact below_drewN bb4.out _)
    | exact K2.out _ _ _ _ bb6.out _ rfl
    | exact K.out _ bb6.out
    | exact K.out _ bb5.out)
   (first
    | (go_at_call 151; refine (r1_Minus _ _ _ x y (W1.out.call (by first | exact (Below.refl _ _).drew | exact below_drewN (Below.refl _ _) _ | exact Below.refl _ _)) (W2.out.call (by first | exact (Below.refl _ _).drew | exact below_drewN (Below.refl _ _) _ | exact Below.refl _ _)) HLE.out L1.out).mono ?_; rintro e w5 ⟨⟨v5, rfl, hv5⟩, hb5⟩; have bb5 := hid (bnext (by first | exact bb4.out.drew | exact below_drewN bb4.out _ | exact bb4.out) hb5); have V5 := hid hv5; have Z5 := hid ((W3.out.call (Below.refl _ _).drew).call hb5))
    | (go_at_call 131; refine (r2_Reduce _ _ _ _ (x - y) z V5.out Z5.out hD.out LS.out L3.out).mono ?_; rintro e w6 ⟨⟨v6, rfl, hv6⟩, hb6⟩; obtain ⟨N6, D6, rfl, hN6, hD6⟩ := hv6.ex; have bb6 := hid (bnext bb5.out hb6); obtain ⟨a5, c5, rfl, _⟩ := hN6.openI; obtain ⟨a6, c6, rfl, _⟩ := hD6.openI; have HN6 := hid hN6; have HD6 := hid hD6; have Z := hid (HY2.out.call bb6.out); have t0 := Z.out.cell 0; have t1 := Z.out.cell 1; have t2 := Z.out.cell 2; have t3 := Z.out.free 0; have t4 := Z.out.free 1; have t5 := Z.out.free 2; clear hv6 hN6 hD6))
  go_wp2_with fail
  obtain ⟨s1, s2⟩ := set3 Z.out (decide ((qmk m (x - y) z).num < 0)) a5 a6 (limbs (qmk m (x - y) z).num.natAbs).length c5 (limbs (qmk m (x - y) z).den).length c6
  have f0 := s2.cell 0
  have f1 := s2.cell 1
  have f2 := s2.cell 2
  simp at f0 f1 f2
  refine bodyPost_ret (v := .agg #[.bool (decide ((qmk m (x - y) z).num < 0)), .slice a5 (limbs (qmk m (x - y) z).num.natAbs).length c5, .slice a6 (limbs (qmk m (x - y) z).den).length c6]) (by simp [results, Tryz.results82, go_sem, f0, f1, f2]) rfl ⟨⟨_, rfl, ⟨_, _, rfl, s1 _ _ _ HN6.out, s1 _ _ _ HD6.out⟩⟩, ?_⟩
  exact (((HX0.out.trans (bb6.out.mono (Nat.le_trans (Nat.le_refl _) HX0.out.size))).setCell (by simp; omega) _).setCell (by simp; omega) _).setCell (by simp; omega) _
theorem r2_Plus (w : World) (v u : Value) (p q : Rat) (hp : IsQ .i64 w v p) (hq : IsQ .i64 w u q)
 (h1 : (limbs p.num.natAbs).length ≤ 100000) (h2 : (limbs p.den).length ≤ 100000) (h3 : (limbs q.num.natAbs).length ≤ 100000) (h4 : (limbs q.den).length ≤ 100000) :
 Calls Tryz.prog 82 #[v, u] w fun e w' => RetQ .i64 (p + q) e w' ∧ Below w.heap.size w w' := by
 obtain ⟨N1, D1, rfl, hn1, hd1⟩ := hp.ex
 obtain ⟨N2, D2, rfl, hn2, hd2⟩ := hq.ex
 have he := q_add p q
 have hw := fun m s key => r2_Plus_walk w (decide (p.num < 0)) (decide (q.num < 0)) m N1 D1 N2 D2 _ _ _ _ s hn1 hd1 hn2 hd2 h1 h2 h3 h4 p.den_pos q.den_pos key
 rw [he]
 generalize decide (p.num < 0) = m1 at *
 generalize decide (q.num < 0) = m2 at *
 by_cases hm : m1 = m2
 ·subst hm
  rw [sgn_same]
  exact hw m1 _ (.inl ⟨rfl, rfl, rfl⟩)
 ·have hm' : (m1 == m2) = false := by simpa using hm
  rcases Nat.lt_or_ge (p.num.natAbs * q.den) (q.num.natAbs * p.den) with hl | hl
  ·rw [sgn_less hm hl]
   exact hw m2 _ (.inr (.inl ⟨hm', hl, rfl, rfl⟩))
  ·rw [sgn_more hm hl]
   exact hw m1 _ (.inr (.inr ⟨hm', hl, rfl, rfl⟩))
theorem r2_Times (w : World) (v u : Value) (p q : Rat) (hp : IsQ .i64 w v p) (hq : IsQ .i64 w u q)
 (h1 : (limbs p.num.natAbs).length ≤ 100000) (h2 : (limbs p.den).length ≤ 100000) (h3 : (limbs q.num.natAbs).length ≤ 100000) (h4 : (limbs q.den).length ≤ 100000) :
 Calls Tryz.prog 60 #[v, u] w fun e w' => RetQ .i64 (p * q) e w' ∧ Below w.heap.size w w' := by
 have HQ := hid (qmk_mul p q)
 rw [← HQ.out]
 have hD := hid (Nat.mul_pos p.den_pos q.den_pos)
 obtain ⟨N1, D1, rfl, hn1, hd1⟩ := hp.ex
 obtain ⟨N2, D2, rfl, hn2, hd2⟩ := hq.ex
 clear hp hq HQ
 generalize decide (p.num < 0) = m1 at *
 generalize decide (q.num < 0) = m2 at *
 generalize p.num.natAbs = n1 at *
 generalize q.num.natAbs = n2 at *
 generalize p.den = d1 at *
 generalize q.den = d2 at *
 have HN1 := hid hn1; have HD1 := hid hd1; have HN2 := hid hn2; have HD2 := hid hd2
 have L1 := hid (Nat.le_trans (limbs_mul h1 h3) (show 100000 + 100000 ≤ 1000000 by omega))
 have L2 := hid (Nat.le_trans (limbs_mul h2 h4) (show 100000 + 100000 ≤ 1000000 by omega))
 have H1 := hid (Nat.le_trans h1 (show 100000 ≤ 1000000 by omega))
 have H2 := hid (Nat.le_trans h2 (show 100000 ≤ 1000000 by omega))
 have H3 := hid (Nat.le_trans h3 (show 100000 ≤ 1000000 by omega))
 have H4 := hid (Nat.le_trans h4 (show 100000 ≤ 1000000 by omega))
 clear h1 h2 h3 h4
 obtain ⟨a1, c1, rfl, _⟩ := hn1.openI
 obtain ⟨a2, c2, rfl, _⟩ := hd1.openI
 obtain ⟨a3, c3, rfl, _⟩ := hn2.openI
 obtain ⟨a4, c4, rfl, _⟩ := hd2.openI
 clear hn1 hd1 hn2 hd2
 go_enter Tryz.func60, Tryz.ntmps60
 go_wp2_with fail
 obtain ⟨W, hW⟩ : ∃ W, ((w.alloc (.cells #[.bool m1, .slice a1 (limbs n1).length c1, .slice a2 (limbs d1).length c2] 100)).alloc (.cells #[.bool m2, .slice a3 (limbs n2).length c3, .slice a4 (limbs d2).length c4] 100)).alloc (.cells #[.bool false, .slice none 0 0, .slice none 0 0] 100) = W := ⟨_, rfl⟩
 rw [hW]
 have X0 : Below w.heap.size w W := by rw [← hW]; exact (((Below.refl _ _).alloc (Nat.le_refl _) _).alloc (by simp) _).alloc (by simp; omega) _
 have Y0 : Blk W w.heap.size #[.bool m1, .slice a1 (limbs n1).length c1, .slice a2 (limbs d1).length c2] 100 := by rw [← hW]; exact ((Blk.new w _ _).alloc _).alloc _
 have Y1 : Blk W (w.heap.size + 1) #[.bool m2, .slice a3 (limbs n2).length c3, .slice a4 (limbs d2).length c4] 100 := by rw [← hW]; exact (Blk.made (w.alloc _) _ _ (by simp)).alloc _
 have Y2 : Blk W (w.heap.size + 1 + 1) #[.bool false, .slice none 0 0, .slice none 0 0] 100 := by rw [← hW]; exact Blk.made ((w.alloc _).alloc _) _ _ (by simp)
 have K0 : ∀ w', Blk w' w.heap.size #[.bool m1, .slice a1 (limbs n1).length c1, .slice a2 (limbs d1).length c2] 100 → Blk w' (w.heap.size + 1) #[.bool m2, .slice a3 (limbs n2).length c3, .slice a4 (limbs d2).length c4] 100 →
  w'.cell? ⟨w.heap.size, 0, none⟩ = some (.bool m1) ∧ w'.cell? ⟨w.heap.size, 1, none⟩ = some (.slice a1 (limbs n1).length c1) ∧ w'.cell? ⟨w.heap.size, 2, none⟩ = some (.slice a2 (limbs d1).length c2) ∧
  w'.cell? ⟨w.heap.size + 1, 0, none⟩ = some (.bool m2) ∧ w'.cell? ⟨w.heap.size + 1, 1, none⟩ = some (.slice a3 (limbs n2).length c3) ∧ w'.cell? ⟨w.heap.size + 1, 2, none⟩ = some (.slice a4 (limbs d2).length c4) :=
  fun w' y0 y1 => ⟨y0.cell 0, y0.cell 1, y0.cell 2, y1.cell 0, y1.cell 1, y1.cell 2⟩
 have K : Hid (∀ w', Below W.heap.size W w' → w'.cell? ⟨w.heap.size, 0, none⟩ = some (.bool m1) ∧ w'.cell? ⟨w.heap.size, 1, none⟩ = some (.slice a1 (limbs n1).length c1) ∧ w'.cell? ⟨w.heap.size, 2, none⟩ = some (.slice a2 (limbs d1).length c2) ∧
  w'.cell? ⟨w.heap.size + 1, 0, none⟩ = some (.bool m2) ∧ w'.cell? ⟨w.heap.size + 1, 1, none⟩ = some (.slice a3 (limbs n2).length c3) ∧ w'.cell? ⟨w.heap.size + 1, 2, none⟩ = some (.slice a4 (limbs d2).length c4)) := fun w' hb => K0 w' (Y0.call hb) (Y1.call hb)
 have K2 : Hid (∀ w1 x y z, Below W.heap.size W w1 → ∀ w', ((w1.setCell ⟨w.heap.size + 1 + 1, 0, none⟩ x).setCell ⟨w.heap.size + 1 + 1, 1, none⟩ y).setCell ⟨w.heap.size + 1 + 1, 2, none⟩ z = w' → w'.cell? ⟨w.heap.size, 0, none⟩ = some (.bool m1) ∧ w'.cell? ⟨w.heap.size, 1, none⟩ = some (.slice a1 (limbs n1).length c1) ∧ w'.cell? ⟨w.heap.size, 2, none⟩ = some (.slice a2 (limbs d1).length c2) ∧
  w'.cell? ⟨w.heap.size + 1, 0, none⟩ = some (.bool m2) ∧ w'.cell? ⟨w.heap.size + 1, 1, none⟩ = some (.slice a3 (limbs n2).length c3) ∧ w'.cell? ⟨w.heap.size + 1, 2, none⟩ = some (.slice a4 (limbs d2).length c4)) := by
  rintro w1 x y z hb _ rfl
  exact K0 _ ((((Y0.call hb).other (by simp; omega) _).other (by simp; omega) _).other (by simp; omega) _) ((((Y1.call hb).other (by simp) _).other (by simp) _).other (by simp) _)
 have HY2 := hid Y2; have HX0 := hid X0
 obtain ⟨k0, k1, k2, k3, k4, k5⟩ := K W (Below.refl _ _)
 clear K0
 clear Y0 Y1 Y2 X0 hW
 have XN1 := hid (HN1.out.call HX0.out); have XD1 := hid (HD1.out.call HX0.out); have XN2 := hid (HN2.out.call HX0.out); have XD2 := hid (HD2.out.call HX0.out)
 go_region_held3 (fun w' => w'.cell? ⟨w.heap.size, 0, none⟩ = some (.bool m1) ∧ w'.cell? ⟨w.heap.size, 1, none⟩ = some (.slice a1 (limbs n1).length c1) ∧ w'.cell? ⟨w.heap.size, 2, none⟩ = some (.slice a2 (limbs d1).length c2) ∧
  w'.cell? ⟨w.heap.size + 1, 0, none⟩ = some (.bool m2) ∧ w'.cell? ⟨w.heap.size + 1, 1, none⟩ = some (.slice a3 (limbs n2).length c3) ∧ w'.cell? ⟨w.heap.size + 1, 2, none⟩ = some (.slice a4 (limbs d2).length c4))
  (first
   | exact K.out _ (Below.refl _ _).drew
   | exact K2.out _ _ _ _ B3.out _ rfl
   | exact K.out _ B3.out
   | exact K.out _ B2.out
   | exact K.out _ B1.out)
  (first
   | (go_at_call_of 132 (Value.slice a1 (limbs n1).length c1); refine (r1_Times _ _ _ n1 n2 (XN1.out.call (by first | exact B2.out | exact (Below.refl _ _).drew)) (XN2.out.call (by first | exact B2.out | exact (Below.refl _ _).drew)) H1.out H3.out).mono ?_; rintro e w1 ⟨⟨v1, rfl, hv1⟩, hb1⟩; have B1 := hid (bnext (by first | exact B2.out | exact (Below.refl _ _).drew) hb1))
   | (go_at_call_of 132 (Value.slice a2 (limbs d1).length c2); refine (r1_Times _ _ _ d1 d2 (XD1.out.call (by first | exact B1.out | exact (Below.refl _ _).drew)) (XD2.out.call (by first | exact B1.out | exact (Below.refl _ _).drew)) H2.out H4.out).mono ?_; rintro e w2 ⟨⟨v2, rfl, hv2⟩, hb2⟩; have B2 := hid (bnext (by first | exact B1.out | exact (Below.refl _ _).drew) hb2))
   | (go_at_call 131; refine (r2_Reduce _ _ _ _ (n1 * n2) (d1 * d2) (by first | exact hv1 | exact hv1.call hb2) (by first | exact hv2 | exact hv2.call hb1) hD.out L1.out L2.out).mono ?_; rintro e w3 ⟨⟨v3, rfl, hv3⟩, hb3⟩; obtain ⟨N3, D3, rfl, hN3, hD3⟩ := hv3.ex; have B3 := hid (bnext (by first | exact B2.out | exact B1.out) hb3); obtain ⟨a5, c5, rfl, _⟩ := hN3.openI; obtain ⟨a6, c6, rfl, _⟩ := hD3.openI; have HN3 := hid hN3; have HD3 := hid hD3; have Z := hid (HY2.out.call B3.out); have t0 := Z.out.cell 0; have t1 := Z.out.cell 1; have t2 := Z.out.cell 2; have t3 := Z.out.free 0; have t4 := Z.out.free 1; have t5 := Z.out.free 2; clear hv3 hN3 hD3))
 have hbn : (!(m1 == m2)) = (m1 != m2) := rfl
 rw [hbn] at *
 go_wp2_with fail
 obtain ⟨s1, s2⟩ := set3 Z.out (decide ((qmk (m1 != m2) (n1 * n2) (d1 * d2)).num < 0)) a5 a6 (limbs (qmk (m1 != m2) (n1 * n2) (d1 * d2)).num.natAbs).length c5 (limbs (qmk (m1 != m2) (n1 * n2) (d1 * d2)).den).length c6
 have f0 := s2.cell 0
 have f1 := s2.cell 1
 have f2 := s2.cell 2
 simp at f0 f1 f2
 refine bodyPost_ret (v := .agg #[.bool (decide ((qmk (m1 != m2) (n1 * n2) (d1 * d2)).num < 0)), .slice a5 (limbs (qmk (m1 != m2) (n1 * n2) (d1 * d2)).num.natAbs).length c5, .slice a6 (limbs (qmk (m1 != m2) (n1 * n2) (d1 * d2)).den).length c6]) (by simp [results, Tryz.results60, go_sem, f0, f1, f2]) rfl ⟨⟨_, rfl, ⟨_, _, rfl, s1 _ _ _ HN3.out, s1 _ _ _ HD3.out⟩⟩, ?_⟩
 exact (((HX0.out.trans (B3.out.mono (Nat.le_trans (Nat.le_refl _) HX0.out.size))).setCell (by simp; omega) _).setCell (by simp; omega) _).setCell (by simp; omega) _
open Go.Lib (decDigits nDigits)
def Qv (v : Value) : Prop := ∃ (m : Bool) (a : Option Addr) (n c : Nat) (a' : Option Addr) (n' c' : Nat), v = .agg #[.bool m, .slice a n c, .slice a' n' c']
theorem IsQ.qv {k : IntKind} {w : World} {v : Value} {q : Rat} (h : IsQ k w v q) : Qv v := by
 obtain ⟨N, D, rfl, h1, h2⟩ := h.ex
 obtain ⟨a1, c1, rfl, _⟩ := h1.openI
 obtain ⟨a2, c2, rfl, _⟩ := h2.openI
 exact ⟨_, _, _, _, _, _, _, rfl⟩
theorem RetQE.open {s : ByteArray} {e : Ending} {w' : World} (h : RetQE s e w') : ∃ (m : Bool) (a : Option Addr) (n c : Nat) (a' : Option Addr) (n' c' : Nat), e = .returned (.tuple #[.agg #[.bool m, .slice a n c, .slice a' n' c'], .int .i64 (qE s)]) ∧ (qE s = 0 → IsQ .i64 w' (.agg #[.bool m, .slice a n c, .slice a' n' c']) (vQ s)) ∧ (qE s ≠ 0 → m = false ∧ a = none ∧ n = 0 ∧ c = 0 ∧ a' = none ∧ n' = 0 ∧ c' = 0) := by
 obtain ⟨v, rfl, h1, h2⟩ := h
 by_cases h0 : qE s = 0
 ·obtain ⟨m, a, n, c, a', n', c', rfl⟩ := (h1 h0).qv
  exact ⟨m, a, n, c, a', n', c', rfl, h1, fun h => absurd h0 h⟩
 ·obtain rfl := h2 h0
  exact ⟨_, _, _, _, _, _, _, rfl, h1, fun _ => ⟨rfl, rfl, rfl, rfl, rfl, rfl, rfl⟩⟩
theorem IsQ.keep {k : IntKind} {w w' : World} {v : Value} {q : Rat} (h : IsQ k w v q) (f : ∀ k v x, IsN k w v x → IsN k w' v x) : IsQ k w' v q := by
 obtain ⟨N, D, rfl, h1, h2⟩ := h.ex
 exact ⟨N, D, rfl, f _ _ _ h1, f _ _ _ h2⟩
theorem IsN.drew {k : IntKind} {w : World} {v : Value} {n : Nat} (h : IsN k w v n) : IsN k w.drew v n := Row.drew h
def RetTwo (s t : ByteArray) (e : Ending) (w' : World) : Prop := ∃ (m : Bool) (a : Option Addr) (n c : Nat) (a' : Option Addr) (n' c' : Nat) (m2 : Bool) (b : Option Addr) (j d : Nat) (b' : Option Addr) (j' d' : Nat),
 e = .returned (.tuple #[.agg #[.bool m, .slice a n c, .slice a' n' c'], .agg #[.bool m2, .slice b j d, .slice b' j' d'], .int .i64 (if qE s = 0 then qE t else qE s)]) ∧
 (qE s = 0 → qE t = 0 → IsQ .i64 w' (.agg #[.bool m, .slice a n c, .slice a' n' c']) (vQ s) ∧ IsQ .i64 w' (.agg #[.bool m2, .slice b j d, .slice b' j' d']) (vQ t))
theorem r2_two (w : World) (s t : ByteArray) (hs : s.size ≤ 1000000) (ht : t.size ≤ 1000000) :
 Calls Tryz.prog 58 #[.string s, .string t] w fun e w' => RetTwo s t e w' ∧ Below w.heap.size w w' := by
 have R1 := fun V => hid (r2_Read V s hs)
 have R2 := fun V => hid (r2_Read V t ht)
 have t0 := hid (Blk.new w #[.bool false, .slice none 0 0, .slice none 0 0] 100)
 have t1 := hid ((Below.refl w.heap.size w).alloc (Nat.le_refl _) (.cells #[.bool false, .slice none 0 0, .slice none 0 0] 100))
 have u0 := hid ((Blk.new w #[.bool false, .slice none 0 0, .slice none 0 0] 100).alloc (.cells #[.bool false, .slice none 0 0, .slice none 0 0] 100))
 have u1 := hid (Blk.made (w.alloc (.cells #[.bool false, .slice none 0 0, .slice none 0 0] 100)) #[.bool false, .slice none 0 0, .slice none 0 0] 100 (n := w.heap.size + 1) (by simp))
 have u2 := hid (t1.out.alloc (by simp) (.cells #[.bool false, .slice none 0 0, .slice none 0 0] 100))
 clear hs ht t0 t1
 go_enter Tryz.func58, Tryz.ntmps58
 go_wp2_with fail
 refine (R1 _).out.mono ?_; rintro e w1 ⟨hr1, hb1⟩
 obtain ⟨m, a, n, c, a', n', c', rfl, h1, h2⟩ := hr1.open
 have v0 := hid (u0.out.call hb1); have v1 := hid (u1.out.call hb1); have v2 := hid (bnext u2.out hb1)
 have l1 := v1.out.lt
 have n1 : (w1.heap.size = w.heap.size) = False := by simp; omega
 have n2 : (w.heap.size = w1.heap.size) = False := by simp; omega
 have n3 : (w1.heap.size = w.heap.size + 1) = False := by simp; omega
 have n4 : (w.heap.size + 1 = w1.heap.size) = False := by simp; omega
 obtain ⟨x, hx⟩ : ∃ x, qE s = x := ⟨_, rfl⟩
 have HXX := hid hx
 by_cases h0 : x = 0
 ·subst h0
  rw [hx]
  have Q1 := hid (h1 hx)
  clear h1 h2 hr1 hb1 R1 hx
  have X7 := hid (Blk.new w1 #[.bool m, .slice a n c, .slice a' n' c'] 100)
  have b7 := hid ((Below.refl w1.heap.size w1).alloc (Nat.le_refl _) (.cells #[.bool m, .slice a n c, .slice a' n' c'] 100))
  have x0 := hid (v0.out.call b7.out); have x1 := hid (v1.out.call b7.out); have x2 := hid (bnext v2.out b7.out); have Q2 := hid (Q1.out.call b7.out)
  clear v0 v1 v2 Q1 b7
  go_wp2_with fail
  refine (R2 _).out.mono ?_; rintro e w2 ⟨hr2, hb2⟩
  obtain ⟨m2, b, j, d, b', j', d', rfl, k1, k2⟩ := hr2.open
  have y0 := hid (x0.out.call hb2); have y1 := hid (x1.out.call hb2); have y2 := hid (bnext x2.out hb2); have y7 := hid (X7.out.call hb2); have Q3 := hid (Q2.out.call hb2)
  have K1 := hid k1
  clear x0 x1 x2 X7 Q2 hb2 hr2 k1 k2 R2
  have l2 := y7.out.lt
  have n5 : (w2.heap.size = w.heap.size) = False := by simp; omega
  have n6 : (w.heap.size = w2.heap.size) = False := by simp; omega
  have n7 : (w2.heap.size = w.heap.size + 1) = False := by simp; omega
  have n8 : (w.heap.size + 1 = w2.heap.size) = False := by simp; omega
  clear l1 l2
  obtain ⟨z, hz⟩ : ∃ z, qE t = z := ⟨_, rfl⟩
  have HZ := hid hz
  rw [hz]
  clear hz
  have X9 := hid (Blk.new w2 #[.bool m2, .slice b j d, .slice b' j' d'] 100)
  have b9 := hid ((Below.refl w2.heap.size w2).alloc (Nat.le_refl _) (.cells #[.bool m2, .slice b j d, .slice b' j' d'] 100))
  have z0 := hid (y0.out.call b9.out); have z1 := hid (y1.out.call b9.out); have z2 := hid (bnext y2.out b9.out); have z7 := hid (y7.out.call b9.out); have Q4 := hid (Q3.out.call b9.out)
  have K2 := fun h => hid ((K1.out h).call b9.out)
  clear y0 y1 y2 y7 Q3 b9 K1
  have HH1 := z0.out.cell 0
  have HH2 := z0.out.cell 1
  have HH3 := z0.out.cell 2
  have HH4 := z0.out.free 0
  have HH5 := z0.out.free 1
  have HH6 := z0.out.free 2
  have KK1 := z1.out.cell 0
  have KK2 := z1.out.cell 1
  have KK3 := z1.out.cell 2
  have KK4 := z1.out.free 0
  have KK5 := z1.out.free 1
  have KK6 := z1.out.free 2
  have JJ1 := z7.out.cell 0
  have JJ2 := z7.out.cell 1
  have JJ3 := z7.out.cell 2
  simp at HH1 HH2 HH3 KK1 KK2 KK3 JJ1 JJ2 JJ3
  have II1 := X9.out.cell 0
  have II2 := X9.out.cell 1
  have II3 := X9.out.cell 2
  simp at II1 II2 II3
  go_wp2_with fail
  go_region
  obtain ⟨p1, p2⟩ := set3 z0.out m a a' n c n' c'
  have r1 := ((z1.out.other (a := ⟨w.heap.size, 0, none⟩) (by simp) (.bool m)).other (a := ⟨w.heap.size, 1, none⟩) (by simp) (.slice a n c)).other (a := ⟨w.heap.size, 2, none⟩) (by simp) (.slice a' n' c')
  obtain ⟨p3, p4⟩ := set3 r1 m2 b b' j d j' d'
  have p5 := ((p2.other (a := ⟨w.heap.size + 1, 0, none⟩) (by simp) (.bool m2)).other (a := ⟨w.heap.size + 1, 1, none⟩) (by simp) (.slice b j d)).other (a := ⟨w.heap.size + 1, 2, none⟩) (by simp) (.slice b' j' d')
  have f0 := p5.drew.cell 0
  have f1 := p5.drew.cell 1
  have f2 := p5.drew.cell 2
  have g0 := p4.drew.cell 0
  have g1 := p4.drew.cell 1
  have g2 := p4.drew.cell 2
  simp at f0 f1 f2 g0 g1 g2
  go_wp2_with fail
  refine bodyPost_ret (v := .tuple #[.agg #[.bool m, .slice a n c, .slice a' n' c'], .agg #[.bool m2, .slice b j d, .slice b' j' d'], .int .i64 z]) (by simp [results, Tryz.results58, go_sem, f0, f1, f2, g0, g1, g2]) rfl ⟨⟨m, a, n, c, a', n', c', m2, b, j, d, b', j', d', by rw [if_pos HXX.out, HZ.out], fun h1 h2 => ⟨(Q4.out.keep fun k v x h => (p3 _ _ _ (p1 _ _ _ h)).drew), ((K2 h2).out.keep fun k v x h => (p3 _ _ _ (p1 _ _ _ h)).drew)⟩⟩, ?_⟩
  exact ((((((z2.out.setCell (Nat.le_refl _) _).setCell (Nat.le_refl _) _).setCell (Nat.le_refl _) _).setCell (Nat.le_succ _) _).setCell (Nat.le_succ _) _).setCell (Nat.le_succ _) _).drew
 ·rw [hx]
  have q0 : (x != 0) = true := by simpa using h0
  obtain ⟨rfl, rfl, rfl, rfl, rfl, rfl, rfl⟩ := h2 (by rw [hx]; exact h0)
  have H0 := hid h0
  clear h1 h2 hr1 hb1 R1 R2 hx h0
  have X7 := hid (Blk.new w1 #[.bool false, .slice none 0 0, .slice none 0 0] 100)
  have b7 := hid ((Below.refl w1.heap.size w1).alloc (Nat.le_refl _) (.cells #[.bool false, .slice none 0 0, .slice none 0 0] 100))
  have x0 := hid (v0.out.call b7.out); have x1 := hid (v1.out.call b7.out); have x2 := hid (bnext v2.out b7.out)
  clear v0 v1 v2 b7
  have HH1 := x0.out.cell 0
  have HH2 := x0.out.cell 1
  have HH3 := x0.out.cell 2
  have HH4 := x0.out.free 0
  have HH5 := x0.out.free 1
  have HH6 := x0.out.free 2
  have KK1 := x1.out.cell 0
  have KK2 := x1.out.cell 1
  have KK3 := x1.out.cell 2
  have KK4 := x1.out.free 0
  have KK5 := x1.out.free 1
  have KK6 := x1.out.free 2
  have JJ1 := X7.out.cell 0
  have JJ2 := X7.out.cell 1
  have JJ3 := X7.out.cell 2
  simp at HH1 HH2 HH3 KK1 KK2 KK3 JJ1 JJ2 JJ3
  go_wp2_with fail
  go_region
  obtain ⟨p1, p2⟩ := set3 x0.out false none none 0 0 0 0
  have r1 := ((x1.out.other (a := ⟨w.heap.size, 0, none⟩) (by simp) (.bool false)).other (a := ⟨w.heap.size, 1, none⟩) (by simp) (.slice none 0 0)).other (a := ⟨w.heap.size, 2, none⟩) (by simp) (.slice none 0 0)
  obtain ⟨p3, p4⟩ := set3 r1 false none none 0 0 0 0
  have p5 := ((p2.other (a := ⟨w.heap.size + 1, 0, none⟩) (by simp) (.bool false)).other (a := ⟨w.heap.size + 1, 1, none⟩) (by simp) (.slice none 0 0)).other (a := ⟨w.heap.size + 1, 2, none⟩) (by simp) (.slice none 0 0)
  have f0 := p5.drew.cell 0
  have f1 := p5.drew.cell 1
  have f2 := p5.drew.cell 2
  have g0 := p4.drew.cell 0
  have g1 := p4.drew.cell 1
  have g2 := p4.drew.cell 2
  simp at f0 f1 f2 g0 g1 g2
  go_wp2_with fail
  refine bodyPost_ret (v := .tuple #[.agg #[.bool false, .slice none 0 0, .slice none 0 0], .agg #[.bool false, .slice none 0 0, .slice none 0 0], .int .i64 x]) (by simp [results, Tryz.results58, go_sem, f0, f1, f2, g0, g1, g2]) rfl ⟨⟨false, none, 0, 0, none, 0, 0, false, none, 0, 0, none, 0, 0, by rw [if_neg (by rw [HXX.out]; exact H0.out), HXX.out], fun h1 => absurd (HXX.out.symm.trans h1) H0.out⟩, ?_⟩
  exact ((((((x2.out.setCell (Nat.le_refl _) _).setCell (Nat.le_refl _) _).setCell (Nat.le_refl _) _).setCell (Nat.le_succ _) _).setCell (Nat.le_succ _) _).setCell (Nat.le_succ _) _).drew
theorem dig_of {q : Rat} {K : Nat} (h1 : nDigits q.num.natAbs ≤ K) (h2 : nDigits q.den ≤ K) : Dig K q :=
 ⟨Nat.lt_of_lt_of_le (Go.Lib.lt_pow_nDigits _) (Nat.pow_le_pow_right (by omega) h1), Nat.lt_of_lt_of_le (Go.Lib.lt_pow_nDigits _) (Nat.pow_le_pow_right (by omega) h2)⟩
theorem dig_of_fits {q : Rat} (h : ¬ ovQ q) : Dig 4000 q := by
 unfold ovQ at h
 exact dig_of (by omega) (by omega)
theorem Dig.limbs {K L : Nat} {q : Rat} (h : Dig K q) (h0 : 0 < K) (hl : K ≤ 9 * L) : (limbs q.num.natAbs).length ≤ L ∧ (limbs q.den).length ≤ L :=
 ⟨limbs_digits (Nat.le_trans (nDigits_le h0 h.n) hl), limbs_digits (Nat.le_trans (nDigits_le h0 h.d) hl)⟩
def OpOk (F : Nat) (f : Rat → Rat → Rat) : Prop := ∀ (w : World) (v u : Value) (p q : Rat), IsQ .i64 w v p → IsQ .i64 w u q → Dig 4000 p → Dig 4000 q →
 Calls Tryz.prog F #[v, u] w fun e w' => RetQ .i64 (f p q) e w' ∧ Below w.heap.size w w'
theorem op_plus : OpOk 82 (· + ·) := fun w v u p q hp hq h1 h2 => by
 have l1 := h1.limbs (L := 100000) (by omega) (by omega)
 have l2 := h2.limbs (L := 100000) (by omega) (by omega)
 exact r2_Plus w v u p q hp hq l1.1 l1.2 l2.1 l2.2
theorem op_times : OpOk 60 (· * ·) := fun w v u p q hp hq h1 h2 => by
 have l1 := h1.limbs (L := 100000) (by omega) (by omega)
 have l2 := h2.limbs (L := 100000) (by omega) (by omega)
 exact r2_Times w v u p q hp hq l1.1 l1.2 l2.1 l2.2
theorem r2_Mul (w : World) (s t : ByteArray) (hs : s.size ≤ 1000000) (ht : t.size ≤ 1000000) :
 Calls Tryz.prog 16 #[.string s, .string t] w fun e w' => e = .returned (.tuple #[.string (op2B (· * ·) s t), .int .i64 (op2E (· * ·) s t)]) ∧ Below w.heap.size w w' := by
 have R1 := fun V => hid (r2_two V s t hs ht)
 clear hs ht
 by_cases h0 : qE s = 0 ∧ qE t = 0
 ·have eB : op2B (· * ·) s t = outB (vQ s * vQ t) := by rw [op2B, if_pos h0]
  have eE : op2E (· * ·) s t = outE (vQ s * vQ t) := by rw [op2E, if_pos h0.1, if_pos h0.2]
  rw [eB, eE]
  have ds := dig_of_fits (vQ_fits h0.1)
  have dt := dig_of_fits (vQ_fits h0.2)
  have dl := hid ((dig_mul ds dt).limbs (L := 1000000) (by omega) (by omega))
  have HO := fun V v u hp hq => hid (op_times V v u (vQ s) (vQ t) hp hq ds dt)
  have HW := fun V v h => hid (r2_Write V v (vQ s * vQ t) h dl.out.1 dl.out.2)
  obtain ⟨oB, hB⟩ : ∃ x, outB (vQ s * vQ t) = x := ⟨_, rfl⟩
  obtain ⟨oE, hE⟩ : ∃ x, outE (vQ s * vQ t) = x := ⟨_, rfl⟩
  rw [hB, hE] at HW
  rw [hB, hE]
  have H0 := hid h0
  clear eB eE ds dt dl hB hE h0
  go_enter Tryz.func16, Tryz.ntmps16
  go_wp2_with fail
  refine (R1 _).out.mono ?_; rintro e w1 ⟨⟨m, a, n, c, a', n', c', m2, b, j, d, b', j', d', rfl, hq⟩, hb1⟩
  obtain ⟨q1, q2⟩ := hq H0.out.1 H0.out.2
  rw [if_pos H0.out.1, H0.out.2]
  have b0 := ((Below.refl w1.heap.size w1).alloc (Nat.le_refl _) (.cells #[.bool m, .slice a n c, .slice a' n' c'] 100)).alloc (by simp) (.cells #[.bool m2, .slice b j d, .slice b' j' d'] 100)
  have y2 := hid (bnext hb1 b0)
  have H1 := HO _ _ _ (q1.call b0) (q2.call b0)
  clear hb1 q1 q2 hq b0 HO R1
  go_wp2_with fail
  refine H1.out.mono ?_; rintro e w2 ⟨⟨v, rfl, hv⟩, hb2⟩
  have y3 := hid (bnext y2.out hb2)
  have H2 := HW _ _ hv
  obtain ⟨m3, a3, n3, c3, a4, n4, c4, rfl⟩ := hv.qv
  clear hv hb2 HW H1
  go_wp2_with fail
  refine H2.out.mono ?_; rintro e w3 ⟨rfl, hb3⟩
  have y4 := hid (bnext y3.out hb3)
  clear hb3 H2
  go_wp2_with fail
  go_ret2
  exact ⟨rfl, y4.out⟩
 ·have n0 : (if qE s = 0 then qE t else qE s) ≠ 0 := by
   split
   ·rename_i h; exact fun e => h0 ⟨h, e⟩
   ·rename_i h; exact h
  have eB : op2B (· * ·) s t = ⟨#[]⟩ := by rw [op2B, if_neg h0]
  have eE : op2E (· * ·) s t = if qE s = 0 then qE t else qE s := by
   rw [op2E]
   split
   ·rename_i h; rw [if_neg (fun e => h0 ⟨h, e⟩)]
   ·rfl
  rw [eB, eE]
  obtain ⟨x, hx⟩ : ∃ x, (if qE s = 0 then qE t else qE s) = x := ⟨_, rfl⟩
  rw [hx] at n0 ⊢
  have q0 : (x != 0) = true := by simpa using n0
  have HX := hid hx
  clear h0 n0 eB eE hx
  go_enter Tryz.func16, Tryz.ntmps16
  go_wp2_with fail
  refine (R1 _).out.mono ?_; rintro e w1 ⟨⟨m, a, n, c, a', n', c', m2, b, j, d, b', j', d', rfl, -⟩, hb1⟩
  rw [HX.out]
  have y1 := hid hb1
  have y2 := hid ((hb1.alloc hb1.size (.cells #[.bool m, .slice a n c, .slice a' n' c'] 100)).alloc (Nat.le_trans hb1.size (by simp)) (.cells #[.bool m2, .slice b j d, .slice b' j' d'] 100))
  clear hb1
  go_wp2_with fail
  go_ret2
  exact ⟨rfl, y2.out⟩
end Go.Proofs.YtlmnpocifldpmaaGreatDoor
