/- Texts that the proof rests on, merged: Nad, FrC, Rt4i, RtC, ChLt, Rt8, Na5, Sn0, Nn0, Lits, KsI, Nlv, Nnn. -/
import Derived.Test.YtgphopkifomffaaGreatDoorMa9
import Derived.RangeFuncBox
import Derived.Scope
import Derived.IntWalk
namespace Go.Proofs.YtgphopkifomffaaGreatDoor
open Go.RowKit Go.Shelf
open Go.Lib (decDigits nDigits)
set_option linter.unusedVariables false
set_option linter.unusedSimpArgs false
attribute [local go_sem] Oper.semAt_some
theorem marks_retN {n : Nat} {P : Program} {fn : Func} {R : Ending → World → Prop} {tmps : Array Value} {W : World} {v : Value} (hv : (results fn tmps).run P W = .ok v W) (hR : R (.returned v) W) :
    bodyPostM Fence.wide n P fn R .ret { tmps := tmps, defers := [] } W := ⟨v, hv, hR⟩
theorem orZ_three (x y z : Int) : orZ [x, y, z] = if x ≠ 0 then x else if y ≠ 0 then y else z := by
  unfold orZ orZ orZ orZ
  by_cases h1 : x = 0
  · by_cases h2 : y = 0
    · by_cases h3 : z = 0 <;> simp [h1, h2, h3]
    · simp [h1, h2]
  · simp [h1]
structure AdS (w W0 : World) (bd bt : Nat) (ys : List Int) (fl : Bool) (W : World) : Prop where
  ltd : bd < W0.heap.size
  ltt : bt < W0.heap.size
  ged : w.heap.size ≤ bd
  get : w.heap.size ≤ bt
  ne : bd ≠ bt
  big : w.heap.size ≤ W0.heap.size
  size : W0.heap.size ≤ W.heap.size
  rest : ∀ k, k < W0.heap.size → k ≠ bd → k ≠ bt → W.heap[k]? = W0.heap[k]?
  d : ∃ v, Blk W bd #[v] 24 ∧ W.ownsRow W0.heap.size 3 1 v ys.length (zs ys)
  tt : Blk W bt #[.bool fl] 4
  bel : Below w.heap.size w W
theorem AdS.cell {w W0 : World} {bd bt : Nat} {ys : List Int} {fl : Bool} {W : World} (h : AdS w W0 bd bt ys fl W) {p : Addr} (h1 : p.block < W0.heap.size) (h2 : p.block ≠ bd) (h3 : p.block ≠ bt) : W.cell? p = W0.cell? p := World.cell?_of_block (w := W0) (h.rest p.block h1 h2 h3)
theorem AdS.call {w W0 : World} {bd bt : Nat} {ys : List Int} {fl : Bool} {W W' : World} (h : AdS w W0 bd bt ys fl W) (hb : Below W.heap.size W W') : AdS w W0 bd bt ys fl W' := by
  obtain ⟨v, h1, h2⟩ := h.d
  exact ⟨h.ltd, h.ltt, h.ged, h.get, h.ne, h.big, Nat.le_trans h.size hb.size, fun k hk a b => (hb.block k (Nat.lt_of_lt_of_le hk h.size)).trans (h.rest k hk a b), ⟨v, h1.call hb, owns_call h2 hb⟩, h.tt.call hb, bnext h.bel hb⟩
theorem AdS.sett {w W0 : World} {bd bt : Nat} {ys : List Int} {fl : Bool} {W : World} (h : AdS w W0 bd bt ys fl W) (q : Bool) : AdS w W0 bd bt ys q (W.setCell ⟨bt, 0, none⟩ (.bool q)) := by
  obtain ⟨v, h1, h2⟩ := h.d
  refine ⟨h.ltd, h.ltt, h.ged, h.get, h.ne, h.big, by rw [World.size_setCell]; exact h.size, fun k hk a b => (Below.heap_setCell _ _ _ _ b).trans (h.rest k hk a b), ⟨v, h1.other (a := ⟨bt, 0, none⟩) (fun e => h.ne e.symm) _, ownsRow_setCell_below h2 h.ltt _⟩, ?_, h.bel.setCell h.get _⟩
  have := h.tt.set 0 (.bool q)
  simpa using this
theorem AdS.app {w W0 : World} {bd bt : Nat} {ys : List Int} {fl : Bool} {W w3 : World} {v v' : Value} {o : Obj} {y : Int} (h : AdS w W0 bd bt ys fl W) (hv : Blk W bd #[v] 24) (ho : W.ownsRow W0.heap.size 3 1 v ys.length (zs ys)) (hown : w3.ownsRow W0.heap.size 3 1 v' (ys.length + 1) (zs ys ++ [.int .i64 y])) (hg : (W.alloc o).grownBy w3 v.ownBlock) :
    AdS w W0 bd bt (ys ++ [y]) fl (w3.setCell ⟨bd, 0, none⟩ v') := by
  have hrow : ∀ k, v.ownBlock = some k → W0.heap.size ≤ k := fun k e => (ho.lt k e).1
  have hs : W.heap.size ≤ w3.heap.size := by have := hg.size; simp at this; omega
  have n1 : v.ownBlock ≠ some bd := fun e => by have := hrow bd e; have := h.ltd; omega
  have n2 : v.ownBlock ≠ some bt := fun e => by have := hrow bt e; have := h.ltt; omega
  refine ⟨h.ltd, h.ltt, h.ged, h.get, h.ne, h.big, by rw [World.size_setCell]; exact Nat.le_trans h.size hs, fun k hk a b => ?_, ⟨v', ?_, ?_⟩, ?_, ?_⟩
  · have hkW : k < W.heap.size := Nat.lt_of_lt_of_le hk h.size
    refine (Below.heap_setCell _ _ _ _ a).trans (((hg.block k (by simp; omega) (fun e => ?_)).trans (Below.heap_alloc _ _ _ hkW)).trans (h.rest k hk a b))
    have := hrow k e.symm; omega
  · have := (((hv.alloc o).grown hg n1).set 0 v')
    simpa using this
  · have e1 : (ys ++ [y]).length = ys.length + 1 := by simp
    have e2 : zs (ys ++ [y]) = zs ys ++ [.int .i64 y] := by simp [zs]
    rw [e1, e2]
    exact ownsRow_setCell_below hown h.ltd _
  · exact ((h.tt.alloc o).grown hg n2).other (a := ⟨bd, 0, none⟩) h.ne _
  · exact ((h.bel.alloc h.bel.size o).grown hg (by have := h.bel.size; simp; omega) (fun k e => Nat.le_trans h.big (hrow k e))).setCell h.ged _
theorem AdS.keptX {w W0 : World} {bd bt : Nat} {ys : List Int} {fl : Bool} {X Y : World} {row : Option Nat} (h : AdS w W0 bd bt ys fl X) (hg : X.grownBy Y row) (hrow : ∀ r, row = some r → W0.heap.size ≤ r ∧ ∃ o : Obj, X.heap[r]? = some o ∧ o.isCells = false) : AdS w W0 bd bt ys fl Y := by
  obtain ⟨v, h1, h2⟩ := h.d
  refine ⟨h.ltd, h.ltt, h.ged, h.get, h.ne, h.big, Nat.le_trans h.size hg.size, fun k hk a b => ?_, ⟨v, h1.kept hg (fun r e => (hrow r e).2), ?_⟩, h.tt.kept hg (fun r e => (hrow r e).2), ?_⟩
  · refine (hg.block k (Nat.lt_of_lt_of_le hk h.size) (fun e => ?_)).trans (h.rest k hk a b)
    have := (hrow k e.symm).1; omega
  · refine h2.kept hg ?_
    rcases h2.2 with ⟨rfl, _⟩ | ⟨g, cap, cur, rfl, _, hgb, _⟩
    · exact .inl rfl
    · refine .inr fun e' => ?_
      obtain ⟨-, o, ho, hc⟩ := hrow g (by simpa [Value.ownBlock] using e'.symm)
      rw [hgb] at ho; cases ho; cases hc
  · exact h.bel.grown hg h.bel.size (fun k e => Nat.le_trans h.big (hrow k e).1)
theorem keepsF_app {B : Nat} {W w3 : World} {bd base n : Nat} {v u x : Value} {t : TypeId} {o : Obj} {xs : List Value} {e : TypeId} (hv : Blk W bd #[x] t) (ho : W.ownsRow base e 1 v n xs) (hg : (W.alloc o).grownBy w3 v.ownBlock) : KeepsFrom B W (w3.setCell ⟨bd, 0, none⟩ u) := by
  have hs : W.heap.size ≤ w3.heap.size := by have := hg.size; simp at this; omega
  refine ⟨by rw [World.size_setCell]; exact hs, fun k ob hk hob hc => ?_⟩
  have hkW : k < W.heap.size := (Array.getElem?_eq_some_iff.1 hob).1
  have h1 : k ≠ bd := fun e => by
    subst e
    rw [show W.heap[k]? = _ from hv] at hob; cases hob; cases hc
  refine (Below.heap_setCell _ _ _ _ h1).trans (((hg.block k (by simp; omega) (fun e' => ?_)).trans (Below.heap_alloc _ _ _ hkW)).trans hob)
  rcases ho.2 with ⟨rfl, _⟩ | ⟨g, cap, cur, rfl, _, hgb, _⟩
  · cases e'
  · have : k = g := by simpa [Value.ownBlock] using e'
    subst this
    rw [hgb] at hob; cases hob; cases hc
theorem AdS.kp {w W0 : World} {bd bt b1 b2 : Nat} {ys zs' : List Int} {f1 f2 : Bool} {W X : World} (h : AdS w W0 bd bt ys f1 W) (k : AdS w W0 bd bt zs' f2 X) (hs : W.heap.size ≤ X.heap.size) (h1 : b1 < W0.heap.size ∧ b1 ≠ bd ∧ b1 ≠ bt) (h2 : b2 < W0.heap.size ∧ b2 ≠ bd ∧ b2 ≠ bt) : KpS w.heap.size b1 b2 W X :=
  ⟨hs, fun _ _ _ => ⟨⟨k.bel.os.trans h.bel.os.symm, k.bel.tape.trans h.bel.tape.symm, k.bel.output.trans h.bel.output.symm, hs, fun j hj => (k.bel.block j hj).trans (h.bel.block j hj).symm⟩, (k.rest b1 h1.1 h1.2.1 h1.2.2).trans (h.rest b1 h1.1 h1.2.1 h1.2.2).symm, (k.rest b2 h2.1 h2.2.1 h2.2.2).trans (h.rest b2 h2.1 h2.2.1 h2.2.2).symm⟩⟩
set_option maxRecDepth 100000 in
set_option maxHeartbeats 8000000 in
theorem na_Add (w : World) (v u : Value) (c : List Int) (a : ByteArray) (bs : List ByteArray) (hv : Row w v (zs c)) (hu : Row w u (strs bs)) (ha : a.size ≤ 100000) (hb : ∀ x ∈ bs, x.size ≤ 100000000) (hL : LayB w) :
    Calls Tryz.prog 10 #[v, .string a, u] w fun e w' => (∃ y, e = .returned (.tuple #[y, .bool (naO c a bs).isSome, .int .i64 (naE c a bs)]) ∧ Row w' y (zs ((naO c a bs).getD []))) ∧ Below w.heap.size w w' := by
  have HCK := fun V hV => hid (na_check V v c hV)
  have HRA := fun V hV => hid (na_ratio V a ha hV)
  have HW := fun V h => hid (na_words V u bs ((c.length : Nat) : Int) h hb)
  have HFI := fun V x h => hid (na_first V x [zE c, gPE a, wdE bs ((c.length : Nat) : Int)] h)
  rw [orZ_three] at HFI
  have e1 : (if zE c ≠ 0 then zE c else if gPE a ≠ 0 then gPE a else wdE bs ((c.length : Nat) : Int)) = naE c a bs := rfl
  rw [e1] at HFI
  have HV := hid hv; have HU := hid hu; have HL := hid hL
  have PT := hid (fun V x (hx : chkE x = 0) hV => g_Two V a x ha (by have := chk_size hx; omega) hV)
  obtain ⟨s, cp, rfl, q1, q2, q3⟩ := hv.openZ
  obtain ⟨t, cq, rfl, p1, p2, p3⟩ := hu.openS
  have HNA : Hid (naE c a bs = 0 → NaOk c a bs) := fun h => naE_ok h
  obtain ⟨z, hz⟩ : ∃ z, naE c a bs = z := ⟨_, rfl⟩
  obtain ⟨z1, hz1⟩ : ∃ z, zE c = z := ⟨_, rfl⟩
  obtain ⟨z2, hz2⟩ : ∃ z, gPE a = z := ⟨_, rfl⟩
  obtain ⟨z3, hz3⟩ : ∃ z, wdE bs ((c.length : Nat) : Int) = z := ⟨_, rfl⟩
  obtain ⟨ro, hro⟩ : ∃ z, naO c a bs = z := ⟨_, rfl⟩
  have HRO : Hid (naE c a bs = 0 → ro = nzO true a c bs) := fun h => by rw [← hro]; exact naO_ok h rfl
  have HRB : Hid (naE c a bs ≠ 0 → ro = none) := fun h => by rw [← hro]; exact naO_bad h
  obtain ⟨n, hn⟩ : ∃ n, c.length = n := ⟨_, rfl⟩
  obtain ⟨n2, hn2⟩ : ∃ n, bs.length = n := ⟨_, rfl⟩
  have HN := hid hn; have HN2 := hid hn2
  rw [hz] at HNA HRO HRB
  rw [hz, hz1, hz2, hz3] at HFI
  simp only [hz1] at HCK
  simp only [hz2] at HRA
  simp only [hz3] at HW
  rw [hz, hro]
  rw [hn] at HV q1 ⊢
  simp only [hn] at HCK HW
  rw [hn2] at HU p1 ⊢
  simp only [hn2] at HW
  clear hv hu q3 p3 e1 ha hb hL hz hz1 hz2 hz3 hro hn hn2
  refine (callsIn_wide (n := 9)).1 ?_
  refine callsIn_of_wp_marks Tryz.func10 rfl trivial ?_ rfl
  simp only [Tryz.ntmps10, List.size_toArray, List.length_cons, List.length_nil, Nat.reduceAdd, Nat.reduceSub, Array.replicate_succ, Array.replicate_zero, List.push_toArray, List.append_toArray, List.nil_append, List.cons_append]
  gi_wp2_with fail
  obtain ⟨W2, hW2⟩ : ∃ W, (w.alloc (.cells #[.string a] 22)).alloc (.cells #[.slice none 0 0] 24) = W := ⟨_, rfl⟩
  have XA : Hid (Blk W2 w.heap.size #[.string a] 22) := by rw [← hW2]; exact (Blk.new w _ _).alloc _
  have XD : Hid (Blk W2 (w.heap.size + 1) #[.slice none 0 0] 24) := by rw [← hW2]; exact Blk.made _ _ _ (by simp)
  have B2 : Hid (Below w.heap.size w W2) := by rw [← hW2]; exact ((Below.refl _ _).alloc (Nat.le_refl _) _).alloc (by simp) _
  have Z2 : Hid (W2.heap.size = w.heap.size + 1 + 1) := by rw [← hW2]; exact hid (by simp)
  rw [hW2]
  clear hW2
  have KK : Hid (∀ V, Below W2.heap.size W2 V → V.cell? ⟨w.heap.size, 0, none⟩ = some (.string a)) := fun V hV => (XA.out.call hV).cell 0
  refine wpIn_scope ?_
  gi_wp2_with fail
  refine wpIn_wide.2 ?_
  refine held_plain [0, 2, 4, 5, 6] 6 (fun V => V.cell? ⟨w.heap.size, 0, none⟩ = some (.string a)) (by kernel_rfl) (by kernel_rfl) (by kernel_rfl) (by kernel_rfl) (KK.out _ (Below.refl _ _).drew) ?_
  iterate 5
    refine ⟨_, rfl, ?_⟩
    apply Exists.intro
    refine ⟨.inl ⟨by rfl, ?_⟩, ?_⟩
    · (intro W' hW'; obtain q9 := hW'; go_simp; try (with_reducible rfl))
    (dsimp only [Act.put]; try simp only [List.setIfInBounds_toArray, List.set_cons_zero, List.set_cons_succ])
  refine held_one (i := 1) (by kernel_rfl) (by rfl) (by rfl) ?_
  go_wp2_with fail
  refine (HCK _ (HV.out.call (bnext B2.out (Below.refl _ _).drew))).out.mono ?_; rintro e w3 ⟨rfl, rfl⟩
  go_wp2_with fail
  refine ⟨KK.out _ (Below.refl _ _).drew, ?_⟩
  refine held_one (i := 3) (by kernel_rfl) (by rfl) (by rfl) ?_
  go_wp2_with fail
  refine (HRA _ (HL.out.call (bnext B2.out (Below.refl _ _).drew)).l).out.mono ?_; rintro e w4 ⟨rfl, hb4⟩
  have y4 := hid (show Below W2.heap.size W2 w4 from (Below.refl _ _).drew.trans hb4)
  clear hb4
  go_wp2_with fail
  refine ⟨KK.out _ y4.out, ?_⟩
  refine held_one (i := 7) (by kernel_rfl) (by rfl) (by rfl) ?_
  go_wp2_with fail
  refine (HW _ (HU.out.call (bnext B2.out y4.out))).out.mono ?_; rintro e w5 ⟨rfl, hb5⟩
  have y5 := hid (bnext y4.out hb5)
  clear hb5
  go_wp2_with fail
  refine ⟨KK.out _ y5.out, ?_⟩
  refine held_one (i := 8) (by kernel_rfl) (by rfl) (by rfl) ?_
  go_wp2_with fail
  have y6 := hid (y5.out.alloc y5.out.size (.cells #[.int .i64 z1, .int .i64 z2, .int .i64 z3] 27))
  refine ⟨KK.out _ y6.out, ?_⟩
  refine held_one (i := 9) (by kernel_rfl) (by rfl) (by rfl) ?_
  go_wp2_with fail
  refine (HFI _ _ (row_three _ _ _ _ _)).out.mono ?_; rintro e w7 ⟨rfl, rfl⟩
  obtain ⟨W7, hW7⟩ : ∃ W, w5.alloc (.cells #[.int .i64 z1, .int .i64 z2, .int .i64 z3] 27) = W := ⟨_, rfl⟩
  rw [hW7] at y6 ⊢
  clear hW7
  go_wp2_with fail
  refine ⟨KK.out _ y6.out, ?_⟩
  refine held_more (is := [10]) (g := 0) (by kernel_rfl) rfl (KK.out _ y6.out) (by kernel_rfl) ?_
  iterate 1
    refine ⟨_, rfl, ?_⟩
    apply Exists.intro
    refine ⟨.inl ⟨by rfl, ?_⟩, ?_⟩
    · (intro W' hW'; obtain q9 := hW'; go_simp; try (with_reducible rfl))
    (dsimp only [Act.put]; try simp only [List.setIfInBounds_toArray, List.set_cons_zero, List.set_cons_succ])
  refine wpAnyH_done (by kernel_rfl) ?_ _
  simp only [Only]
  have B7 := hid (bnext B2.out y6.out)
  have XA7 := hid (XA.out.call y6.out); have XD7 := hid (XD.out.call y6.out)
  clear XA XD KK HFI HCK HRA HW
  by_cases h0 : z = 0
  case neg =>
    have t0 : (z != 0) = true := by simpa using h0
    have t0' : (z == 0) = false := by simpa using h0
    have HR := HRB.out h0
    subst HR
    have d0 := XD7.out.cell 0
    have d1 := XD7.out.free 0
    simp at d0
    clear h0
    gi_wp2_with fail
    have d2 := (XD7.out.set 0 (.slice none 0 0)).cell 0
    simp at d2
    refine marks_retN (v := .tuple #[.slice none 0 0, .bool false, .int .i64 z]) (by simp [results, Tryz.results10, go_sem, d2]) ⟨⟨_, rfl, ?_⟩, ?_⟩
    · exact ⟨none, 0, rfl, Nat.le_refl _, by unfold maxLen; omega, fun i x h => by simp [zs] at h⟩
    · exact B7.out.setCell (by simp) _
  subst h0
  have OK := HNA.out rfl
  have HRO2 := hid (HRO.out rfl)
  have hle := OK.le
  rw [HN.out] at hle
  have HOK := hid OK
  clear OK HNA HRO HRB
  gi_wp2_with fail
  refine wpIn_label ?_
  gi_wp2_with (refine ⟨trivial, ?_⟩; gi_at_call 38; refine (callsIn_wide.2 (na_pairs _ _ _ _ _ _ _)).mono ?_; rintro e w' ⟨rfl, rfl⟩)
  obtain ⟨i0, hi, hz0, hz1, hz2⟩ := info_parts info_intO
  obtain ⟨W0, hW0⟩ : ∃ W0, ((W7.alloc (.cells #[.bool false] 4)).alloc (.cells #[.slice s n cp] 24)).alloc (.cells #[.slice t n2 cq] 30) = W0 := ⟨_, rfl⟩
  have y0 : Blk W0 w.heap.size #[.string a] 22 := by rw [← hW0]; exact ((XA7.out.alloc _).alloc _).alloc _
  have y1 : Blk W0 (w.heap.size + 1) #[.slice none 0 0] 24 := by rw [← hW0]; exact ((XD7.out.alloc _).alloc _).alloc _
  have y2 : Blk W0 W7.heap.size #[.bool false] 4 := by rw [← hW0]; exact ((Blk.new W7 _ _).alloc _).alloc _
  have y3 : Blk W0 (W7.heap.size + 1) #[.slice s n cp] 24 := by rw [← hW0]; exact (Blk.made _ _ _ (by simp)).alloc _
  have y4 : Blk W0 (W7.heap.size + 1 + 1) #[.slice t n2 cq] 30 := by rw [← hW0]; exact Blk.made _ _ _ (by simp)
  have z7 := B7.out.size
  have b0 : Below w.heap.size w W0 := by rw [← hW0]; exact ((B7.out.alloc z7 _).alloc (by simp <;> omega) _).alloc (by simp <;> omega) _
  have z0 : W0.heap.size = W7.heap.size + 1 + 1 + 1 := by rw [← hW0]; simp
  have zT : w.heap.size + 1 + 1 ≤ W7.heap.size := by have := y6.out.size; have := Z2.out; omega
  rw [hW0]
  obtain ⟨T, hT⟩ : ∃ T, W7.heap.size = T := ⟨_, rfl⟩
  rw [hT] at y2 y3 y4 z0 zT ⊢
  have Y0 := hid y0; have Y1 := hid y1; have Y2 := hid y2; have Y3 := hid y3; have Y4 := hid y4; have HB0 := hid b0; have Z0 := hid z0; have ZT := hid zT
  have S0 : Hid (AdS w W0 (w.heap.size + 1) T [] false W0) := ⟨by omega, by omega, by omega, by omega, by omega, by omega, Nat.le_refl _, fun _ _ _ _ => rfl, ⟨_, y1, World.ownsRow_nil _ _ _ _⟩, y2, b0⟩
  clear y0 y1 y2 y3 y4 b0 hW0 hT z7 XA7 XD7 B7 B2 Z2 y5 y6
  have hread : ∀ W1 W2, Below W0.heap.size W0 W1 → KpS w.heap.size (T + 1) (T + 1 + 1) W1 W2 → W2.cell? ⟨T + 1, 0, none⟩ = some (.slice s n cp) ∧ W2.cell? ⟨T + 1 + 1, 0, none⟩ = some (.slice t n2 cq) ∧ Row W2 (.slice s n cp) (zs c) ∧ Row W2 (.slice t n2 cq) (strs bs) := fun W1 W2 b1 b2 => by
    have hs := b1.size
    have hz := Z0.out; have hzt := ZT.out
    obtain ⟨r1, r2, r3⟩ := b2.rest (by omega) (by omega) (by omega)
    have g1 : Blk W2 (T + 1) #[.slice s n cp] 24 := r2.trans (Y3.out.call b1)
    have g2 : Blk W2 (T + 1 + 1) #[.slice t n2 cq] 30 := r3.trans (Y4.out.call b1)
    have hb : Below w.heap.size w W2 := (HB0.out.trans (b1.mono (by omega))).trans r1
    exact ⟨g1.cell 0, g2.cell 0, HV.out.call hb, HU.out.call hb⟩
  refine range_ok (by omega) (gf := 71) (lb := #[.pointer (some ⟨T + 1, 0, none⟩), .pointer (some ⟨T + 1 + 1, 0, none⟩)]) rfl (enters_of Tryz.func71 (by kernel_rfl) rfl)
    (pairs_feeds (Kp := KpS w.heap.size (T + 1) (T + 1 + 1)) 8 (by omega) W0 (T + 1) (T + 1 + 1) (.slice s n cp) (.slice t n2 cq) c bs HOK.out.len.symm HOK.out.le (KpS.refl _ _ _) KpS.trans hread (fun _ _ => KpS.of_below)) KpS.trans (KpS.put (by omega) (by omega) (by omega)) (Below.refl _ _) (fun _ => rfl)
    (fun p W => ∃ ys, NdT a c bs p.length ys ∧ AdS w W0 (w.heap.size + 1) T ys false W)
    (fun cc p W => cc = .exit 0 ∧ nzO true a c bs = none ∧ ∃ ys, AdS w W0 (w.heap.size + 1) T ys true W)
    (fun s X Y row hs hg hr => by obtain ⟨ys, h1, h2⟩ := hs; exact ⟨ys, h1, h2.keptX hg hr⟩)
    (fun c s X Y row hs hg hr => by obtain ⟨h0, h1, ys, h2⟩ := hs; exact ⟨h0, h1, ys, h2.keptX hg hr⟩)
    ⟨[], NdT.zero _ _ _, S0.out⟩ ?act ?assign ?body ?done ?stop
  case assign =>
    intro l x W K hK
    gi_wp2
    exact hK
  case body =>
    rintro l p ⟨x, b⟩ W ⟨hx, hb⟩ ⟨ys, hN, hS⟩
    dsimp only at hx hb
    have hch := HOK.out.b b (List.mem_of_getElem? hb)
    have hsz := chk_size hch
    have hxr := HOK.out.rng x (List.mem_of_getElem? hx)
    have PTb := fun V hV => hid (PT.out V b hch hV)
    have hvb := wT_bound a b hsz
    have hz1' : nz1 true a x b = if (wT a b).1 = true then some (x + (wT a b).2.1) else none := by unfold nz1; simp only [if_true]
    obtain ⟨k, hk⟩ : ∃ k, p.length = k := ⟨_, rfl⟩
    rw [hk] at hx hb hN
    have hk256 : k < 256 := by have := (List.getElem?_eq_some_iff.1 hx).1; have := HOK.out.le; omega
    obtain ⟨TT, hTT⟩ : ∃ T, wT a b = T := ⟨_, rfl⟩
    obtain ⟨ge, hge⟩ : ∃ y, gE a b = y := ⟨_, rfl⟩
    rw [hTT] at hvb hz1'
    simp only [hTT, hge] at PTb
    obtain ⟨d, v1, u1⟩ := TT
    simp only [d3] at PTb
    dsimp only at hvb hz1'
    have c0 := (hS.cell (p := ⟨w.heap.size, 0, none⟩) Y0.out.lt (by simp) (by simp; omega)).trans (Y0.out.cell 0)
    simp at c0
    have wxv : IntKind.i64.wrap (x + v1) = x + v1 := by rw [IntWalk.i64_in _ ⟨by omega, by omega⟩]
    have HX := hid hx; have HB := hid hb; have HN1 := hid hN; have HS := hid hS; have HZ1 := hid hz1'; have HK := hid hk; have HK2 := hid hk256
    clear hx hb hN hS hch hsz hxr hvb hz1' hk hTT hge hk256 zT z0
    cases d
    · have hnone : nzO true a c bs = none := nzO_late k x b HX.out HB.out (by rw [HZ1.out, if_neg (by simp)])
      have HNO := hid hnone
      clear hnone
      gi_wp2_with fail
      refine ⟨trivial, ?_⟩
      refine (CallsIn.inRound _ (callsIn_wide.2 (PTb _ (HL.out.call HS.out.bel).l).out)).mono ?_; rintro e w1 ⟨rfl, hb1⟩
      have y1 := hid hb1
      have A1 := hid (hb1.alloc hb1.size (.cells #[.bool false, .int .i64 v1, .int .i64 u1] 53))
      have S2 := hid (HS.out.call A1.out)
      have r0 := S2.out.tt.cell 0
      have r1 := S2.out.tt.free 0
      simp at r0
      clear hb1 c0
      gi_wp2_with fail
      exact ⟨(keepsF_below A1.out).trans ((KeepsOthers.setCell _ _ _).from _), rfl, HNO.out, ys, S2.out.sett true⟩
    · gi_wp2_with fail
      refine ⟨trivial, ?_⟩
      refine (CallsIn.inRound _ (callsIn_wide.2 (PTb _ (HL.out.call HS.out.bel).l).out)).mono ?_; rintro e w1 ⟨rfl, hb1⟩
      have A1 := hid (hb1.alloc hb1.size (.cells #[.bool true, .int .i64 v1, .int .i64 u1] 53))
      have S2 := hid (HS.out.call A1.out)
      obtain ⟨v0, h1, h2⟩ := S2.out.d
      have H1 := hid h1; have H2 := hid h2
      have r0 := h1.cell 0
      have r1 := h1.free 0
      simp at r0
      have hyl : ys.length ≤ 256 := by have := HN1.out.len; have := HK2.out; omega
      have CN : ((w1.alloc (.cells #[.bool true, .int .i64 v1, .int .i64 u1] 53)).alloc (.cells #[.int .i64 (x + v1)] 3)).cell? ⟨w1.heap.size + 1, 0, none⟩ = some (.int .i64 (x + v1)) := (Blk.made (w1.alloc (.cells #[.bool true, .int .i64 v1, .int .i64 u1] 53)) #[.int .i64 (x + v1)] 3 (n := w1.heap.size + 1) (by simp)).cell 0
      have HCN := hid CN
      clear hb1 c0 h1 h2 CN
      gi_wp2_with (gi_at_builtin; refine wpListIn_append_own _ rfl _ _ 24 rfl W0.heap.size 3 i0 (.int .i64 0) 1 8 Tryz.underlying24 hi hz0 hz1 hz2 rfl (by decide) _ ys.length _ rfl (H2.out.alloc _) ⟨w1.heap.size + 1, 0, none⟩ 1 1 [.int .i64 (x + v1)] rfl rfl (fun j u hj => by
                     cases j with
                     | zero => cases hj; exact HCN.out
                     | succ j => simp at hj) (by simp [Value.oneCell']) (by unfold maxLen; omega) (by omega) (by have := S2.out.size; simp at this ⊢; omega) ?_; intro v' w3 hown hgrow _
                   obtain ⟨g2, cap2, rfl⟩ := ownsRow_succ hown
                   have S3 := hid (S2.out.app H1.out H2.out hown hgrow)
                   have n1 : v0.ownBlock ≠ some (w.heap.size + 1) := fun e => by have := (H2.out.lt _ e).1; have := S2.out.ltd; omega
                   have k0 := ((H1.out.alloc (.cells #[.int .i64 (x + v1)] 3)).grown hgrow n1).cell 0
                   have k1 := ((H1.out.alloc (.cells #[.int .i64 (x + v1)] 3)).grown hgrow n1).free 0
                   simp at k0
                   have KF := hid ((keepsF_below (B := W0.heap.size) A1.out).trans (keepsF_app (u := .slice (some ⟨g2, 0, none⟩) (ys.length + 1) cap2) H1.out H2.out hgrow))
                   clear hown hgrow n1 r0 r1)
      refine ⟨KF.out, HS.out.kp S3.out KF.out.size ⟨by have := Z0.out; omega, by have := ZT.out; omega, by omega⟩ ⟨by have := Z0.out; omega, by have := ZT.out; omega, by omega⟩, ys ++ [x + v1], ?_, S3.out⟩
      rw [List.length_append, List.length_singleton, HK.out]
      exact HN1.out.next HX.out HB.out (by rw [HZ1.out]; simp)
  case done =>
    rintro D' xs W hD hS ⟨ys, hN, hA⟩ hK
    rw [hS] at hN
    have hro := HRO2.out.trans (hN.all HOK.out.len)
    subst hro
    obtain ⟨v0, h1, h2⟩ := hA.d
    have r0 := h1.cell 0
    have r1 := h1.free 0
    have r2 := hA.tt.cell 0
    simp at r0 r2
    have HA := hid hA; have H1 := hid h1; have H2 := hid h2; have HK := hid hK; have HDD := hid hD
    obtain ⟨a0, cc0, rfl⟩ := owns_ex h2
    clear hS hN hA h1 h2 hK hD
    gi_wp2_with fail
    have q1 := H1.out.set 0 (.slice a0 ys.length cc0)
    have q2 := ownsRow_setCell_below (a := ⟨w.heap.size + 1, 0, none⟩) H2.out HA.out.ltd (.slice a0 ys.length cc0)
    have hk3 := (KeepsOthers.setCell W ⟨w.heap.size + 1, 0, none⟩ (.slice a0 ys.length cc0)).same D' _ HK.out rfl
    have p1 := (q1.put hk3 (.deferred none)).cell 0
    simp at p1
    have hrow := Row.put (Row.of_owns q2) hk3 (.deferred none)
    have h9 := HDD.out; have h8 := HA.out.big
    refine marks_end hk3 (v := .tuple #[.slice a0 ys.length cc0, .bool true, .int .i64 0]) (by simp [results, Tryz.results10, go_sem, p1]) ⟨⟨_, rfl, hrow⟩, ?_⟩
    exact (HA.out.bel.setCell (by simp) _).trans (belowK_b (w := w) (Nat.le_refl _) _ D' _ _ (by omega) hk3 rfl rfl)
  case stop =>
    rintro D' cc p W hD - ⟨rfl, hnone, ys, hA⟩ hK
    have hro := HRO2.out.trans hnone
    subst hro
    obtain ⟨v0, h1, h2⟩ := hA.d
    have r0 := h1.cell 0
    have r1 := h1.free 0
    have r2 := hA.tt.cell 0
    simp at r0 r2
    have HA := hid hA; have H1 := hid h1; have HK := hid hK; have HDD := hid hD
    clear hA h1 h2 hK hD hnone
    gi_wp2_with fail
    have q1 := H1.out.set 0 (.slice none 0 0)
    have hk3 := (KeepsOthers.setCell W ⟨w.heap.size + 1, 0, none⟩ (.slice none 0 0)).same D' _ HK.out rfl
    have p1 := (q1.put hk3 (.deferred none)).cell 0
    simp at p1
    have h9 := HDD.out; have h8 := HA.out.big
    refine marks_end hk3 (v := .tuple #[.slice none 0 0, .bool false, .int .i64 0]) (by simp [results, Tryz.results10, go_sem, p1]) ⟨⟨_, rfl, ?_⟩, ?_⟩
    · exact ⟨none, 0, rfl, Nat.le_refl _, by unfold maxLen; omega, fun i x h => by simp [zs] at h⟩
    · exact (HA.out.bel.setCell (by simp) _).trans (belowK_b (w := w) (Nat.le_refl _) _ D' _ _ (by omega) hk3 rfl rfl)
end Go.Proofs.YtgphopkifomffaaGreatDoor
namespace Go.Proofs.YtgphopkifomffaaGreatDoor
open Go.RowKit
set_option linter.unusedVariables false
set_option linter.unusedSimpArgs false
theorem sgQ_bd (q : Rat) : -1 ≤ sgQ q ∧ sgQ q ≤ 1 := by
  unfold sgQ
  split
  · omega
  · split <;> omega
theorem ordN_bd (a b : Nat) : -1 ≤ ordN a b ∧ ordN a b ≤ 1 := by
  unfold ordN
  split
  · omega
  · split <;> omega
set_option maxRecDepth 100000 in
set_option maxHeartbeats 4000000 in
theorem f_Cmp (w : World) (v u : Value) (p q : Rat) (hp : IsQ .u64 w v p) (hq : IsQ .u64 w u q)
    (h1 : (limbs p.num.natAbs).length ≤ 100000) (h2 : (limbs p.den).length ≤ 100000) (h3 : (limbs q.num.natAbs).length ≤ 100000) (h4 : (limbs q.den).length ≤ 100000) :
    Calls Tryz.prog 199 #[v, u] w fun e w' => e = .returned (.int .i64 (cmF p q)) ∧ Below w.heap.size w w' := by
  have PS1 := fun V v h => hid (f_Sign V v p h)
  have PS2 := fun V v h => hid (f_Sign V v q h)
  have PM1 := fun V v u hv hu => hid (l_Mul V v u p.num.natAbs q.den hv hu (Nat.le_trans h1 (by omega)) (Nat.le_trans h4 (by omega)))
  have PM2 := fun V v u hv hu => hid (l_Mul V v u q.num.natAbs p.den hv hu (Nat.le_trans h3 (by omega)) (Nat.le_trans h2 (by omega)))
  have lx := len_mul h1 h4
  have PC := fun V v u hv hu => hid (l_Cmp V v u (p.num.natAbs * q.den) (q.num.natAbs * p.den) hv hu (Nat.le_trans lx (by omega)))
  have bp := sgQ_bd p
  have bq := sgQ_bd q
  have bo := ordN_bd (p.num.natAbs * q.den) (q.num.natAbs * p.den)
  obtain ⟨Z, hZ⟩ : ∃ z, cmF p q = z := ⟨_, rfl⟩
  rw [hZ]
  unfold cmF at hZ
  obtain ⟨s1, hs1⟩ : ∃ z, sgQ p = z := ⟨_, rfl⟩
  obtain ⟨s2, hs2⟩ : ∃ z, sgQ q = z := ⟨_, rfl⟩
  obtain ⟨oc, hoc⟩ : ∃ z, ordN (p.num.natAbs * q.den) (q.num.natAbs * p.den) = z := ⟨_, rfl⟩
  rw [hs1] at PS1 bp hZ
  rw [hs2] at PS2 bq hZ
  rw [hoc] at PC bo hZ
  have HZ := hid hZ
  have HP := hid hp; have HQ := hid hq
  obtain ⟨N1, D1, rfl, hn1, hd1⟩ := hp.ex
  obtain ⟨N2, D2, rfl, hn2, hd2⟩ := hq.ex
  have HN1 := hid hn1; have HD1 := hid hd1; have HN2 := hid hn2; have HD2 := hid hd2
  obtain ⟨a1, c1, rfl, _⟩ := hn1.openI
  obtain ⟨a2, c2, rfl, _⟩ := hd1.openI
  obtain ⟨a3, c3, rfl, _⟩ := hn2.openI
  obtain ⟨a4, c4, rfl, _⟩ := hd2.openI
  obtain ⟨k1, hk1⟩ : ∃ k, (limbs p.num.natAbs).length = k := ⟨_, rfl⟩
  obtain ⟨k2, hk2⟩ : ∃ k, (limbs p.den).length = k := ⟨_, rfl⟩
  obtain ⟨k3, hk3⟩ : ∃ k, (limbs q.num.natAbs).length = k := ⟨_, rfl⟩
  obtain ⟨k4, hk4⟩ : ∃ k, (limbs q.den).length = k := ⟨_, rfl⟩
  obtain ⟨m1, hm1⟩ : ∃ m, decide (p.num < 0) = m := ⟨_, rfl⟩
  obtain ⟨m2, hm2⟩ : ∃ m, decide (q.num < 0) = m := ⟨_, rfl⟩
  rw [hk1] at HN1; rw [hk2] at HD1; rw [hk3] at HN2; rw [hk4] at HD2
  rw [hk1, hk2, hm1] at HP ⊢
  rw [hk3, hk4, hm2] at HQ ⊢
  have HM1 : Hid ((p.num < 0) ↔ m1 = true) := by rw [← hm1]; simp [Hid]
  clear hZ hk1 hk2 hk3 hk4 hm1 hm2 hn1 hn2 hd1 hd2 hp hq h1 h2 h3 h4 lx hs1 hs2 hoc
  have W12 : IntKind.i64.wrap (s1 - s2) = s1 - s2 := IntWalk.i64_in _ ⟨by omega, by omega⟩
  have WO : IntKind.i64.wrap (-oc) = -oc := IntWalk.i64_in _ ⟨by omega, by omega⟩
  clear bp bq bo
  go_enter Tryz.func199, Tryz.ntmps199
  go_wp2_with fail
  obtain ⟨W, hW⟩ : ∃ W, (w.alloc (.cells #[.bool m1, .slice a1 k1 c1, .slice a2 k2 c2] 101)).alloc (.cells #[.bool m2, .slice a3 k3 c3, .slice a4 k4 c4] 101) = W := ⟨_, rfl⟩
  have Y0 : Blk W w.heap.size #[.bool m1, .slice a1 k1 c1, .slice a2 k2 c2] 101 := by rw [← hW]; exact (Blk.new w _ _).alloc _
  have Y1 : Blk W (w.heap.size + 1) #[.bool m2, .slice a3 k3 c3, .slice a4 k4 c4] 101 := by rw [← hW]; exact Blk.made _ _ _ (by simp)
  have y0 : Below w.heap.size w W := by rw [← hW]; exact ((Below.refl _ _).alloc (Nat.le_refl _) _).alloc (by simp) _
  rw [hW]
  have KK : Hid (∀ w', Below W.heap.size W w' → w'.cell? ⟨w.heap.size, 0, none⟩ = some (.bool m1) ∧ w'.cell? ⟨w.heap.size, 1, none⟩ = some (.slice a1 k1 c1) ∧ w'.cell? ⟨w.heap.size, 2, none⟩ = some (.slice a2 k2 c2) ∧ w'.cell? ⟨w.heap.size + 1, 0, none⟩ = some (.bool m2) ∧ w'.cell? ⟨w.heap.size + 1, 1, none⟩ = some (.slice a3 k3 c3) ∧ w'.cell? ⟨w.heap.size + 1, 2, none⟩ = some (.slice a4 k4 c4)) := fun w' hb =>
    ⟨(Y0.call hb).cell 0, (Y0.call hb).cell 1, (Y0.call hb).cell 2, (Y1.call hb).cell 0, (Y1.call hb).cell 1, (Y1.call hb).cell 2⟩
  have Q1 := hid (HP.out.call y0); have Q2 := hid (HQ.out.call y0)
  have N1' := hid (HN1.out.call y0); have D1' := hid (HD1.out.call y0); have N2' := hid (HN2.out.call y0); have D2' := hid (HD2.out.call y0)
  have HY := hid y0
  clear Y0 Y1 y0 hW HN1 HD1 HN2 HD2 HP HQ
  refine held_plain [0, 2] 4 (fun w' => w'.cell? ⟨w.heap.size, 0, none⟩ = some (.bool m1) ∧ w'.cell? ⟨w.heap.size, 1, none⟩ = some (.slice a1 k1 c1) ∧ w'.cell? ⟨w.heap.size, 2, none⟩ = some (.slice a2 k2 c2) ∧ w'.cell? ⟨w.heap.size + 1, 0, none⟩ = some (.bool m2) ∧ w'.cell? ⟨w.heap.size + 1, 1, none⟩ = some (.slice a3 k3 c3) ∧ w'.cell? ⟨w.heap.size + 1, 2, none⟩ = some (.slice a4 k4 c4)) (by kernel_rfl) (by kernel_rfl) (by kernel_rfl) (by kernel_rfl) (KK.out _ (Below.refl _ _).drew) ?_
  iterate 2
    refine ⟨_, rfl, ?_⟩
    apply Exists.intro
    refine ⟨.inl ⟨by rfl, ?_⟩, ?_⟩
    · (intro W' hW'; obtain ⟨q1, q2, q3, q4, q5, q6⟩ := hW'; go_simp; try (with_reducible rfl))
    (dsimp only [Act.put]; try simp only [List.setIfInBounds_toArray, List.set_cons_zero, List.set_cons_succ])
  refine held_one (i := 1) (by kernel_rfl) (by rfl) (by rfl) ?_
  go_wp2_with fail
  refine (PS1 _ _ (Q1.out.call (Below.refl _ _).drew)).out.mono ?_; rintro e w1 ⟨rfl, hb1⟩
  have x1 := hid (show Below W.heap.size W w1 from (Below.refl _ _).drew.trans hb1)
  clear hb1
  go_wp2_with fail
  refine ⟨KK.out _ x1.out, ?_⟩
  refine held_one (i := 3) (by kernel_rfl) (by rfl) (by rfl) ?_
  go_wp2_with fail
  refine (PS2 _ _ (Q2.out.call x1.out)).out.mono ?_; rintro e w2 ⟨rfl, hb2⟩
  have x2 := hid (bnext x1.out hb2)
  clear hb2
  go_wp2_with fail
  refine ⟨KK.out _ x2.out, ?_⟩
  refine held_more (is := [4, 5]) (g := 0) (by kernel_rfl) rfl (KK.out _ x2.out) (by kernel_rfl) ?_
  iterate 2
    refine ⟨_, rfl, ?_⟩
    apply Exists.intro
    refine ⟨.inl ⟨by rfl, ?_⟩, ?_⟩
    · (intro W' hW'; obtain ⟨q1, q2, q3, q4, q5, q6⟩ := hW'; go_simp; try (with_reducible rfl))
    (dsimp only [Act.put]; try simp only [List.setIfInBounds_toArray, List.set_cons_zero, List.set_cons_succ])
  refine wpAnyH_done (by kernel_rfl) ?_ _
  simp only [Only]
  by_cases hne : s1 = s2
  · subst hne
    have t0 : (s1 != s1) = false := by simp
    go_wp2_with fail
    refine held_plain [0, 1, 2, 3, 5, 6, 7, 8] 4 (fun w' => w'.cell? ⟨w.heap.size, 0, none⟩ = some (.bool m1) ∧ w'.cell? ⟨w.heap.size, 1, none⟩ = some (.slice a1 k1 c1) ∧ w'.cell? ⟨w.heap.size, 2, none⟩ = some (.slice a2 k2 c2) ∧ w'.cell? ⟨w.heap.size + 1, 0, none⟩ = some (.bool m2) ∧ w'.cell? ⟨w.heap.size + 1, 1, none⟩ = some (.slice a3 k3 c3) ∧ w'.cell? ⟨w.heap.size + 1, 2, none⟩ = some (.slice a4 k4 c4)) (by kernel_rfl) (by kernel_rfl) (by kernel_rfl) (by kernel_rfl) (KK.out _ x2.out.drew) ?_
    iterate 8
      refine ⟨_, rfl, ?_⟩
      apply Exists.intro
      refine ⟨.inl ⟨by rfl, ?_⟩, ?_⟩
      · (intro W' hW'; obtain ⟨q1, q2, q3, q4, q5, q6⟩ := hW'; go_simp; try (with_reducible rfl))
      (dsimp only [Act.put]; try simp only [List.setIfInBounds_toArray, List.set_cons_zero, List.set_cons_succ])
    refine held_one (i := 4) (by kernel_rfl) (by rfl) (by rfl) ?_
    go_wp2_with fail
    refine (PM1 _ _ _ (N1'.out.call x2.out.drew) (D2'.out.call x2.out.drew)).out.mono ?_; rintro e w3 ⟨⟨v3, rfl, hv3⟩, hb3⟩
    have x3 := hid (show Below W.heap.size W w3 from bnext x2.out.drew hb3)
    have V3 := hid hv3
    clear hb3 hv3
    go_wp2_with fail
    refine ⟨KK.out _ x3.out, ?_⟩
    refine held_one (i := 9) (by kernel_rfl) (by rfl) (by rfl) ?_
    go_wp2_with fail
    refine (PM2 _ _ _ (N2'.out.call x3.out) (D1'.out.call x3.out)).out.mono ?_; rintro e w4 ⟨⟨v4, rfl, hv4⟩, hb4⟩
    have x4 := hid (bnext x3.out hb4)
    have V4 := hid hv4
    have V34 := hid (V3.out.call hb4)
    clear hb4 hv4
    go_wp2_with fail
    refine ⟨KK.out _ x4.out, ?_⟩
    refine held_one (i := 10) (by kernel_rfl) (by rfl) (by rfl) ?_
    go_wp2_with fail
    refine (PC _ _ _ V34.out V4.out).out.mono ?_; rintro e w5 ⟨rfl, hb5⟩
    have x5 := hid (bnext x4.out hb5)
    clear hb5
    go_wp2_with fail
    refine ⟨KK.out _ x5.out, ?_⟩
    refine held_more (is := [11]) (g := 0) (by kernel_rfl) rfl (KK.out _ x5.out) (by kernel_rfl) ?_
    iterate 1
      refine ⟨_, rfl, ?_⟩
      apply Exists.intro
      refine ⟨.inl ⟨by rfl, ?_⟩, ?_⟩
      · (intro W' hW'; obtain ⟨q1, q2, q3, q4, q5, q6⟩ := hW'; go_simp; try (with_reducible rfl))
      (dsimp only [Act.put]; try simp only [List.setIfInBounds_toArray, List.set_cons_zero, List.set_cons_succ])
    refine wpAnyH_done (by kernel_rfl) ?_ _
    simp only [Only]
    obtain ⟨e0, e1, e2, e3, e4, e5⟩ := KK.out _ x5.out
    have yy := hid (bnext HY.out x5.out)
    cases m1
    · go_wp2_with fail
      go_ret
      exact ⟨by rw [← HZ.out, if_neg (fun h => h rfl), if_neg (fun h => by have := HM1.out.1 h; simp at this)]; rfl, yy.out⟩
    · go_wp2_with fail
      go_ret
      exact ⟨by rw [← HZ.out, if_neg (fun h => h rfl), if_pos (HM1.out.2 (by simp))]; rfl, yy.out⟩
  · have t0 : (s1 != s2) = true := by simpa using hne
    have HNE := hid hne
    have yy := hid (bnext HY.out x2.out)
    clear hne
    go_wp2_with fail
    go_ret
    exact ⟨by rw [← HZ.out, if_pos HNE.out]; rfl, yy.out⟩
end Go.Proofs.YtgphopkifomffaaGreatDoor
namespace Go.Proofs.YtgphopkifomffaaGreatDoor
open Go.RowKit Go.Shelf
open Go.Lib (decDigits nDigits)
set_option linter.unusedVariables false
set_option linter.unusedSimpArgs false
def wI (z : Int) (s : ByteArray) : Int := if qE s = 0 then z else 0
def xE (x : Int) (s t : ByteArray) : Int := wE (wE x t) s
def tI (z : Int) (s t : ByteArray) : Int := wI (wI z t) s
set_option maxRecDepth 100000 in
set_option maxHeartbeats 1000000 in
theorem q_withI (w : World) (s : ByteArray) (F : Nat) (cs : Array Value) (R : Int) (x : Int) (hs : s.size ≤ 1000000) (hL : Lay w)
    (hen : ∀ args w, (callFunc F args).run Tryz.prog w = .ok (.enter F args) w)
    (hF : ∀ W v, qE s = 0 → Below w.heap.size w W → IsQ .u64 W v (vQ s) → Lay W → Calls Tryz.prog F (#[v] ++ cs) W fun e w' => e = .returned (.tuple #[.int .i64 R, .int .i64 x]) ∧ Below W.heap.size W w') :
    Calls Tryz.prog 234 #[.string s, .func (.func F) #[] cs] w fun e w' => e = .returned (.tuple #[.int .i64 (wI R s), .int .i64 (wE x s)]) ∧ Below w.heap.size w w' := by
  have HP := hid (f_Parse w s hs hL)
  have HL := hid hL
  have HF := hid hF
  clear hF hs hL
  by_cases h1 : qE s = 0
  · have e1 : wI R s = R := if_pos h1
    have e2 : wE x s = x := if_pos h1
    rw [e1, e2]
    have HQ := hid h1
    rw [h1] at HP
    clear h1 e1 e2
    go_enter Tryz.func234, Tryz.ntmps234
    go_wp2_with fail
    refine HP.out.mono ?_; rintro e w1 ⟨⟨v, rfl, hv, -⟩, hb1⟩
    have hq := isQ_of HQ.out (hv rfl)
    have y1 := hid hb1
    obtain ⟨N, D, hvv, hN, hD⟩ := hv rfl
    subst hvv
    obtain ⟨a, c, rfl, _⟩ := hN.openI
    obtain ⟨a', c', rfl, _⟩ := hD.openI
    obtain ⟨k, hk⟩ : ∃ k, (limbs (bN (iD (cW s)))).length = k := ⟨_, rfl⟩
    obtain ⟨k', hk'⟩ : ∃ k, (limbs (bN (qD s))).length = k := ⟨_, rfl⟩
    obtain ⟨m, hm⟩ : ∃ m, iM (cW s) = m := ⟨_, rfl⟩
    rw [hk, hk', hm] at hq
    rw [hk, hk', hm]
    have Q1 := hid hq
    have X2 := hid (Blk.new w1 #[.bool m, .slice a k c, .slice a' k' c'] 101)
    have b2 := hid ((Below.refl w1.heap.size w1).alloc (Nat.le_refl _) (.cells #[.bool m, .slice a k c, .slice a' k' c'] 101))
    have y2 := hid (bnext y1.out b2.out)
    have Q2 := hid (hq.call b2.out)
    have r0 := X2.out.cell 0
    have r1 := X2.out.cell 1
    have r2 := X2.out.cell 2
    simp at r0 r1 r2
    clear hb1 hv hN hD hk hk' hm hq b2
    go_wp2_with fail
    refine (HF.out _ _ HQ.out y2.out Q2.out (HL.out.call y2.out)).mono ?_; rintro e w3 ⟨rfl, hb3⟩
    have y3 := hid (bnext y2.out hb3); clear hb3
    go_wp2_with fail
    go_ret2
    exact ⟨rfl, y3.out⟩
  · have e1 : wI R s = 0 := if_neg h1
    have e2 : wE x s = qE s := if_neg h1
    rw [e1, e2]
    obtain ⟨y, hy⟩ : ∃ y, qE s = y := ⟨_, rfl⟩
    rw [hy] at HP h1 ⊢
    have q0 : (y == 0) = false := by simpa using h1
    have q1 : (y != 0) = true := by simpa using h1
    have H1 := hid h1
    clear e1 e2 hy h1
    go_enter Tryz.func234, Tryz.ntmps234
    go_wp2_with fail
    refine HP.out.mono ?_; rintro e w1 ⟨⟨v, rfl, -, hv⟩, hb1⟩
    have hv' := hv H1.out
    subst hv'
    have y1 := hid hb1
    have y2 := hid (y1.out.alloc y1.out.size (.cells #[.bool false, .slice none 0 0, .slice none 0 0] 101))
    clear hb1 hv
    go_wp2_with fail
    go_ret2
    exact ⟨rfl, y2.out⟩
set_option maxRecDepth 100000 in
set_option maxHeartbeats 1000000 in
theorem q_both11I (w : World) (v u : Value) (p q : Rat) (F g1 g2 : Nat) (R : Int) (x : Int) (hv : IsQ .u64 w v p) (hu : IsQ .u64 w u q) (hL : Lay w)
    (hen : ∀ args w, (callFunc F args).run Tryz.prog w = .ok (.enter F args) w)
    (c1 : w.cell? ⟨g1, 0, none⟩ = some (.func (.func F) #[] #[])) (m : Bool) (a a' : Option Addr) (k c k' c' : Nat) (hv0 : v = .agg #[.bool m, .slice a k c, .slice a' k' c'])
    (c2 : Blk w g2 #[.bool m, .slice a k c, .slice a' k' c'] 101)
    (hF : ∀ W v u, IsQ .u64 W v p → IsQ .u64 W u q → Lay W → Calls Tryz.prog F #[v, u] W fun e w' => e = .returned (.tuple #[.int .i64 R, .int .i64 x]) ∧ Below W.heap.size W w') :
    Calls Tryz.prog 236 #[u, .pointer (some ⟨g1, 0, none⟩), .pointer (some ⟨g2, 0, none⟩)] w fun e w' => e = .returned (.tuple #[.int .i64 R, .int .i64 x]) ∧ Below w.heap.size w w' := by
  have HF := hid hF
  have HL := hid hL
  obtain ⟨N, D, rfl, hN, hD⟩ := hu.ex
  obtain ⟨a1, d1, rfl, _⟩ := hN.openI
  obtain ⟨a2, d2, rfl, _⟩ := hD.openI
  obtain ⟨k1, hk1⟩ : ∃ k, (limbs q.num.natAbs).length = k := ⟨_, rfl⟩
  obtain ⟨k2, hk2⟩ : ∃ k, (limbs q.den).length = k := ⟨_, rfl⟩
  obtain ⟨mu, hmu⟩ : ∃ m, decide (q.num < 0) = m := ⟨_, rfl⟩
  rw [hk1, hk2, hmu] at hu
  rw [hk1, hk2, hmu]
  subst hv0
  have X2 := hid (Blk.new w #[.bool mu, .slice a1 k1 d1, .slice a2 k2 d2] 101)
  have b2 := hid ((Below.refl w.heap.size w).alloc (Nat.le_refl _) (.cells #[.bool mu, .slice a1 k1 d1, .slice a2 k2 d2] 101))
  have V2 := hid (hv.call b2.out)
  have U2 := hid (hu.call b2.out)
  have C1 := (b2.out.cell (cell_lt c1)).trans c1
  have C2 := hid (c2.call b2.out)
  have r0 := X2.out.cell 0
  have r1 := X2.out.cell 1
  have r2 := X2.out.cell 2
  have s0 := C2.out.cell 0
  have s1 := C2.out.cell 1
  have s2 := C2.out.cell 2
  simp at r0 r1 r2 s0 s1 s2
  clear hk1 hk2 hmu hN hD hv hu c1 c2 hF hL
  go_enter Tryz.func236, Tryz.ntmps236
  go_wp2_with fail
  refine (HF.out _ _ _ V2.out U2.out (HL.out.call b2.out)).mono ?_; rintro e w3 ⟨rfl, hb3⟩
  have y3 := hid (bnext b2.out hb3); clear hb3
  go_wp2_with fail
  go_ret2
  exact ⟨rfl, y3.out⟩
set_option maxRecDepth 100000 in
set_option maxHeartbeats 1000000 in
theorem q_both1I (w : World) (v : Value) (t : ByteArray) (p : Rat) (F g1 g2 : Nat) (R : Int) (x : Int) (ht : t.size ≤ 1000000) (hv : IsQ .u64 w v p) (hL : Lay w)
    (hen : ∀ args w, (callFunc F args).run Tryz.prog w = .ok (.enter F args) w)
    (c1 : w.cell? ⟨g1, 0, none⟩ = some (.string t)) (c2 : w.cell? ⟨g2, 0, none⟩ = some (.func (.func F) #[] #[]))
    (hF : ∀ W v u, qE t = 0 → IsQ .u64 W v p → IsQ .u64 W u (vQ t) → Lay W → Calls Tryz.prog F #[v, u] W fun e w' => e = .returned (.tuple #[.int .i64 R, .int .i64 x]) ∧ Below W.heap.size W w') :
    Calls Tryz.prog 235 #[v, .pointer (some ⟨g1, 0, none⟩), .pointer (some ⟨g2, 0, none⟩)] w fun e w' => e = .returned (.tuple #[.int .i64 (wI R t), .int .i64 (wE x t)]) ∧ Below w.heap.size w w' := by
  have HF := hid hF
  have HL := hid hL
  have HEN := hid hen
  obtain ⟨N, D, rfl, hN, hD⟩ := hv.ex
  obtain ⟨a1, d1, rfl, _⟩ := hN.openI
  obtain ⟨a2, d2, rfl, _⟩ := hD.openI
  obtain ⟨k1, hk1⟩ : ∃ k, (limbs p.num.natAbs).length = k := ⟨_, rfl⟩
  obtain ⟨k2, hk2⟩ : ∃ k, (limbs p.den).length = k := ⟨_, rfl⟩
  obtain ⟨mu, hmu⟩ : ∃ m, decide (p.num < 0) = m := ⟨_, rfl⟩
  rw [hk1, hk2, hmu] at hv
  rw [hk1, hk2, hmu]
  have X2 := hid (Blk.new w #[.bool mu, .slice a1 k1 d1, .slice a2 k2 d2] 101)
  have b2 := hid ((Below.refl w.heap.size w).alloc (Nat.le_refl _) (.cells #[.bool mu, .slice a1 k1 d1, .slice a2 k2 d2] 101))
  have V2 := hid (hv.call b2.out)
  have C1 := (b2.out.cell (cell_lt c1)).trans c1
  have C2 := hid ((b2.out.cell (cell_lt c2)).trans c2)
  have L2 := hid (HL.out.call b2.out)
  obtain ⟨w2, hw2⟩ : ∃ w2, w.alloc (.cells #[.bool mu, .slice a1 k1 d1, .slice a2 k2 d2] 101) = w2 := ⟨_, rfl⟩
  obtain ⟨g3, hg3⟩ : ∃ g, w.heap.size = g := ⟨_, rfl⟩
  have W2 := hid (q_withI w2 t 236 #[.pointer (some ⟨g2, 0, none⟩), .pointer (some ⟨g3, 0, none⟩)] R x ht (hw2 ▸ L2.out) (enters_of Tryz.func236 (by kernel_rfl) rfl)
    (fun W u hq hb hu hLW => by
      subst hw2
      subst hg3
      have hVW := V2.out.call hb
      have hX := X2.out.call hb
      have hC := (hb.cell (cell_lt C2.out)).trans C2.out
      exact q_both11I W _ u p (vQ t) F g2 w.heap.size R x hVW hu hLW HEN.out hC mu a1 a2 k1 d1 k2 d2 rfl hX (fun W v u h1 h2 h3 => HF.out W v u hq h1 h2 h3)))
  rw [hw2] at C1
  clear hk1 hk2 hmu hN hD hv c1 c2 hF hL hen
  go_enter Tryz.func235, Tryz.ntmps235
  go_wp2_with fail
  refine W2.out.mono ?_; rintro e w3 ⟨rfl, hb3⟩
  have y3 := hid (bnext b2.out (hw2 ▸ hb3)); clear hb3
  go_wp2_with fail
  go_ret2
  exact ⟨rfl, y3.out⟩
set_option maxRecDepth 100000 in
set_option maxHeartbeats 1000000 in
theorem q_bothI (w : World) (s t : ByteArray) (F : Nat) (R : Int) (x : Int) (hs : s.size ≤ 1000000) (ht : t.size ≤ 1000000) (hL : Lay w)
    (hen : ∀ args w, (callFunc F args).run Tryz.prog w = .ok (.enter F args) w)
    (hF : ∀ W v u, qE s = 0 → qE t = 0 → IsQ .u64 W v (vQ s) → IsQ .u64 W u (vQ t) → Lay W → Calls Tryz.prog F #[v, u] W fun e w' => e = .returned (.tuple #[.int .i64 R, .int .i64 x]) ∧ Below W.heap.size W w') :
    Calls Tryz.prog 197 #[.string s, .string t, .func (.func F) #[] #[]] w fun e w' => e = .returned (.tuple #[.int .i64 (tI R s t), .int .i64 (xE x s t)]) ∧ Below w.heap.size w w' := by
  have HF := hid hF
  have HL := hid hL
  have HEN := hid hen
  have HT := hid ht
  have b1 := hid ((Below.refl w.heap.size w).alloc (Nat.le_refl _) (.cells #[.string t] 22))
  obtain ⟨w1, hw1⟩ : ∃ w1, w.alloc (.cells #[.string t] 22) = w1 := ⟨_, rfl⟩
  obtain ⟨g1, hg1⟩ : ∃ g, w.heap.size = g := ⟨_, rfl⟩
  have X1 := hid (Blk.new w #[.string t] 22)
  rw [hw1] at b1
  rw [hw1, hg1] at X1
  have b2 := hid ((Below.refl w1.heap.size w1).alloc (Nat.le_refl _) (.cells #[.func (.func F) #[] #[]] 229))
  obtain ⟨w2, hw2⟩ : ∃ w2, w1.alloc (.cells #[.func (.func F) #[] #[]] 229) = w2 := ⟨_, rfl⟩
  have X2 := hid (Blk.new w1 #[.func (.func F) #[] #[]] 229)
  have X12 := hid (X1.out.call b2.out)
  have y2 := hid (bnext b1.out b2.out)
  have hg2 : w1.heap.size = g1 + 1 := by rw [← hw1, ← hg1]; simp
  rw [hw2] at b2 X12 y2
  rw [hw2, hg2] at X2
  have L2 := hid (HL.out.call y2.out)
  have W2 := hid (q_withI w2 s 235 #[.pointer (some ⟨g1, 0, none⟩), .pointer (some ⟨g1 + 1, 0, none⟩)] (wI R t) (wE x t) hs L2.out (enters_of Tryz.func235 (by kernel_rfl) rfl)
    (fun W v hq hb hv hLW => by
      have hX1 := (X12.out.call hb).cell 0
      have hX2 := (X2.out.call hb).cell 0
      exact q_both1I W v t (vQ s) F g1 (g1 + 1) R x HT.out hv hLW HEN.out hX1 hX2 (fun W v u h0 h1 h2 h3 => HF.out W v u hq h0 h1 h2 h3)))
  have HW1 := hid hw1; have HW2 := hid hw2; have HG1 := hid hg1
  clear hF hL hen hs ht hw1 hw2 hg1 hg2 b1
  go_enter Tryz.func197, Tryz.ntmps197
  go_wp2_with fail
  have hw1 := HW1.out; have hw2 := HW2.out; have hg1 := HG1.out
  rw [hw1, hg1, hw2]
  refine W2.out.mono ?_; rintro e w3 ⟨rfl, hb3⟩
  have y3 := hid (bnext y2.out hb3)
  clear hb3 hw1 hw2 hg1
  go_wp2_with fail
  go_ret2
  exact ⟨rfl, by have := y3.out; exact this⟩
end Go.Proofs.YtgphopkifomffaaGreatDoor
namespace Go.Proofs.YtgphopkifomffaaGreatDoor
open Go.RowKit Go.Shelf
open Go.Lib (decDigits nDigits)
set_option linter.unusedVariables false
set_option linter.unusedSimpArgs false
theorem c2I (s t : ByteArray) : tI (ordQ (vQ s) (vQ t)) s t = cmB s t := by
  unfold tI wI cmB
  by_cases h1 : qE s = 0 <;> by_cases h2 : qE t = 0 <;> simp [h1, h2]
theorem c2E (s t : ByteArray) : xE 0 s t = cmE s t := by
  unfold xE wE cmE
  by_cases h1 : qE s = 0 <;> by_cases h2 : qE t = 0 <;> simp [h1, h2]
set_option maxRecDepth 100000 in
set_option maxHeartbeats 1000000 in
theorem q_Cmp1 (w : World) (v u : Value) (p q : Rat) (hp : IsQ .u64 w v p) (hq : IsQ .u64 w u q) (sp : Sml 1000 p) (sq : Sml 1000 q) (hL : Lay w) :
    Calls Tryz.prog 198 #[v, u] w fun e w' => e = .returned (.tuple #[.int .i64 (ordQ p q), .int .i64 0]) ∧ Below w.heap.size w w' := by
  have F1 := fun V v u hv hu => hid (f_Cmp V v u p q hv hu (Nat.le_trans sp.n (by omega)) (Nat.le_trans sp.d (by omega)) (Nat.le_trans sq.n (by omega)) (Nat.le_trans sq.d (by omega)))
  have HC := hid (cmF_clamp p q)
  obtain ⟨Z, hZ⟩ : ∃ Z, cmF p q = Z := ⟨_, rfl⟩
  rw [hZ] at F1 HC
  rw [← HC.out]
  obtain ⟨N1, D1, rfl, hn1, hd1⟩ := hp.ex
  obtain ⟨N2, D2, rfl, hn2, hd2⟩ := hq.ex
  obtain ⟨a1, c1, rfl, _⟩ := hn1.openI
  obtain ⟨a2, c2, rfl, _⟩ := hd1.openI
  obtain ⟨a3, c3, rfl, _⟩ := hn2.openI
  obtain ⟨a4, c4, rfl, _⟩ := hd2.openI
  obtain ⟨k1, hk1⟩ : ∃ k, (limbs p.num.natAbs).length = k := ⟨_, rfl⟩
  obtain ⟨k2, hk2⟩ : ∃ k, (limbs p.den).length = k := ⟨_, rfl⟩
  obtain ⟨k3, hk3⟩ : ∃ k, (limbs q.num.natAbs).length = k := ⟨_, rfl⟩
  obtain ⟨k4, hk4⟩ : ∃ k, (limbs q.den).length = k := ⟨_, rfl⟩
  obtain ⟨m1, hm1⟩ : ∃ m, decide (p.num < 0) = m := ⟨_, rfl⟩
  obtain ⟨m2, hm2⟩ : ∃ m, decide (q.num < 0) = m := ⟨_, rfl⟩
  rw [hk1, hk2, hm1] at hp ⊢
  rw [hk3, hk4, hm2] at hq ⊢
  have X1 := hid (Blk.new w #[.bool m1, .slice a1 k1 c1, .slice a2 k2 c2] 101)
  have b1 := hid ((Below.refl w.heap.size w).alloc (Nat.le_refl _) (.cells #[.bool m1, .slice a1 k1 c1, .slice a2 k2 c2] 101))
  have Y1 := hid (X1.out.alloc (.cells #[.bool m2, .slice a3 k3 c3, .slice a4 k4 c4] 101))
  have X2 := hid (Blk.new (w.alloc (.cells #[.bool m1, .slice a1 k1 c1, .slice a2 k2 c2] 101)) #[.bool m2, .slice a3 k3 c3, .slice a4 k4 c4] 101)
  have b2 := hid (b1.out.alloc b1.out.size (.cells #[.bool m2, .slice a3 k3 c3, .slice a4 k4 c4] 101))
  have P2 := hid (hp.call b2.out)
  have Q2 := hid (hq.call b2.out)
  have r0 := Y1.out.cell 0
  have r1 := Y1.out.cell 1
  have r2 := Y1.out.cell 2
  have s0 := X2.out.cell 0
  have s1 := X2.out.cell 1
  have s2 := X2.out.cell 2
  simp at r0 r1 r2 s0 s1 s2
  clear hk1 hk2 hk3 hk4 hm1 hm2 hn1 hn2 hd1 hd2 hp hq hL sp sq hZ
  go_enter Tryz.func198, Tryz.ntmps198
  go_wp2_with fail
  refine (F1 _ _ _ P2.out Q2.out).out.mono ?_; rintro e w3 ⟨rfl, hb3⟩
  have y3 := hid (bnext b2.out hb3)
  clear hb3
  go_wp2_with fail
  go_ret2
  exact ⟨rfl, y3.out⟩
set_option maxRecDepth 100000 in
set_option maxHeartbeats 1000000 in
theorem q_Cmp (w : World) (s t : ByteArray) (hs : s.size ≤ 1000000) (ht : t.size ≤ 1000000) (hL : Lay w) :
    Calls Tryz.prog 141 #[.string s, .string t] w fun e w' => e = .returned (.tuple #[.int .i64 (cmB s t), .int .i64 (cmE s t)]) ∧ Below w.heap.size w w' := by
  have H := hid (q_bothI w s t 198 (ordQ (vQ s) (vQ t)) 0 hs ht hL (enters_of Tryz.func198 (by kernel_rfl) rfl)
    (fun W v u h1 h2 hv hu hLW => q_Cmp1 W v u _ _ hv hu (sml_vQ h1) (sml_vQ h2) hLW))
  rw [c2I, c2E] at H
  obtain ⟨B, hB⟩ : ∃ B, cmB s t = B := ⟨_, rfl⟩
  obtain ⟨E, hE⟩ : ∃ E, cmE s t = E := ⟨_, rfl⟩
  rw [hB, hE] at H ⊢
  clear hB hE hs ht hL
  go_enter Tryz.func141, Tryz.ntmps141
  go_wp2_with fail
  refine H.out.mono ?_; rintro e w3 ⟨rfl, hb3⟩
  have y3 := hid hb3; clear hb3
  go_wp2_with fail
  go_ret2
  exact ⟨rfl, y3.out⟩
set_option maxRecDepth 100000 in
set_option maxHeartbeats 1000000 in
theorem q_chooseMin (w : World) (s t : ByteArray) (hs : s.size ≤ 1000000) (ht : t.size ≤ 1000000) (hL : Lay w) :
    Calls Tryz.prog 93 #[.string s, .string t, .int .i64 1] w fun e w' => e = .returned (.tuple #[.string (mnB s t), .int .i64 (cmE s t)]) ∧ Below w.heap.size w w' := by
  have H := hid (q_Cmp w s t hs ht hL)
  unfold mnB
  have h3 := cmB_three s t
  obtain ⟨B, hB⟩ : ∃ B, cmB s t = B := ⟨_, rfl⟩
  obtain ⟨E, hE⟩ : ∃ E, cmE s t = E := ⟨_, rfl⟩
  rw [hB] at h3
  rw [hB, hE] at H ⊢
  clear hB hE hs ht hL
  by_cases he : E = 0
  · subst he
    rcases h3 with rfl | rfl | rfl
    · go_enter Tryz.func93, Tryz.ntmps93
      go_wp2_with fail
      refine H.out.mono ?_; rintro e w3 ⟨rfl, hb3⟩
      have y3 := hid hb3; clear hb3
      go_wp2_with fail
      go_ret2
      exact ⟨rfl, y3.out⟩
    · go_enter Tryz.func93, Tryz.ntmps93
      go_wp2_with fail
      refine H.out.mono ?_; rintro e w3 ⟨rfl, hb3⟩
      have y3 := hid hb3; clear hb3
      go_wp2_with fail
      go_ret2
      exact ⟨rfl, y3.out⟩
    · go_enter Tryz.func93, Tryz.ntmps93
      go_wp2_with fail
      refine H.out.mono ?_; rintro e w3 ⟨rfl, hb3⟩
      have y3 := hid hb3; clear hb3
      go_wp2_with fail
      go_ret2
      exact ⟨rfl, y3.out⟩
  · rw [if_neg he]
    have q0 : (E == 0) = false := by simpa using he
    have q1 : (E != 0) = true := by simpa using he
    clear he h3
    go_enter Tryz.func93, Tryz.ntmps93
    go_wp2_with fail
    refine H.out.mono ?_; rintro e w3 ⟨rfl, hb3⟩
    have y3 := hid hb3; clear hb3
    go_wp2_with fail
    go_ret2
    exact ⟨rfl, y3.out⟩
set_option maxRecDepth 100000 in
set_option maxHeartbeats 1000000 in
theorem q_Min (w : World) (s t : ByteArray) (hs : s.size ≤ 1000000) (ht : t.size ≤ 1000000) (hL : Lay w) :
    Calls Tryz.prog 53 #[.string s, .string t] w fun e w' => e = .returned (.tuple #[.string (mnB s t), .int .i64 (cmE s t)]) ∧ Below w.heap.size w w' := by
  have H := hid (q_chooseMin w s t hs ht hL)
  obtain ⟨B, hB⟩ : ∃ B, mnB s t = B := ⟨_, rfl⟩
  obtain ⟨E, hE⟩ : ∃ E, cmE s t = E := ⟨_, rfl⟩
  rw [hB, hE] at H ⊢
  clear hB hE hs ht hL
  go_enter Tryz.func53, Tryz.ntmps53
  go_wp2_with fail
  refine H.out.mono ?_; rintro e w3 ⟨rfl, hb3⟩
  have y3 := hid hb3; clear hb3
  go_wp2_with fail
  go_ret2
  exact ⟨rfl, y3.out⟩
end Go.Proofs.YtgphopkifomffaaGreatDoor
namespace Go.Proofs.YtgphopkifomffaaGreatDoor
open Go.RowKit Go.Shelf
open Go.Lib (decDigits nDigits)
set_option linter.unusedVariables false
set_option linter.unusedSimpArgs false
set_option maxRecDepth 100000 in
set_option maxHeartbeats 1000000 in
theorem q_Int (w : World) (n : Nat) (h : n ≤ 9223372036854775807) (hL : Lay w) :
    Calls Tryz.prog 52 #[.int .i64 (n : Nat)] w fun e w' => e = .returned (.string (numB n)) ∧ Below w.heap.size w w' := by
  have H := hid (s_Itoa w n h hL)
  obtain ⟨s, hs⟩ : ∃ s, numB n = s := ⟨_, rfl⟩
  rw [hs] at H ⊢
  clear hs h hL
  go_enter Tryz.func52, Tryz.ntmps52
  go_wp2_with fail
  refine H.out.mono ?_; rintro e w3 ⟨rfl, hb3⟩
  have y3 := hid hb3; clear hb3
  go_wp2_with fail
  go_ret
  exact ⟨rfl, y3.out⟩
end Go.Proofs.YtgphopkifomffaaGreatDoor
namespace Go.Proofs.YtgphopkifomffaaGreatDoor
open Go.RowKit Go.Shelf
open Go.Lib (decDigits nDigits)
set_option linter.unusedVariables false
set_option linter.unusedSimpArgs false
set_option maxRecDepth 100000 in
set_option maxHeartbeats 2000000 in
theorem q_PowN1 (w : World) (v : Value) (q : Rat) (n g1 : Nat) (z : Int) (hp : IsQ .u64 w v q) (sp : Sml 1000 q) (h0 : q ≠ 0) (hn1 : 1 ≤ n) (hn : n ≤ 1000000000) (hzn : z = -(n : Int)) (hL : Lay w) (c1 : w.cell? ⟨g1, 0, none⟩ = some (.int .i64 z)) :
    Calls Tryz.prog 81 #[v, .pointer (some ⟨g1, 0, none⟩)] w fun e w' => e = .returned (.tuple #[.string (outB (q⁻¹ ^ n)), .int .i64 (outE (q⁻¹ ^ n))]) ∧ Below w.heap.size w w' := by
  have FS := fun V v hv => hid (f_Sign V v q hv)
  have FI := fun V v hv => hid (f_Inv V v q hv h0)
  have sg := sg_ne h0
  have spi := sml_inv h0 sp
  obtain ⟨sx, hz⟩ : ∃ z, sgQ q = z := ⟨_, rfl⟩
  rw [hz] at FS sg
  obtain ⟨p, hpq⟩ : ∃ p, q⁻¹ = p := ⟨_, rfl⟩
  rw [hpq] at FI spi ⊢
  have F1 := fun V v hv hV => hid (l_Pow V v p.num.natAbs n hv (Nat.le_trans spi.n (by omega)) (by omega) hV)
  have F2 := fun V v hv hV => hid (l_Pow V v p.den n hv (Nat.le_trans spi.d (by omega)) (by omega) hV)
  obtain ⟨e1, e2, e3⟩ := pow_parts p n
  have HOV := hid (fun h => pow_over (q := p) (n := n) h)
  have F3 := fun V v hv hV (h1 : nDigits (p.num.natAbs ^ n) ≤ 4000) (h2 : nDigits (p.den ^ n) ≤ 4000) => hid (f_Num V v (p ^ n) hv (by rw [e2]; exact Nat.le_trans (limbs_of_digits h1) (by omega)) (by rw [e3]; exact Nat.le_trans (limbs_of_digits h2) (by omega)) hV)
  obtain ⟨B, hB⟩ : ∃ B, outB (p ^ n) = B := ⟨_, rfl⟩
  obtain ⟨E, hE⟩ : ∃ E, outE (p ^ n) = E := ⟨_, rfl⟩
  rw [hB, hE] at F3 HOV ⊢
  clear hB hE
  have HL := hid hL
  obtain ⟨N1, D1, rfl, hn1', hd1⟩ := hp.ex
  obtain ⟨a1, c1', rfl, _⟩ := hn1'.openI
  obtain ⟨a2, c2', rfl, _⟩ := hd1.openI
  obtain ⟨k1, hk1⟩ : ∃ k, (limbs q.num.natAbs).length = k := ⟨_, rfl⟩
  obtain ⟨k2, hk2⟩ : ∃ k, (limbs q.den).length = k := ⟨_, rfl⟩
  obtain ⟨mq, hmq⟩ : ∃ m, decide (q.num < 0) = m := ⟨_, rfl⟩
  rw [hk1, hk2, hmq] at hp ⊢
  have X1 := hid (Blk.new w #[.bool mq, .slice a1 k1 c1', .slice a2 k2 c2'] 101)
  have b1 := hid ((Below.refl w.heap.size w).alloc (Nat.le_refl _) (.cells #[.bool mq, .slice a1 k1 c1', .slice a2 k2 c2'] 101))
  have HP := hid (hp.call b1.out)
  have r0 := X1.out.cell 0
  have r1 := X1.out.cell 1
  have r2 := X1.out.cell 2
  have C1 := (b1.out.cell (cell_lt c1)).trans c1
  simp at r0 r1 r2
  have q0 : decide (z < 0) = true := decide_eq_true (by omega)
  obtain ⟨u, hu⟩ : ∃ u : Int, 18446744073709551616 - (n : Int) = u := ⟨_, rfl⟩
  have w0 : IntKind.u64.wrap z = u := by simp [IntKind.wrap, IntKind.bits, IntKind.signed]; omega
  have w1 : IntKind.u64.wrap (-u) = (n : Int) := by simp [IntKind.wrap, IntKind.bits, IntKind.signed]; omega
  have E1 := hid e1; have E2 := hid e2; have E3 := hid e3; have HN := hid hn
  clear hk1 hk2 hmq hn1' hd1 hp hL sp spi e1 e2 e3 c1 hn hn1 h0 hz hpq hzn hu
  go_enter Tryz.func81, Tryz.ntmps81
  go_wp2_with fail
  refine (FS _ _ HP.out).out.mono ?_; rintro e w2 ⟨rfl, hb2⟩
  have y2 := hid (bnext b1.out hb2); have X2 := hid (X1.out.call hb2); have C2 := (hb2.cell (cell_lt C1)).trans C1; have HP2 := hid (HP.out.call hb2)
  clear hb2 r0 r1 r2 C1
  have r0 := X2.out.cell 0
  have r1 := X2.out.cell 1
  have r2 := X2.out.cell 2
  simp at r0 r1 r2
  go_wp2_with fail
  refine (FI _ _ HP2.out).out.mono ?_; rintro e w3 ⟨⟨vi, rfl, hvi⟩, hb3⟩
  have y3 := hid (bnext y2.out hb3); have X3 := hid (X2.out.call hb3); have C3 := (hb3.cell (cell_lt C2)).trans C2
  obtain ⟨N3, D3, rfl, hn3, hd3⟩ := hvi.ex
  obtain ⟨a3, c3, rfl, _⟩ := hn3.openI
  obtain ⟨a4, c4, rfl, _⟩ := hd3.openI
  obtain ⟨k3, hk3⟩ : ∃ k, (limbs p.num.natAbs).length = k := ⟨_, rfl⟩
  obtain ⟨k4, hk4⟩ : ∃ k, (limbs p.den).length = k := ⟨_, rfl⟩
  obtain ⟨m1, hm1⟩ : ∃ m, decide (p.num < 0) = m := ⟨_, rfl⟩
  rw [hk3, hk4, hm1] at hvi ⊢
  rw [hk3] at hn3
  rw [hk4] at hd3
  have E1' := E1.out
  rw [hm1] at E1'
  have E1 := hid E1'
  have HN3 := hid hn3; have HD3 := hid hd3
  clear hb3 r0 r1 r2 C2 hk3 hk4 hm1 hvi hn3 hd3 E1'
  have r0 := X3.out.cell 0
  have r1 := X3.out.cell 1
  have r2 := X3.out.cell 2
  have f0 := X3.out.free 0
  have f1 := X3.out.free 1
  have f2 := X3.out.free 2
  simp at r0 r1 r2
  obtain ⟨s1, s2⟩ := set3 X3.out m1 a3 a4 k3 c3 k4 c4
  have N2 := hid (s1 _ _ _ HN3.out)
  have D2 := hid (s1 _ _ _ HD3.out)
  have X0 := hid s2
  have y0 : Hid (Below w.heap.size w (((w3.setCell ⟨w.heap.size, 0, none⟩ (.bool m1)).setCell ⟨w.heap.size, 1, none⟩ (.slice a3 k3 c3)).setCell ⟨w.heap.size, 2, none⟩ (.slice a4 k4 c4))) := ((y3.out.setCell (Nat.le_refl _) _).setCell (Nat.le_refl _) _).setCell (Nat.le_refl _) _
  clear s1 s2
  go_wp2_with fail
  clear f0 f1 f2
  refine (F1 _ _ N2.out (HL.out.call y0.out)).out.mono ?_; rintro e w3 ⟨hr3, hb3⟩
  have y3 := hid (bnext y0.out hb3); have X3 := hid (X0.out.call hb3); have D3 := hid (D2.out.call hb3)
  clear hb3 r0 r1 r2
  have r0 := X3.out.cell 0
  have r1 := X3.out.cell 1
  have r2 := X3.out.cell 2
  simp at r0 r1 r2
  rcases hr3 with ⟨l3, v3, rfl, hv3⟩ | ⟨l3, rfl⟩
  · obtain ⟨a3, c3, rfl, _⟩ := hv3.openI
    obtain ⟨k3, hk3⟩ : ∃ k, (limbs (p.num.natAbs ^ n)).length = k := ⟨_, rfl⟩
    rw [hk3] at hv3 ⊢
    have V3 := hid hv3; have L3 := hid l3
    clear hk3 hv3 l3
    go_wp2_with fail
    refine (F2 _ _ D3.out (HL.out.call y3.out)).out.mono ?_; rintro e w4 ⟨hr4, hb4⟩
    have y4 := hid (bnext y3.out hb4); have X4 := hid (X3.out.call hb4); have V4 := hid (V3.out.call hb4)
    clear hb4 r0 r1 r2
    have r0 := X4.out.cell 0
    have r1 := X4.out.cell 1
    have r2 := X4.out.cell 2
    simp at r0 r1 r2
    rcases hr4 with ⟨l4, v4, rfl, hv4⟩ | ⟨l4, rfl⟩
    · obtain ⟨a4, c4, rfl, _⟩ := hv4.openI
      obtain ⟨k4, hk4⟩ : ∃ k, (limbs (p.den ^ n)).length = k := ⟨_, rfl⟩
      rw [hk4] at hv4 ⊢
      have W4 := hid hv4; have L4 := hid l4
      clear hk4 hv4 l4
      have M := hid (show IsQ .u64 w4 (.agg #[.bool (m1 && decide (n % 2 = 1)), .slice a3 k3 c3, .slice a4 k4 c4]) (p ^ n) from ⟨_, _, by rw [E1.out], by rw [E2.out]; exact V4.out, by rw [E3.out]; exact W4.out⟩)
      obtain ⟨Q, hQ⟩ : ∃ Q, p ^ n = Q := ⟨_, rfl⟩
      rw [hQ] at F3 M
      clear hQ HOV F1 F2
      have F4 := F3 _ _ M.out (HL.out.call y4.out) L3.out L4.out
      cases m1
      · simp only [Bool.false_and] at F4
        go_wp2_with fail
        refine F4.out.mono ?_; rintro e w5 ⟨rfl, hb5⟩
        have y5 := hid (bnext y4.out hb5); clear hb5
        go_wp2_with fail
        go_ret2
        exact ⟨rfl, y5.out⟩
      · simp only [Bool.true_and] at F4
        have e9 : ((n : Int) % 2 == 1) = decide (n % 2 = 1) := by
          rw [Bool.eq_iff_iff, beq_iff_eq, decide_eq_true_eq]; omega
        rw [← e9] at F4
        clear e9
        go_wp2_with fail
        refine F4.out.mono ?_; rintro e w5 ⟨rfl, hb5⟩
        have y5 := hid (bnext y4.out hb5); clear hb5
        go_wp2_with fail
        go_ret2
        exact ⟨rfl, y5.out⟩
    · have e7 := hid (HOV.out (.inr l4))
      clear l4
      go_wp2_with fail
      go_ret2
      exact ⟨by rw [e7.out.1, e7.out.2]; rfl, y4.out⟩
  · have e7 := hid (HOV.out (.inl l3))
    clear l3
    go_wp2_with fail
    refine (F2 _ _ D3.out (HL.out.call y3.out)).out.mono ?_; rintro e w4 ⟨hr4, hb4⟩
    have y4 := hid (bnext y3.out hb4)
    rcases hr4 with ⟨l4, v4, rfl, hv4⟩ | ⟨l4, rfl⟩
    · obtain ⟨a4, c4, rfl, _⟩ := hv4.openI
      obtain ⟨k4, hk4⟩ : ∃ k, (limbs (p.den ^ n)).length = k := ⟨_, rfl⟩
      rw [hk4]
      clear hk4 hv4 l4 hb4
      go_wp2_with fail
      go_ret2
      exact ⟨by rw [e7.out.1, e7.out.2]; rfl, y4.out⟩
    · clear l4 hb4
      go_wp2_with fail
      go_ret2
      exact ⟨by rw [e7.out.1, e7.out.2]; rfl, y4.out⟩
def pnB (n : Nat) (s : ByteArray) : ByteArray := op1B (fun q => q⁻¹ ^ n) s
def pnE (n : Nat) (s : ByteArray) : Int := op1E (fun q => q⁻¹ ^ n) s
set_option maxRecDepth 100000 in
set_option maxHeartbeats 1000000 in
theorem q_PowN (w : World) (s : ByteArray) (n : Nat) (z : Int) (hs : s.size ≤ 1000000) (hq : qE s = 0) (h0 : vQ s ≠ 0) (hn : n ≤ 1000000000) (hzn : z = -(n : Int)) (hL : Lay w) :
    Calls Tryz.prog 42 #[.string s, .int .i64 z] w fun e w' => e = .returned (.tuple #[.string (pnB n s), .int .i64 (pnE n s)]) ∧ Below w.heap.size w w' := by
  by_cases hn0 : n = 0
  · subst hn0
    obtain rfl : z = ((0 : Nat) : Int) := by omega
    refine (q_Pow w s 0 hs (by omega) hL).mono ?_
    rintro e w' ⟨rfl, hb⟩
    refine ⟨?_, hb⟩
    unfold pwB pwE pnB pnE op1B op1E
    simp only [Rat.pow_zero]
  have HL := hid hL
  have b1 := hid ((Below.refl w.heap.size w).alloc (Nat.le_refl _) (.cells #[.int .i64 z] 3))
  have X1 := hid (Blk.new w #[.int .i64 z] 3)
  obtain ⟨g1, hg1⟩ : ∃ g, w.heap.size = g := ⟨_, rfl⟩
  obtain ⟨w1, hw1⟩ : ∃ w1, w.alloc (.cells #[.int .i64 z] 3) = w1 := ⟨_, rfl⟩
  have L1 := hid (HL.out.call b1.out)
  have b1' := b1
  rw [hw1] at b1 X1 L1
  rw [hg1] at X1
  have W1 := hid (q_with w1 s 81 #[.pointer (some ⟨g1, 0, none⟩)] (outB ((vQ s)⁻¹ ^ n)) (outE ((vQ s)⁻¹ ^ n)) hs L1.out (enters_of Tryz.func81 (by kernel_rfl) rfl)
    (fun W v hq hb hv hLW => q_PowN1 W v (vQ s) n g1 z hv (sml_vQ hq) h0 (by omega) hn hzn hLW ((X1.out.call hb).cell 0)))
  have e1 : wB (outB ((vQ s)⁻¹ ^ n)) s = pnB n s := rfl
  have e2 : wE (outE ((vQ s)⁻¹ ^ n)) s = pnE n s := rfl
  rw [e1, e2] at W1
  obtain ⟨B, hB⟩ : ∃ B, pnB n s = B := ⟨_, rfl⟩
  obtain ⟨E, hE⟩ : ∃ E, pnE n s = E := ⟨_, rfl⟩
  rw [hB, hE] at W1 ⊢
  have HW := hid hw1; have HG := hid hg1
  clear hB hE hs hL hn e1 e2 hw1 hg1 b1' hq h0 hn0 hzn
  go_enter Tryz.func42, Tryz.ntmps42
  go_wp2_with fail
  have hw1 := HW.out; have hg1 := HG.out
  rw [hw1, hg1]
  refine W1.out.mono ?_; rintro e w2 ⟨rfl, hb2⟩
  have y2 := hid (bnext b1.out hb2)
  clear hb2 hw1 hg1
  go_wp2_with fail
  go_ret2
  exact ⟨rfl, y2.out⟩
end Go.Proofs.YtgphopkifomffaaGreatDoor
namespace Go.Proofs.YtgphopkifomffaaGreatDoor
open Go.RowKit Go.Shelf
open Go.Lib (decDigits nDigits)
set_option linter.unusedVariables false
set_option linter.unusedSimpArgs false
set_option maxRecDepth 100000 in
set_option maxHeartbeats 2000000 in
theorem na_Late (w : World) (a : ByteArray) (n many : Int) (ha : a.size ≤ 100000) (hL : Lay w) :
    Calls Tryz.prog 21 #[.string a, .int .i64 n, .int .i64 many] w fun e w' => e = .returned (.tuple #[.string (ntB a n many), .int .i64 (ntE a n many)]) ∧ Below w.heap.size w w' := by
  have HO := hid (g_TwoLateA w a n ha hL)
  unfold ntB ntE
  by_cases h0 : ntX a n many = 0
  · rw [if_neg (by rw [h0]; simp), if_neg (by rw [h0]; simp)]
    have h0' := h0
    unfold ntX at h0'
    split at h0'
    · rename_i h1; exact absurd h0' h1
    rename_i h1
    have h1 : glE a n 256 = 0 := Classical.byContradiction h1
    split at h0'
    · cases h0'
    rename_i h2
    rw [h1] at HO
    obtain ⟨m, rfl⟩ : ∃ m : Nat, many = (m : Nat) := ⟨many.toNat, by omega⟩
    have HI := fun V hV => hid (q_Int V m (by omega) hV)
    have HT := fun V hV => hid (q_Mul V (glB a n true) (numB m) (Nat.le_trans (glB_size _ _ _) (by omega)) (numB_sz (by have := nDigits_le (n := m) (k := 3) (by omega) (by omega); omega)) hV)
    have HM := fun V hV => hid (q_Min V (op2B (· * ·) (glB a n true) (numB m)) ⟨#[49]⟩ (Nat.le_trans (fx_size _ _ _) (by omega)) (by decide) hV)
    unfold ntT
    rw [Int.toNat_natCast]
    obtain ⟨G, hG⟩ : ∃ s, glB a n true = s := ⟨_, rfl⟩
    obtain ⟨I, hI⟩ : ∃ s, numB m = s := ⟨_, rfl⟩
    rw [hG] at HO HT HM ⊢
    rw [hI] at HI HT HM ⊢
    obtain ⟨T, hT⟩ : ∃ s, op2B (· * ·) G I = s := ⟨_, rfl⟩
    obtain ⟨TE, hTE⟩ : ∃ s, op2E (· * ·) G I = s := ⟨_, rfl⟩
    rw [hT] at HT HM ⊢
    rw [hTE] at HT
    obtain ⟨B, hB⟩ : ∃ s, mnB T ⟨#[49]⟩ = s := ⟨_, rfl⟩
    obtain ⟨E, hE⟩ : ∃ s, cmE T ⟨#[49]⟩ = s := ⟨_, rfl⟩
    rw [hB, hE] at HM ⊢
    obtain ⟨M, hMM⟩ : ∃ M : Int, ((m : Nat) : Int) = M := ⟨_, rfl⟩
    rw [hMM] at h2 HI ⊢
    have t3 : decide (M < 0) = false := decide_eq_false (by omega)
    have t4 : decide (256 < M) = false := decide_eq_false (by omega)
    have HL := hid hL
    clear ha hL h0 h0' h1 h2 hG hI hT hTE hB hE hMM
    go_enter Tryz.func21, Tryz.ntmps21
    go_wp2_with fail
    refine HO.out.mono ?_; rintro e w2 ⟨rfl, hb2⟩
    have y2 := hid hb2; clear hb2
    go_wp2_with fail
    refine (HI _ (HL.out.call y2.out)).out.mono ?_; rintro e w3 ⟨rfl, hb3⟩
    have y3 := hid (bnext y2.out hb3); clear hb3
    go_wp2_with fail
    refine (HT _ (HL.out.call y3.out)).out.mono ?_; rintro e w4 ⟨rfl, hb4⟩
    have y4 := hid (bnext y3.out hb4); clear hb4
    go_wp2_with fail
    refine (HM _ (HL.out.call y4.out)).out.mono ?_; rintro e w5 ⟨rfl, hb5⟩
    have y5 := hid (bnext y4.out hb5); clear hb5
    go_wp2_with fail
    go_ret2
    exact ⟨rfl, y5.out⟩
  · rw [if_pos h0, if_pos h0]
    unfold ntX at h0 ⊢
    obtain ⟨z, hz⟩ : ∃ z, glE a n 256 = z := ⟨_, rfl⟩
    obtain ⟨G, hG⟩ : ∃ s, glB a n true = s := ⟨_, rfl⟩
    rw [hz, hG] at HO
    rw [hz] at h0 ⊢
    by_cases c0 : z = 0
    case neg =>
      rw [if_pos c0]
      have t0 : (z == 0) = false := by rw [beq_eq_false_iff_ne]; exact c0
      clear hz hG h0 c0 ha hL
      go_enter Tryz.func21, Tryz.ntmps21
      go_wp2_with fail
      refine HO.out.mono ?_; rintro e w0 ⟨rfl, hb0⟩
      go_wp2_with fail
      go_ret2
      exact ⟨rfl, hb0⟩
    subst c0
    rw [if_neg (by simp)] at h0 ⊢
    by_cases c1 : many < 0 ∨ 256 < many
    · rw [if_pos c1]
      obtain ⟨p1, h1⟩ : ∃ p, decide (many < 0) = p := ⟨_, rfl⟩
      obtain ⟨p2, h2⟩ : ∃ p, decide (256 < many) = p := ⟨_, rfl⟩
      have hpq : (p1 || p2) = true := by rw [← h1, ← h2]; simpa using c1
      clear hz hG h0 c1 ha hL
      cases p1
      case true =>
        clear hpq h2
        go_enter Tryz.func21, Tryz.ntmps21
        go_wp2_with fail
        refine HO.out.mono ?_; rintro e w0 ⟨rfl, hb0⟩
        go_wp2_with fail
        go_ret2
        exact ⟨rfl, hb0⟩
      obtain rfl : p2 = true := by simpa using hpq
      clear hpq
      go_enter Tryz.func21, Tryz.ntmps21
      go_wp2_with fail
      refine HO.out.mono ?_; rintro e w0 ⟨rfl, hb0⟩
      go_wp2_with fail
      go_ret2
      exact ⟨rfl, hb0⟩
    · rw [if_neg c1] at h0
      exact absurd rfl h0
set_option maxRecDepth 100000 in
set_option maxHeartbeats 2000000 in
theorem na_Factor (w : World) (a : ByteArray) (reach : Int) (ha : a.size ≤ 100000) (hL : Lay w) :
    Calls Tryz.prog 15 #[.string a, .int .i64 reach] w fun e w' => e = .returned (.tuple #[.string (ffB a reach true), .int .i64 (ffE a reach true)]) ∧ Below w.heap.size w w' := by
  have HR := hid (na_ratio w a ha hL)
  unfold ffB ffE
  by_cases h0 : ffX a reach = 0
  · rw [if_neg (by rw [h0]; simp), if_neg (by rw [h0]; simp)]
    have h0' := h0
    unfold ffX at h0'
    split at h0'
    · rename_i h1; exact absurd h0' h1
    rename_i h1
    have h1 : ivrE a = 0 := Classical.byContradiction h1
    split at h0'
    · cases h0'
    rename_i h2
    obtain ⟨g1, g2⟩ := ivrE_ok h1
    rw [g1] at HR
    obtain ⟨hq, -⟩ := iv_pos h1
    have hne := iv_ne h1
    obtain ⟨r, rfl⟩ : ∃ r : Nat, reach = (r : Nat) := ⟨reach.toNat, by omega⟩
    have HP := fun V hV => hid (q_PowN V a (ffM (r : Nat) true) (-((ffM (r : Nat) true : Nat) : Int)) (by omega) hq hne (by unfold ffM; split <;> simp <;> omega) rfl hV)
    have e1 : pnB (ffM (r : Nat) true) a = pngB (ffM (r : Nat) true) a := rfl
    have e2 : pnE (ffM (r : Nat) true) a = pngE (ffM (r : Nat) true) a := rfl
    rw [e1, e2] at HP
    have hM : ffM (r : Nat) true = r := by unfold ffM; rw [if_pos rfl, Int.toNat_natCast]
    obtain ⟨B, hB⟩ : ∃ s, pngB (ffM (r : Nat) true) a = s := ⟨_, rfl⟩
    obtain ⟨E, hE⟩ : ∃ s, pngE (ffM (r : Nat) true) a = s := ⟨_, rfl⟩
    rw [hB, hE] at HP ⊢
    rw [hM] at HP
    have t0 : (a.toList == [48]) = false := ne_lit g2
    have HL := hid hL
    have hneg : IntKind.i64.wrap (-(r : Int)) = -(r : Int) := by rw [IntWalk.i64_in _ ⟨by omega, by omega⟩]
    obtain ⟨R, hR⟩ : ∃ R : Int, ((r : Nat) : Int) = R := ⟨_, rfl⟩
    rw [hR] at HP hneg h2 ⊢
    have t1 : decide (R < 0) = false := decide_eq_false (by omega)
    have t2 : decide (10000 < R) = false := decide_eq_false (by omega)
    clear ha hL h0 h0' h1 h2 g1 g2 hq hne e1 e2 hM hB hE hR
    go_enter Tryz.func15, Tryz.ntmps15
    go_wp2_with fail
    refine HR.out.mono ?_; rintro e w1 ⟨rfl, hb1⟩
    have y1 := hid hb1; clear hb1
    go_wp2_with fail
    refine (HP _ (HL.out.call y1.out)).out.mono ?_; rintro e w2 ⟨rfl, hb2⟩
    have y2 := hid (bnext y1.out hb2); clear hb2
    go_wp2_with fail
    go_ret2
    exact ⟨rfl, y2.out⟩
  · rw [if_pos h0, if_pos h0]
    unfold ffX at h0 ⊢
    by_cases hiv : ivrE a = 0
    · rw [if_neg (by rw [hiv]; simp)] at h0 ⊢
      obtain ⟨g1, g2⟩ := ivrE_ok hiv
      rw [g1] at HR
      have ta : (a.toList == [48]) = false := ne_lit g2
      by_cases c1 : reach < 0 ∨ 10000 < reach
      · rw [if_pos c1]
        obtain ⟨p1, h1⟩ : ∃ p, decide (reach < 0) = p := ⟨_, rfl⟩
        obtain ⟨p2, h2⟩ : ∃ p, decide (10000 < reach) = p := ⟨_, rfl⟩
        have hpq : (p1 || p2) = true := by rw [← h1, ← h2]; simpa using c1
        clear h0 c1 ha hL g1 g2 hiv
        cases p1
        case true =>
          clear hpq h2
          go_enter Tryz.func15, Tryz.ntmps15
          go_wp2_with fail
          refine HR.out.mono ?_; rintro e w0 ⟨rfl, hb0⟩
          go_wp2_with fail
          go_ret2
          exact ⟨rfl, hb0⟩
        obtain rfl : p2 = true := by simpa using hpq
        clear hpq
        go_enter Tryz.func15, Tryz.ntmps15
        go_wp2_with fail
        refine HR.out.mono ?_; rintro e w0 ⟨rfl, hb0⟩
        go_wp2_with fail
        go_ret2
        exact ⟨rfl, hb0⟩
      · rw [if_neg c1] at h0
        exact absurd rfl h0
    · rw [if_pos hiv]
      unfold ivrE at hiv ⊢
      obtain ⟨z, hz⟩ : ∃ z, gPE a = z := ⟨_, rfl⟩
      rw [hz] at HR hiv ⊢
      by_cases c0 : z = 0
      case neg =>
        rw [if_pos c0]
        have t0 : (z == 0) = false := by rw [beq_eq_false_iff_ne]; exact c0
        clear hz h0 c0 ha hL hiv
        go_enter Tryz.func15, Tryz.ntmps15
        go_wp2_with fail
        refine HR.out.mono ?_; rintro e w0 ⟨rfl, hb0⟩
        go_wp2_with fail
        go_ret2
        exact ⟨rfl, hb0⟩
      subst c0
      rw [if_neg (by simp)] at hiv ⊢
      by_cases ca : a = ⟨#[48]⟩
      · subst ca
        rw [if_pos rfl]
        clear hz h0 ha hL hiv
        go_enter Tryz.func15, Tryz.ntmps15
        go_wp2_with fail
        refine HR.out.mono ?_; rintro e w0 ⟨rfl, hb0⟩
        go_wp2_with fail
        go_ret2
        exact ⟨rfl, hb0⟩
      · rw [if_neg ca] at hiv
        exact absurd rfl hiv
end Go.Proofs.YtgphopkifomffaaGreatDoor
namespace Go.Proofs.YtgphopkifomffaaGreatDoor
open Go.RowKit
open Go.Lib (decDigits nDigits)
set_option linter.unusedVariables false
def h12 : ByteArray := ⟨#[49, 47, 50]⟩
def x11 : ByteArray := ⟨#[49, 49]⟩
end Go.Proofs.YtgphopkifomffaaGreatDoor
namespace Go.Proofs.YtgphopkifomffaaGreatDoor
open Go.RowKit
open Go.Lib (decDigits nDigits)
set_option linter.unusedVariables false
set_option linter.unusedSimpArgs false
theorem nn_l : nzO true h12 [5, 7] [x11, ⟨#[48, 48, 49, 49]⟩] = some [5, 9] ∧ naE [5, 7] h12 [x11, ⟨#[48, 48, 49, 49]⟩] = 0 := by decide +kernel
def nnD : List (ByteArray × ByteArray) := [(⟨#[52]⟩, ⟨#[49, 47, 56]⟩), (⟨#[53]⟩, ⟨#[49, 47, 52]⟩), (⟨#[54]⟩, ⟨#[49, 47, 56]⟩), (⟨#[108, 97, 116, 101]⟩, ⟨#[49, 47, 50]⟩)]
theorem nn_d : nlE [5] h12 3 = 0 ∧ nlR [5] h12 3 = nnD := by
  have h : nlE [5] h12 3 = 0 := by decide +kernel
  refine ⟨h, ?_⟩
  rw [nlR_ok h]
  have e : nyP (nlG h12 3) (chA (nlG h12 3) (3 : Int).toNat) (3 : Int).toNat [5] = nnD := by decide +kernel
  rw [e]
  exact List.mergeSort_of_pairwise (by decide +kernel)
theorem nn_k : nlE [] h12 3 = 0 ∧ nlR [] h12 3 = [(⟨#[]⟩, ⟨#[49]⟩)] := by
  have h : nlE [] h12 3 = 0 := by decide +kernel
  refine ⟨h, ?_⟩
  rw [nlR_ok h]
  have e : nyP (nlG h12 3) (chA (nlG h12 3) (3 : Int).toNat) (3 : Int).toNat [] = [(⟨#[]⟩, ⟨#[49]⟩)] := by decide +kernel
  rw [e]
  exact List.mergeSort_singleton _
theorem nn_a : nzO true h12 [5] [⟨#[49]⟩] = none ∧ naE [5] h12 [⟨#[49]⟩] = 0 := by decide +kernel
theorem nn_f : naE [5] h12 [] = 16 := by decide +kernel
theorem nn_g : naE [5] ⟨#[49]⟩ [⟨#[49]⟩] = 2 := by decide +kernel
theorem nn_h : naE [5, 7] h12 [⟨#[49, 49]⟩, ⟨#[120]⟩] = 3 := by decide +kernel
theorem nn_i : naE (List.replicate 257 0) h12 [] = 4 := by decide +kernel
theorem nn_j : naE [1125899906842625] h12 [⟨#[49]⟩] = 2 := by decide +kernel
theorem nn_m : nlE [1, 2, 3, 4] h12 4 = 5 ∧ nlR [1, 2, 3, 4] h12 4 = [] := by
  have h : nlE [1, 2, 3, 4] h12 4 = 5 := by decide +kernel
  exact ⟨h, if_neg (by rw [h]; decide)⟩
theorem nn_n : ntB h12 2 1 = ⟨#[51, 47, 52]⟩ ∧ ntE h12 2 1 = 0 := by decide +kernel
theorem nn_o : ntB h12 2 2 = ⟨#[49]⟩ ∧ ntE h12 2 2 = 0 := by decide +kernel
theorem nn_p : ntB h12 2 257 = ⟨#[]⟩ ∧ ntE h12 2 257 = 2 := by decide +kernel
theorem nn_q : ffB ⟨#[50, 47, 51]⟩ 2 true = ⟨#[57, 47, 52]⟩ ∧ ffE ⟨#[50, 47, 51]⟩ 2 true = 0 := by decide +kernel
theorem nn_r : ffB ⟨#[48]⟩ 1 true = ⟨#[]⟩ ∧ ffE ⟨#[48]⟩ 1 true = 6 := by decide +kernel
theorem nn_s : ffB h12 (-1) true = ⟨#[]⟩ ∧ ffE h12 (-1) true = 2 := by decide +kernel
theorem nn_t : ffB ⟨#[49, 47, 49, 48]⟩ 4000 true = ⟨#[]⟩ ∧ ffE ⟨#[49, 47, 49, 48]⟩ 4000 true = 5 := by decide +kernel
theorem nn_u : nzO true h12 [] [] = some [] ∧ naE [] h12 [] = 0 := by decide +kernel
end Go.Proofs.YtgphopkifomffaaGreatDoor
namespace Go.Proofs.YtgphopkifomffaaGreatDoor
open Go.RowKit Go.Shelf
set_option linter.unusedVariables false
set_option linter.unusedSimpArgs false
theorem mrow_lit (w : World) (L : List (ByteArray × ByteArray)) (n : Nat) (hn : L.length = n) (hL : n ≤ 1000) : MRow (w.alloc (.cells (massC L).toArray 40)) (.slice (some ⟨w.heap.size, 0, none⟩) n n) L := by
  subst hn
  refine ⟨some ⟨w.heap.size, 0, none⟩, L.length, rfl, Nat.le_refl _, by omega, fun i x h => ⟨w.heap.size, 0, rfl, by simp, ?_, ?_⟩⟩
  · rw [Nat.zero_add, (Blk.new w _ _).cell, List.getElem?_toArray]; exact (massC_get h).1
  · rw [Nat.zero_add, (Blk.new w _ _).cell, List.getElem?_toArray]; exact (massC_get h).2
theorem rowZ_lit (w : World) (L : List Int) (n : Nat) (hn : L.length = n) (hL : n ≤ 1000) : Row (w.alloc (.cells (zs L).toArray 3)) (.slice (some ⟨w.heap.size, 0, none⟩) n n) (zs L) :=
  Row.of_blk (Blk.new w _ _) (by rw [zs_length]; exact hn) (by unfold maxLen; omega) (fun i x h => by rw [List.getElem?_toArray]; exact h) (Nat.le_refl _) (by unfold maxLen; omega)
end Go.Proofs.YtgphopkifomffaaGreatDoor
namespace Go.Proofs.YtgphopkifomffaaGreatDoor
open Go.RowKit Go.Shelf
open Go.Lib (decDigits nDigits)
set_option linter.unusedVariables false
set_option linter.unusedSimpArgs false
set_option maxRecDepth 100000 in
set_option maxHeartbeats 2000000 in
theorem k_SameI (w : World) (v u : Value) (L M : List Int) (hv : Row w v (zs L)) (hu : Row w u (zs M)) :
    Calls Tryz.prog 23 #[v, u] w fun e w' => e = .returned (.bool (decide (L = M))) ∧ Below w.heap.size w w' := by
  obtain ⟨a, c, rfl, h1, h2, h3⟩ := hv.openZ
  obtain ⟨a', c', rfl, h1', h2', h3'⟩ := hu.openZ
  obtain ⟨n, hn⟩ : ∃ n, L.length = n := ⟨_, rfl⟩
  obtain ⟨m, hm⟩ : ∃ n, M.length = n := ⟨_, rfl⟩
  rw [hn] at h1 ⊢
  rw [hm] at h1' ⊢
  have H3 := hid h3; have H3' := hid h3'; have HN := hid hn; have HM := hid hm
  clear hv hu h3 h3'
  by_cases hnm : n = m
  · subst hnm
    have q0 : ((n : Int) != (n : Int)) = false := by simp
    clear hn hm
    go_enter Tryz.func23, Tryz.ntmps23
    go_wp2_with fail
    go_loopw [5] (fun ii wr => ∃ i : Nat, ii = .int .i64 (i : Nat) ∧ i ≤ n ∧ Hid (∀ j, j < i → L[j]? = M[j]?) ∧ Hid (Below w.heap.size w wr)) (fun ii wr => n - (intOf ii).toNat)
    case atStart => exact ⟨0, rfl, Nat.zero_le _, fun j hj => absurd hj (by omega), Below.refl _ _⟩
    case round =>
      obtain ⟨i, rfl, hi, hI, hB⟩ := hrel
      by_cases hlt : i < n
      · obtain ⟨x, hx⟩ : ∃ x, L[i]? = some x := ⟨_, List.getElem?_eq_getElem (by rw [HN.out]; exact hlt)⟩
        obtain ⟨y, hy⟩ : ∃ x, M[i]? = some x := ⟨_, List.getElem?_eq_getElem (by rw [HM.out]; exact hlt)⟩
        obtain ⟨g, o, rfl, hg, k1⟩ := H3.out i x hx
        obtain ⟨g', o', rfl, hg', k1'⟩ := H3'.out i y hy
        have HX := hid hx; have HY := hid hy
        have m1 := (hB.out.cell (p := ⟨g, o + i, none⟩) hg).trans k1
        have m3 := (hB.out.cell (p := ⟨g', o' + i, none⟩) hg').trans k1'
        have b1 : (0 : Int) ≤ (i : Int) := by omega
        have b2 : (i : Int) < (n : Int) := by omega
        have wi : IntKind.i64.wrap ((i : Int) + 1) = (i : Int) + 1 := by rw [IntWalk.i64_in _ ⟨by omega, by omega⟩]
        clear k1 k1' hx hy hg hg'
        by_cases he1 : x = y
        · subst he1
          have n1 : (x != x) = false := by simp
          go_wp2_with fail
          refine held_plain [0, 1, 2, 3, 4, 5, 6, 7, 8] 0 (fun w' => w'.cell? ⟨g, o + i, none⟩ = some (.int .i64 x) ∧ w'.cell? ⟨g', o' + i, none⟩ = some (.int .i64 x)) (by kernel_rfl) (by kernel_rfl) (by kernel_rfl) (by kernel_rfl) ⟨m1, m3⟩ ?_
          iterate 9
            refine ⟨_, rfl, ?_⟩
            apply Exists.intro
            refine ⟨.inl ⟨by rfl, ?_⟩, ?_⟩
            · (intro W' hW'; obtain ⟨q1, q2⟩ := hW'; go_simp; try (with_reducible rfl))
            (dsimp only [Act.put]; try simp only [List.setIfInBounds_toArray, List.set_cons_zero, List.set_cons_succ])
          refine wpAnyH_done (by kernel_rfl) ?_ _
          simp only [Only]
          go_wp2_with fail
          go_roundw
          case rel => exact ⟨i + 1, rfl, by omega, fun j hj => by
            rcases Nat.lt_or_ge j i with h | h
            · exact hI.out j h
            · obtain rfl : j = i := by omega
              rw [HX.out, HY.out], hB.out.drew⟩
          case measure => simp [intOf] <;> omega
        · have n1 : (x != y) = true := by simpa using he1
          have hne : decide (L = M) = false := by
            rw [decide_eq_false_iff_not]; rintro rfl
            have := HX.out.symm.trans HY.out
            simp only [Option.some.injEq] at this
            exact he1 this
          have HNE := hid hne
          clear hne he1
          go_wp2_with fail
          refine held_plain [0, 1, 2, 3, 4, 5, 6, 7, 8] 0 (fun w' => w'.cell? ⟨g, o + i, none⟩ = some (.int .i64 x) ∧ w'.cell? ⟨g', o' + i, none⟩ = some (.int .i64 y)) (by kernel_rfl) (by kernel_rfl) (by kernel_rfl) (by kernel_rfl) ⟨m1, m3⟩ ?_
          iterate 9
            refine ⟨_, rfl, ?_⟩
            apply Exists.intro
            refine ⟨.inl ⟨by rfl, ?_⟩, ?_⟩
            · (intro W' hW'; obtain ⟨q1, q2⟩ := hW'; go_simp; try (with_reducible rfl))
            (dsimp only [Act.put]; try simp only [List.setIfInBounds_toArray, List.set_cons_zero, List.set_cons_succ])
          refine wpAnyH_done (by kernel_rfl) ?_ _
          simp only [Only]
          go_wp2_with fail
          go_ret
          exact ⟨by rw [HNE.out]; rfl, hB.out.drew⟩
      · obtain rfl : i = n := by omega
        have hE : L = M := by
          apply List.ext_getElem?
          intro j
          by_cases hj : j < i
          · exact hI.out j hj
          · rw [List.getElem?_eq_none (by rw [HN.out]; omega), List.getElem?_eq_none (by rw [HM.out]; omega)]
        have HE := hid hE
        have q1 : decide ((i : Int) < (i : Int)) = false := by simp
        clear hE
        go_wp2_with fail
        go_ret
        exact ⟨by rw [decide_eq_true HE.out]; rfl, hB.out⟩
  · have hE : decide (L = M) = false := by rw [decide_eq_false_iff_not]; rintro rfl; exact hnm (hn.symm.trans hm)
    have HE := hid hE
    have q0 : ((n : Int) != (m : Int)) = true := by simp; omega
    clear hn hm hE
    go_enter Tryz.func23, Tryz.ntmps23
    go_wp2_with fail
    go_ret
    exact ⟨by rw [HE.out]; rfl, Below.refl _ _⟩
end Go.Proofs.YtgphopkifomffaaGreatDoor
namespace Go.Proofs.YtgphopkifomffaaGreatDoor
open Go.RowKit Go.Shelf
open Go.Lib (decDigits nDigits)
set_option linter.unusedVariables false
set_option linter.unusedSimpArgs false
theorem rowZ_isS (w : World) (L : List Int) (cs : Array Value) (n b : Nat) (hc : cs = (zs L).toArray) (hb : w.heap.size = b) (hn : L.length = n) (hL : n ≤ 1000) : Row (w.alloc (.cells cs 3)) (.slice (some ⟨b, 0, none⟩) n n) (zs L) := by
  subst hc hb
  exact rowZ_lit w L n hn hL
theorem rowB_isS (w : World) (L : List ByteArray) (cs : Array Value) (n b : Nat) (hc : cs = (strs L).toArray) (hb : w.heap.size = b) (hn : L.length = n) (hL : n ≤ 1000) : Row (w.alloc (.cells cs 34)) (.slice (some ⟨b, 0, none⟩) n n) (strs L) := by
  subst hc hb
  exact Row.of_blk (Blk.new w _ _) (by rw [strs_length]; exact hn) (by unfold maxLen; omega) (fun i x h => by rw [List.getElem?_toArray]; exact h) (Nat.le_refl _) (by unfold maxLen; omega)
set_option maxRecDepth 100000 in
set_option maxHeartbeats 4000000 in
theorem w_lives21 (w : World) (hL : LayB w) :
    Calls Tryz.prog 7 #[] w fun e w' => e = .returned (.bool true) ∧ Below w.heap.size w w' := by
  have HL := hid hL
  have PP := fun V v u hv hu hV => hid (na_Add V v u [5, 7] h12 [x11, ⟨#[48, 48, 49, 49]⟩] hv hu (by decide) (by decide) hV)
  have PL := fun V v hv hV => hid (na_Law V v [5] h12 3 hv (by decide) (by decide +kernel) hV)
  rw [naO_ok nn_l.2 nn_l.1, nn_l.2] at PP
  simp only [Option.isSome_some, Option.getD_some] at PP
  rw [nn_d.1, nn_d.2] at PL
  unfold h12 x11 at PP
  unfold h12 nnD at PL
  have PI := fun V u v hu hv => hid (k_SameI V u v [5, 9] [5, 9] hu hv)
  have PS := fun V u v hu hv => hid (k_SameM V u v nnD nnD hu hv)
  rw [decide_eq_true rfl] at PI PS
  unfold nnD at PS
  clear hL
  have A1 := (Below.refl w.heap.size w).alloc (Nat.le_refl _) (.cells #[.int .i64 5, .int .i64 7] 3)
  have A2 := hid (A1.alloc A1.size (.cells #[.string ⟨#[49, 49]⟩, .string ⟨#[48, 48, 49, 49]⟩] 34))
  have R1 := hid ((rowZ_isS w [5, 7] _ 2 w.heap.size rfl rfl rfl (by omega)).call ((Below.refl _ _).alloc (Nat.le_refl _) (.cells #[.string ⟨#[49, 49]⟩, .string ⟨#[48, 48, 49, 49]⟩] 34)))
  have R2 := hid (rowB_isS (w.alloc (.cells #[.int .i64 5, .int .i64 7] 3)) [⟨#[49, 49]⟩, ⟨#[48, 48, 49, 49]⟩] _ 2 (w.heap.size + 1) rfl (by simp) rfl (by omega))
  clear A1
  go_enter Tryz.func7, Tryz.ntmps7
  go_wp2_with fail
  refine (PP _ _ _ R1.out R2.out (HL.out.call A2.out)).out.mono ?_; rintro e w1 ⟨⟨u1, rfl, hu1⟩, hb1⟩
  have y1 := hid (bnext A2.out hb1)
  have U1 := hid hu1
  obtain ⟨a1, k1, rfl, -, -, -⟩ := hu1.openZ
  clear hb1 hu1
  go_wp2_with fail
  have A3 := hid ((Below.refl w1.heap.size w1).alloc (Nat.le_refl _) (.cells #[.int .i64 5] 3))
  have R3 := hid (rowZ_isS w1 [5] _ 1 w1.heap.size rfl rfl rfl (by omega))
  refine (PL _ _ R3.out (HL.out.call (bnext y1.out A3.out))).out.mono ?_; rintro e w2 ⟨⟨u, rfl, hu⟩, hb2⟩
  have b2 := hid (bnext A3.out hb2)
  have y2 := hid (bnext y1.out b2.out)
  have U2 := hid hu
  obtain ⟨a2, k2, rfl, -, -, -⟩ := hu.ex
  clear hb2 hu
  have A4 := hid ((Below.refl w2.heap.size w2).alloc (Nat.le_refl _) (.cells #[.int .i64 5, .int .i64 9] 3))
  have R4 := hid (rowZ_isS w2 [5, 9] _ 2 w2.heap.size rfl rfl rfl (by omega))
  go_wp2_with fail
  refine (PI _ _ _ ((U1.out.call b2.out).call A4.out) R4.out).out.mono ?_; rintro e w3 ⟨rfl, hb3⟩
  have b3 := hid (bnext A4.out hb3)
  have y3 := hid (bnext y2.out b3.out)
  clear hb3
  have A5 := hid ((Below.refl w3.heap.size w3).alloc (Nat.le_refl _) (.cells #[.string ⟨#[52]⟩, .string ⟨#[49, 47, 56]⟩, .string ⟨#[53]⟩, .string ⟨#[49, 47, 52]⟩, .string ⟨#[54]⟩, .string ⟨#[49, 47, 56]⟩, .string ⟨#[108, 97, 116, 101]⟩, .string ⟨#[49, 47, 50]⟩] 40))
  have R5 := hid (mrow_lit w3 [(⟨#[52]⟩, ⟨#[49, 47, 56]⟩), (⟨#[53]⟩, ⟨#[49, 47, 52]⟩), (⟨#[54]⟩, ⟨#[49, 47, 56]⟩), (⟨#[108, 97, 116, 101]⟩, ⟨#[49, 47, 50]⟩)] 4 rfl (by omega))
  go_wp2_with fail
  refine (PS _ _ _ ((U2.out.call b3.out).call A5.out) R5.out).out.mono ?_; rintro e w4 ⟨rfl, hb4⟩
  go_wp2_with fail
  go_ret
  exact ⟨rfl, bnext y3.out (bnext A5.out hb4)⟩
end Go.Proofs.YtgphopkifomffaaGreatDoor
namespace Go.Proofs.YtgphopkifomffaaGreatDoor
open Go.RowKit Go.Shelf
open Go.Lib (decDigits nDigits)
set_option linter.unusedVariables false
set_option linter.unusedSimpArgs false
theorem rowZ_madeS (w : World) (n b : Nat) (hb : w.heap.size = b) (hL : n ≤ 1000) : Row (w.alloc (.cells (madeCells #[.int .i64 0] n) 3)) (.slice (some ⟨b, 0, none⟩) n n) (zs (List.replicate n 0)) := by
  subst hb
  refine Row.of_blk (Blk.new w _ _) (by simp) (by unfold maxLen; omega) (fun i x h => ?_) (Nat.le_refl _) (by unfold maxLen; omega)
  have hi := (List.getElem?_eq_some_iff.1 h).1
  simp at hi
  rw [← h]
  unfold madeCells zs
  simp [hi, Nat.mod_one]
theorem row_noneZS (w : World) : Row w (.slice none 0 0) (zs []) := ⟨none, 0, rfl, Nat.le_refl _, by unfold maxLen; omega, fun i x h => by simp [zs] at h⟩
theorem row_noneSS (w : World) : Row w (.slice none 0 0) (strs []) := ⟨none, 0, rfl, Nat.le_refl _, by unfold maxLen; omega, fun i x h => by simp [strs] at h⟩
set_option maxRecDepth 100000 in
set_option maxHeartbeats 8000000 in
theorem w_NoiseNames (w : World) (hL : LayB w) :
    Calls Tryz.prog 6 #[] w fun e w' => e = .returned (.bool true) ∧ Below w.heap.size w w' := by
  have HLV := hid (w_lives21 w hL)
  have HL := hid hL
  have Pa := fun V v u hv hu hV => hid (na_Add V v u [5] h12 [⟨#[49]⟩] hv hu (by decide) (by decide) hV)
  rw [naO_ok nn_a.2 nn_a.1, nn_a.2] at Pa
  simp only [Option.isSome_some, Option.isSome_none, Option.getD_some, Option.getD_none] at Pa
  have Pf := fun V v u hv hu hV => hid (na_Add V v u [5] h12 [] hv hu (by decide) (by decide) hV)
  rw [naO_bad (by rw [nn_f]; decide), nn_f] at Pf
  simp only [Option.isSome_some, Option.isSome_none, Option.getD_some, Option.getD_none] at Pf
  have Pg := fun V v u hv hu hV => hid (na_Add V v u [5] ⟨#[49]⟩ [⟨#[49]⟩] hv hu (by decide) (by decide) hV)
  rw [naO_bad (by rw [nn_g]; decide), nn_g] at Pg
  simp only [Option.isSome_some, Option.isSome_none, Option.getD_some, Option.getD_none] at Pg
  have Ph := fun V v u hv hu hV => hid (na_Add V v u [5, 7] h12 [⟨#[49, 49]⟩, ⟨#[120]⟩] hv hu (by decide) (by decide) hV)
  rw [naO_bad (by rw [nn_h]; decide), nn_h] at Ph
  simp only [Option.isSome_some, Option.isSome_none, Option.getD_some, Option.getD_none] at Ph
  have Pi := fun V v u hv hu hV => hid (na_Add V v u (List.replicate 257 0) h12 [] hv hu (by decide) (by decide) hV)
  rw [naO_bad (by rw [nn_i]; decide), nn_i] at Pi
  simp only [Option.isSome_some, Option.isSome_none, Option.getD_some, Option.getD_none] at Pi
  have Pj := fun V v u hv hu hV => hid (na_Add V v u [1125899906842625] h12 [⟨#[49]⟩] hv hu (by decide) (by decide) hV)
  rw [naO_bad (by rw [nn_j]; decide), nn_j] at Pj
  simp only [Option.isSome_some, Option.isSome_none, Option.getD_some, Option.getD_none] at Pj
  have Pu := fun V v u hv hu hV => hid (na_Add V v u [] h12 [] hv hu (by decide) (by decide) hV)
  rw [naO_ok nn_u.2 nn_u.1, nn_u.2] at Pu
  simp only [Option.isSome_some, Option.isSome_none, Option.getD_some, Option.getD_none] at Pu
  have Pk := fun V v hv hV => hid (na_Law V v [] h12 3 hv (by decide) (by decide +kernel) hV)
  rw [nn_k.1, nn_k.2] at Pk
  have Pm := fun V v hv hV => hid (na_Law V v [1, 2, 3, 4] h12 4 hv (by decide) (by decide +kernel) hV)
  rw [nn_m.1, nn_m.2] at Pm
  have Pn := fun V hV => hid (na_Late V h12 2 1 (by decide) hV)
  rw [nn_n.1, nn_n.2] at Pn
  have Po := fun V hV => hid (na_Late V h12 2 2 (by decide) hV)
  rw [nn_o.1, nn_o.2] at Po
  have Pp := fun V hV => hid (na_Late V h12 2 257 (by decide) hV)
  rw [nn_p.1, nn_p.2] at Pp
  have Pq := fun V hV => hid (na_Factor V ⟨#[50, 47, 51]⟩ 2 (by decide) hV)
  rw [nn_q.1, nn_q.2] at Pq
  have Pr := fun V hV => hid (na_Factor V ⟨#[48]⟩ 1 (by decide) hV)
  rw [nn_r.1, nn_r.2] at Pr
  have Ps := fun V hV => hid (na_Factor V h12 (-1) (by decide) hV)
  rw [nn_s.1, nn_s.2] at Ps
  have Pt := fun V hV => hid (na_Factor V ⟨#[49, 47, 49, 48]⟩ 4000 (by decide) hV)
  rw [nn_t.1, nn_t.2] at Pt
  have PS := fun V u v hu hv => hid (k_SameM V u v [(⟨#[]⟩, ⟨#[49]⟩)] [(⟨#[]⟩, ⟨#[49]⟩)] hu hv)
  rw [decide_eq_true rfl] at PS
  unfold h12 at Pa Pf Ph Pi Pj Pu Pk Pm Pn Po Pp Ps
  try unfold x11 at Ph
  have hm257 : ∀ W : World, (Instr.makeSlice 24 (.int .i64 257) (.int .i64 257)).run Tryz.prog W = .ok (.slice (some ⟨W.heap.size, 0, none⟩) 257 257) (W.alloc (.cells (madeCells #[.int .i64 0] 257) 3)) := make_ints 257 (by omega)
  clear hL
  go_enter Tryz.func6, Tryz.ntmps6
  go_wp2_with fail
  refine HLV.out.mono ?_; rintro e w0 ⟨rfl, hb0⟩
  have y0 := hid hb0; clear hb0
  go_wp2_with fail
  have A1 := hid (((Below.refl w0.heap.size w0).alloc (by simp) (.cells #[.int .i64 5] 3)).alloc (by simp) (.cells #[.string ⟨#[49]⟩] 34))
  have R1 := hid ((rowZ_isS w0 [5] _ 1 _ rfl rfl rfl (by omega)).call ((Below.refl _ _).alloc (Nat.le_refl _) (.cells #[.string ⟨#[49]⟩] 34)))
  have S1 := hid (rowB_isS (w0.alloc (.cells #[.int .i64 5] 3)) [⟨#[49]⟩] _ 1 _ rfl (by simp) rfl (by omega) : Row ((w0.alloc (.cells #[.int .i64 5] 3)).alloc (.cells #[.string ⟨#[49]⟩] 34)) (.slice (some ⟨w0.heap.size + 1, 0, none⟩) 1 1) (strs [⟨#[49]⟩]))
  refine (Pa _ _ _ R1.out S1.out (HL.out.call (bnext y0.out A1.out))).out.mono ?_; rintro e w1 ⟨⟨ua, rfl, ha⟩, hb1⟩
  obtain ⟨aa, ca, rfl, -⟩ := ha.openZ; clear ha
  simp only [List.length_nil]
  have Z1 := hid (bnext A1.out hb1)
  have y1 := hid (bnext y0.out Z1.out); clear hb1
  go_wp2_with fail
  have A2 := hid ((Below.refl w1.heap.size w1).alloc (by simp) (.cells #[.int .i64 5] 3))
  have R2 := hid (rowZ_isS w1 [5] _ 1 _ rfl rfl rfl (by omega))
  refine (Pf _ _ _ R2.out (row_noneSS _) (HL.out.call (bnext y1.out A2.out))).out.mono ?_; rintro e w2 ⟨⟨uf, rfl, hf⟩, hb2⟩
  obtain ⟨af, cf, rfl, -⟩ := hf.openZ; clear hf
  simp only [List.length_nil]
  have Z2 := hid (bnext A2.out hb2)
  have y2 := hid (bnext y1.out Z2.out); clear hb2
  go_wp2_with fail
  have A3 := hid (((Below.refl w2.heap.size w2).alloc (by simp) (.cells #[.int .i64 5] 3)).alloc (by simp) (.cells #[.string ⟨#[49]⟩] 34))
  have R3 := hid ((rowZ_isS w2 [5] _ 1 _ rfl rfl rfl (by omega)).call ((Below.refl _ _).alloc (Nat.le_refl _) (.cells #[.string ⟨#[49]⟩] 34)))
  have S3 := hid (rowB_isS (w2.alloc (.cells #[.int .i64 5] 3)) [⟨#[49]⟩] _ 1 _ rfl (by simp) rfl (by omega) : Row ((w2.alloc (.cells #[.int .i64 5] 3)).alloc (.cells #[.string ⟨#[49]⟩] 34)) (.slice (some ⟨w2.heap.size + 1, 0, none⟩) 1 1) (strs [⟨#[49]⟩]))
  refine (Pg _ _ _ R3.out S3.out (HL.out.call (bnext y2.out A3.out))).out.mono ?_; rintro e w3 ⟨⟨ug, rfl, hg⟩, hb3⟩
  obtain ⟨ag, cg, rfl, -⟩ := hg.openZ; clear hg
  simp only [List.length_nil]
  have Z3 := hid (bnext A3.out hb3)
  have y3 := hid (bnext y2.out Z3.out); clear hb3
  go_wp2_with fail
  have A4 := hid (((Below.refl w3.heap.size w3).alloc (by simp) (.cells #[.int .i64 5, .int .i64 7] 3)).alloc (by simp) (.cells #[.string ⟨#[49, 49]⟩, .string ⟨#[120]⟩] 34))
  have R4 := hid ((rowZ_isS w3 [5, 7] _ 2 _ rfl rfl rfl (by omega)).call ((Below.refl _ _).alloc (Nat.le_refl _) (.cells #[.string ⟨#[49, 49]⟩, .string ⟨#[120]⟩] 34)))
  have S4 := hid (rowB_isS (w3.alloc (.cells #[.int .i64 5, .int .i64 7] 3)) [⟨#[49, 49]⟩, ⟨#[120]⟩] _ 2 _ rfl (by simp) rfl (by omega) : Row ((w3.alloc (.cells #[.int .i64 5, .int .i64 7] 3)).alloc (.cells #[.string ⟨#[49, 49]⟩, .string ⟨#[120]⟩] 34)) (.slice (some ⟨w3.heap.size + 1, 0, none⟩) 2 2) (strs [⟨#[49, 49]⟩, ⟨#[120]⟩]))
  refine (Ph _ _ _ R4.out S4.out (HL.out.call (bnext y3.out A4.out))).out.mono ?_; rintro e w4 ⟨⟨uh, rfl, hh⟩, hb4⟩
  obtain ⟨ah, ch, rfl, -⟩ := hh.openZ; clear hh
  simp only [List.length_nil]
  have Z4 := hid (bnext A4.out hb4)
  have y4 := hid (bnext y3.out Z4.out); clear hb4
  go_wp2_with fail
  have A5 := hid ((Below.refl w4.heap.size w4).alloc (by simp) (.cells (madeCells #[.int .i64 0] 257) 3))
  have R5 := hid (rowZ_madeS w4 257 _ rfl (by omega))
  refine (Pi _ _ _ R5.out (row_noneSS _) (HL.out.call (bnext y4.out A5.out))).out.mono ?_; rintro e w5 ⟨⟨ui, rfl, hi⟩, hb5⟩
  obtain ⟨ai, ci, rfl, -⟩ := hi.openZ; clear hi
  simp only [List.length_nil]
  have Z5 := hid (bnext A5.out hb5)
  have y5 := hid (bnext y4.out Z5.out); clear hb5
  go_wp2_with fail
  have A6 := hid (((Below.refl w5.heap.size w5).alloc (by simp) (.cells #[.int .i64 1125899906842625] 3)).alloc (by simp) (.cells #[.string ⟨#[49]⟩] 34))
  have R6 := hid ((rowZ_isS w5 [1125899906842625] _ 1 _ rfl rfl rfl (by omega)).call ((Below.refl _ _).alloc (Nat.le_refl _) (.cells #[.string ⟨#[49]⟩] 34)))
  have S6 := hid (rowB_isS (w5.alloc (.cells #[.int .i64 1125899906842625] 3)) [⟨#[49]⟩] _ 1 _ rfl (by simp) rfl (by omega) : Row ((w5.alloc (.cells #[.int .i64 1125899906842625] 3)).alloc (.cells #[.string ⟨#[49]⟩] 34)) (.slice (some ⟨w5.heap.size + 1, 0, none⟩) 1 1) (strs [⟨#[49]⟩]))
  refine (Pj _ _ _ R6.out S6.out (HL.out.call (bnext y5.out A6.out))).out.mono ?_; rintro e w6 ⟨⟨uj, rfl, hj⟩, hb6⟩
  obtain ⟨aj, cj, rfl, -⟩ := hj.openZ; clear hj
  simp only [List.length_nil]
  have Z6 := hid (bnext A6.out hb6)
  have y6 := hid (bnext y5.out Z6.out); clear hb6
  go_wp2_with fail
  have A7 := hid (Below.refl w6.heap.size w6)
  refine (Pk _ _ (row_noneZS _) (HL.out.call (bnext y6.out A7.out))).out.mono ?_; rintro e w7 ⟨⟨uk, rfl, hk⟩, hb7⟩
  have Mk := hid hk
  obtain ⟨ak, ck, rfl, -⟩ := hk.ex; clear hk
  have Z7 := hid (bnext A7.out hb7)
  have y7 := hid (bnext y6.out Z7.out); clear hb7
  go_wp2_with fail
  have A8 := hid ((Below.refl w7.heap.size w7).alloc (Nat.le_refl _) (.cells #[.int .i64 1, .int .i64 2, .int .i64 3, .int .i64 4] 3))
  have R8 := hid (rowZ_isS w7 [1, 2, 3, 4] _ 4 _ rfl rfl rfl (by omega))
  refine (Pm _ _ R8.out (HL.out.call (bnext y7.out A8.out))).out.mono ?_; rintro e w8 ⟨⟨um, rfl, hm⟩, hb8⟩
  obtain ⟨am, cm, rfl, -⟩ := hm.ex; clear hm
  simp only [List.length_nil]
  have Z8 := hid (bnext A8.out hb8)
  have y8 := hid (bnext y7.out Z8.out); clear hb8
  have K8 := hid (Mk.out.call Z8.out)
  go_wp2_with fail
  refine (Pn _ (HL.out.call y8.out).l).out.mono ?_; rintro e w9 ⟨rfl, hb9⟩
  have Z9 := hid hb9
  have y9 := hid (bnext y8.out Z9.out); clear hb9
  have K9 := hid (K8.out.call Z9.out)
  go_wp2_with fail
  refine (Po _ (HL.out.call y9.out).l).out.mono ?_; rintro e w10 ⟨rfl, hb10⟩
  have Z10 := hid hb10
  have y10 := hid (bnext y9.out Z10.out); clear hb10
  have K10 := hid (K9.out.call Z10.out)
  go_wp2_with fail
  refine (Pp _ (HL.out.call y10.out).l).out.mono ?_; rintro e w11 ⟨rfl, hb11⟩
  have Z11 := hid hb11
  have y11 := hid (bnext y10.out Z11.out); clear hb11
  have K11 := hid (K10.out.call Z11.out)
  go_wp2_with fail
  refine (Pq _ (HL.out.call y11.out).l).out.mono ?_; rintro e w12 ⟨rfl, hb12⟩
  have Z12 := hid hb12
  have y12 := hid (bnext y11.out Z12.out); clear hb12
  have K12 := hid (K11.out.call Z12.out)
  go_wp2_with fail
  refine (Pr _ (HL.out.call y12.out).l).out.mono ?_; rintro e w13 ⟨rfl, hb13⟩
  have Z13 := hid hb13
  have y13 := hid (bnext y12.out Z13.out); clear hb13
  have K13 := hid (K12.out.call Z13.out)
  go_wp2_with fail
  refine (Ps _ (HL.out.call y13.out).l).out.mono ?_; rintro e w14 ⟨rfl, hb14⟩
  have Z14 := hid hb14
  have y14 := hid (bnext y13.out Z14.out); clear hb14
  have K14 := hid (K13.out.call Z14.out)
  go_wp2_with fail
  refine (Pt _ (HL.out.call y14.out).l).out.mono ?_; rintro e w15 ⟨rfl, hb15⟩
  have Z15 := hid hb15
  have y15 := hid (bnext y14.out Z15.out); clear hb15
  have K15 := hid (K14.out.call Z15.out)
  go_wp2_with fail
  have A16 := hid (Below.refl w15.heap.size w15)
  refine (Pu _ _ _ (row_noneZS _) (row_noneSS _) (HL.out.call (bnext y15.out A16.out))).out.mono ?_; rintro e w16 ⟨⟨uu, rfl, hu⟩, hb16⟩
  obtain ⟨au, cu, rfl, -⟩ := hu.openZ; clear hu
  simp only [List.length_nil]
  have Z16 := hid (bnext A16.out hb16)
  have y16 := hid (bnext y15.out Z16.out); clear hb16
  have K16 := hid (K15.out.call Z16.out)
  go_wp2_with fail
  have A17 := hid ((Below.refl w16.heap.size w16).alloc (Nat.le_refl _) (.cells #[.string ⟨#[]⟩, .string ⟨#[49]⟩] 40))
  have R17 := hid (mrow_lit w16 [(⟨#[]⟩, ⟨#[49]⟩)] 1 rfl (by omega))
  refine (PS _ _ _ (K16.out.call A17.out) R17.out).out.mono ?_; rintro e w17 ⟨rfl, hb17⟩
  go_wp2_with fail
  go_ret
  exact ⟨rfl, bnext y16.out (bnext A17.out hb17)⟩
end Go.Proofs.YtgphopkifomffaaGreatDoor
