/- Texts that the proof rests on, merged: Nad, Sn0, Nn0, Lits, KsI, Nlv, Nz5, Nc0, Nkc, R2da, Iz, Ntx, R21s, Nct, Ncu. -/
import Derived.Test.YtgphopkifomffaaGreatDoorMn9
import Derived.RangeFuncBox
import Derived.Scope
import Derived.IntWalk
import Derived.Deep.DeepCutAuto
import Derived.Sort.Walk0
import Derived.WalkLawsBesides
namespace Go.Proofs.YtgphopkifomffaaGreatDoor
open Go.RowKit Go.Shelf
open Go.Lib (decDigits nDigits)
set_option linter.unusedVariables false
set_option linter.unusedSimpArgs false
attribute [local go_sem] Oper.semAt_some
theorem marks_retN {n : Nat} {P : Program} {fn : Func} {R : Ending → World → Prop} {tmps : Array Value} {W : World} {v : Value} (hv : (results fn tmps).run P W = .ok v W) (hR : R (.returned v) W) :
    bodyPostM Fence.wide n P fn R .ret { tmps := tmps, defers := [] } W := ⟨v, hv, hR⟩
theorem orZ_three (x y z : Int) : orZ [x, y, z] = if x ≠ 0 then x else if y ≠ 0 then y else z := by
  unfold orZ orZ orZ orZ
  by_cases h1 : x = 0
  · by_cases h2 : y = 0
    · by_cases h3 : z = 0 <;> simp [h1, h2, h3]
    · simp [h1, h2]
  · simp [h1]
structure AdS (w W0 : World) (bd bt : Nat) (ys : List Int) (fl : Bool) (W : World) : Prop where
  ltd : bd < W0.heap.size
  ltt : bt < W0.heap.size
  ged : w.heap.size ≤ bd
  get : w.heap.size ≤ bt
  ne : bd ≠ bt
  big : w.heap.size ≤ W0.heap.size
  size : W0.heap.size ≤ W.heap.size
  rest : ∀ k, k < W0.heap.size → k ≠ bd → k ≠ bt → W.heap[k]? = W0.heap[k]?
  d : ∃ v, Blk W bd #[v] 24 ∧ W.ownsRow W0.heap.size 3 1 v ys.length (zs ys)
  tt : Blk W bt #[.bool fl] 4
  bel : Below w.heap.size w W
theorem AdS.cell {w W0 : World} {bd bt : Nat} {ys : List Int} {fl : Bool} {W : World} (h : AdS w W0 bd bt ys fl W) {p : Addr} (h1 : p.block < W0.heap.size) (h2 : p.block ≠ bd) (h3 : p.block ≠ bt) : W.cell? p = W0.cell? p := World.cell?_of_block (w := W0) (h.rest p.block h1 h2 h3)
theorem AdS.call {w W0 : World} {bd bt : Nat} {ys : List Int} {fl : Bool} {W W' : World} (h : AdS w W0 bd bt ys fl W) (hb : Below W.heap.size W W') : AdS w W0 bd bt ys fl W' := by
  obtain ⟨v, h1, h2⟩ := h.d
  exact ⟨h.ltd, h.ltt, h.ged, h.get, h.ne, h.big, Nat.le_trans h.size hb.size, fun k hk a b => (hb.block k (Nat.lt_of_lt_of_le hk h.size)).trans (h.rest k hk a b), ⟨v, h1.call hb, owns_call h2 hb⟩, h.tt.call hb, bnext h.bel hb⟩
theorem AdS.sett {w W0 : World} {bd bt : Nat} {ys : List Int} {fl : Bool} {W : World} (h : AdS w W0 bd bt ys fl W) (q : Bool) : AdS w W0 bd bt ys q (W.setCell ⟨bt, 0, none⟩ (.bool q)) := by
  obtain ⟨v, h1, h2⟩ := h.d
  refine ⟨h.ltd, h.ltt, h.ged, h.get, h.ne, h.big, by rw [World.size_setCell]; exact h.size, fun k hk a b => (Below.heap_setCell _ _ _ _ b).trans (h.rest k hk a b), ⟨v, h1.other (a := ⟨bt, 0, none⟩) (fun e => h.ne e.symm) _, ownsRow_setCell_below h2 h.ltt _⟩, ?_, h.bel.setCell h.get _⟩
  have := h.tt.set 0 (.bool q)
  simpa using this
theorem AdS.app {w W0 : World} {bd bt : Nat} {ys : List Int} {fl : Bool} {W w3 : World} {v v' : Value} {o : Obj} {y : Int} (h : AdS w W0 bd bt ys fl W) (hv : Blk W bd #[v] 24) (ho : W.ownsRow W0.heap.size 3 1 v ys.length (zs ys)) (hown : w3.ownsRow W0.heap.size 3 1 v' (ys.length + 1) (zs ys ++ [.int .i64 y])) (hg : (W.alloc o).grownBy w3 v.ownBlock) :
    AdS w W0 bd bt (ys ++ [y]) fl (w3.setCell ⟨bd, 0, none⟩ v') := by
  have hrow : ∀ k, v.ownBlock = some k → W0.heap.size ≤ k := fun k e => (ho.lt k e).1
  have hs : W.heap.size ≤ w3.heap.size := by have := hg.size; simp at this; omega
  have n1 : v.ownBlock ≠ some bd := fun e => by have := hrow bd e; have := h.ltd; omega
  have n2 : v.ownBlock ≠ some bt := fun e => by have := hrow bt e; have := h.ltt; omega
  refine ⟨h.ltd, h.ltt, h.ged, h.get, h.ne, h.big, by rw [World.size_setCell]; exact Nat.le_trans h.size hs, fun k hk a b => ?_, ⟨v', ?_, ?_⟩, ?_, ?_⟩
  · have hkW : k < W.heap.size := Nat.lt_of_lt_of_le hk h.size
    refine (Below.heap_setCell _ _ _ _ a).trans (((hg.block k (by simp; omega) (fun e => ?_)).trans (Below.heap_alloc _ _ _ hkW)).trans (h.rest k hk a b))
    have := hrow k e.symm; omega
  · have := (((hv.alloc o).grown hg n1).set 0 v')
    simpa using this
  · have e1 : (ys ++ [y]).length = ys.length + 1 := by simp
    have e2 : zs (ys ++ [y]) = zs ys ++ [.int .i64 y] := by simp [zs]
    rw [e1, e2]
    exact ownsRow_setCell_below hown h.ltd _
  · exact ((h.tt.alloc o).grown hg n2).other (a := ⟨bd, 0, none⟩) h.ne _
  · exact ((h.bel.alloc h.bel.size o).grown hg (by have := h.bel.size; simp; omega) (fun k e => Nat.le_trans h.big (hrow k e))).setCell h.ged _
theorem AdS.keptX {w W0 : World} {bd bt : Nat} {ys : List Int} {fl : Bool} {X Y : World} {row : Option Nat} (h : AdS w W0 bd bt ys fl X) (hg : X.grownBy Y row) (hrow : ∀ r, row = some r → W0.heap.size ≤ r ∧ ∃ o : Obj, X.heap[r]? = some o ∧ o.isCells = false) : AdS w W0 bd bt ys fl Y := by
  obtain ⟨v, h1, h2⟩ := h.d
  refine ⟨h.ltd, h.ltt, h.ged, h.get, h.ne, h.big, Nat.le_trans h.size hg.size, fun k hk a b => ?_, ⟨v, h1.kept hg (fun r e => (hrow r e).2), ?_⟩, h.tt.kept hg (fun r e => (hrow r e).2), ?_⟩
  · refine (hg.block k (Nat.lt_of_lt_of_le hk h.size) (fun e => ?_)).trans (h.rest k hk a b)
    have := (hrow k e.symm).1; omega
  · refine h2.kept hg ?_
    rcases h2.2 with ⟨rfl, _⟩ | ⟨g, cap, cur, rfl, _, hgb, _⟩
    · exact .inl rfl
    · refine .inr fun e' => ?_
      obtain ⟨-, o, ho, hc⟩ := hrow g (by simpa [Value.ownBlock] using e'.symm)
      rw [hgb] at ho; cases ho; cases hc
  · exact h.bel.grown hg h.bel.size (fun k e => Nat.le_trans h.big (hrow k e).1)
theorem keepsF_app {B : Nat} {W w3 : World} {bd base n : Nat} {v u x : Value} {t : TypeId} {o : Obj} {xs : List Value} {e : TypeId} (hv : Blk W bd #[x] t) (ho : W.ownsRow base e 1 v n xs) (hg : (W.alloc o).grownBy w3 v.ownBlock) : KeepsFrom B W (w3.setCell ⟨bd, 0, none⟩ u) := by
  have hs : W.heap.size ≤ w3.heap.size := by have := hg.size; simp at this; omega
  refine ⟨by rw [World.size_setCell]; exact hs, fun k ob hk hob hc => ?_⟩
  have hkW : k < W.heap.size := (Array.getElem?_eq_some_iff.1 hob).1
  have h1 : k ≠ bd := fun e => by
    subst e
    rw [show W.heap[k]? = _ from hv] at hob; cases hob; cases hc
  refine (Below.heap_setCell _ _ _ _ h1).trans (((hg.block k (by simp; omega) (fun e' => ?_)).trans (Below.heap_alloc _ _ _ hkW)).trans hob)
  rcases ho.2 with ⟨rfl, _⟩ | ⟨g, cap, cur, rfl, _, hgb, _⟩
  · cases e'
  · have : k = g := by simpa [Value.ownBlock] using e'
    subst this
    rw [hgb] at hob; cases hob; cases hc
theorem AdS.kp {w W0 : World} {bd bt b1 b2 : Nat} {ys zs' : List Int} {f1 f2 : Bool} {W X : World} (h : AdS w W0 bd bt ys f1 W) (k : AdS w W0 bd bt zs' f2 X) (hs : W.heap.size ≤ X.heap.size) (h1 : b1 < W0.heap.size ∧ b1 ≠ bd ∧ b1 ≠ bt) (h2 : b2 < W0.heap.size ∧ b2 ≠ bd ∧ b2 ≠ bt) : KpS w.heap.size b1 b2 W X :=
  ⟨hs, fun _ _ _ => ⟨⟨k.bel.os.trans h.bel.os.symm, k.bel.tape.trans h.bel.tape.symm, k.bel.output.trans h.bel.output.symm, hs, fun j hj => (k.bel.block j hj).trans (h.bel.block j hj).symm⟩, (k.rest b1 h1.1 h1.2.1 h1.2.2).trans (h.rest b1 h1.1 h1.2.1 h1.2.2).symm, (k.rest b2 h2.1 h2.2.1 h2.2.2).trans (h.rest b2 h2.1 h2.2.1 h2.2.2).symm⟩⟩
set_option maxRecDepth 100000 in
set_option maxHeartbeats 8000000 in
theorem na_Add (w : World) (v u : Value) (c : List Int) (a : ByteArray) (bs : List ByteArray) (hv : Row w v (zs c)) (hu : Row w u (strs bs)) (ha : a.size ≤ 100000) (hb : ∀ x ∈ bs, x.size ≤ 100000000) (hL : LayB w) :
    Calls Tryz.prog 10 #[v, .string a, u] w fun e w' => (∃ y, e = .returned (.tuple #[y, .bool (naO c a bs).isSome, .int .i64 (naE c a bs)]) ∧ Row w' y (zs ((naO c a bs).getD []))) ∧ Below w.heap.size w w' := by
  have HCK := fun V hV => hid (na_check V v c hV)
  have HRA := fun V hV => hid (na_ratio V a ha hV)
  have HW := fun V h => hid (na_words V u bs ((c.length : Nat) : Int) h hb)
  have HFI := fun V x h => hid (na_first V x [zE c, gPE a, wdE bs ((c.length : Nat) : Int)] h)
  rw [orZ_three] at HFI
  have e1 : (if zE c ≠ 0 then zE c else if gPE a ≠ 0 then gPE a else wdE bs ((c.length : Nat) : Int)) = naE c a bs := rfl
  rw [e1] at HFI
  have HV := hid hv; have HU := hid hu; have HL := hid hL
  have PT := hid (fun V x (hx : chkE x = 0) hV => g_Two V a x ha (by have := chk_size hx; omega) hV)
  obtain ⟨s, cp, rfl, q1, q2, q3⟩ := hv.openZ
  obtain ⟨t, cq, rfl, p1, p2, p3⟩ := hu.openS
  have HNA : Hid (naE c a bs = 0 → NaOk c a bs) := fun h => naE_ok h
  obtain ⟨z, hz⟩ : ∃ z, naE c a bs = z := ⟨_, rfl⟩
  obtain ⟨z1, hz1⟩ : ∃ z, zE c = z := ⟨_, rfl⟩
  obtain ⟨z2, hz2⟩ : ∃ z, gPE a = z := ⟨_, rfl⟩
  obtain ⟨z3, hz3⟩ : ∃ z, wdE bs ((c.length : Nat) : Int) = z := ⟨_, rfl⟩
  obtain ⟨ro, hro⟩ : ∃ z, naO c a bs = z := ⟨_, rfl⟩
  have HRO : Hid (naE c a bs = 0 → ro = nzO true a c bs) := fun h => by rw [← hro]; exact naO_ok h rfl
  have HRB : Hid (naE c a bs ≠ 0 → ro = none) := fun h => by rw [← hro]; exact naO_bad h
  obtain ⟨n, hn⟩ : ∃ n, c.length = n := ⟨_, rfl⟩
  obtain ⟨n2, hn2⟩ : ∃ n, bs.length = n := ⟨_, rfl⟩
  have HN := hid hn; have HN2 := hid hn2
  rw [hz] at HNA HRO HRB
  rw [hz, hz1, hz2, hz3] at HFI
  simp only [hz1] at HCK
  simp only [hz2] at HRA
  simp only [hz3] at HW
  rw [hz, hro]
  rw [hn] at HV q1 ⊢
  simp only [hn] at HCK HW
  rw [hn2] at HU p1 ⊢
  simp only [hn2] at HW
  clear hv hu q3 p3 e1 ha hb hL hz hz1 hz2 hz3 hro hn hn2
  refine (callsIn_wide (n := 9)).1 ?_
  refine callsIn_of_wp_marks Tryz.func10 rfl trivial ?_ rfl
  simp only [Tryz.ntmps10, List.size_toArray, List.length_cons, List.length_nil, Nat.reduceAdd, Nat.reduceSub, Array.replicate_succ, Array.replicate_zero, List.push_toArray, List.append_toArray, List.nil_append, List.cons_append]
  gi_wp2_with fail
  obtain ⟨W2, hW2⟩ : ∃ W, (w.alloc (.cells #[.string a] 22)).alloc (.cells #[.slice none 0 0] 24) = W := ⟨_, rfl⟩
  have XA : Hid (Blk W2 w.heap.size #[.string a] 22) := by rw [← hW2]; exact (Blk.new w _ _).alloc _
  have XD : Hid (Blk W2 (w.heap.size + 1) #[.slice none 0 0] 24) := by rw [← hW2]; exact Blk.made _ _ _ (by simp)
  have B2 : Hid (Below w.heap.size w W2) := by rw [← hW2]; exact ((Below.refl _ _).alloc (Nat.le_refl _) _).alloc (by simp) _
  have Z2 : Hid (W2.heap.size = w.heap.size + 1 + 1) := by rw [← hW2]; exact hid (by simp)
  rw [hW2]
  clear hW2
  have KK : Hid (∀ V, Below W2.heap.size W2 V → V.cell? ⟨w.heap.size, 0, none⟩ = some (.string a)) := fun V hV => (XA.out.call hV).cell 0
  refine wpIn_scope ?_
  gi_wp2_with fail
  refine wpIn_wide.2 ?_
  refine held_plain [0, 2, 4, 5, 6] 6 (fun V => V.cell? ⟨w.heap.size, 0, none⟩ = some (.string a)) (by kernel_rfl) (by kernel_rfl) (by kernel_rfl) (by kernel_rfl) (KK.out _ (Below.refl _ _).drew) ?_
  iterate 5
    refine ⟨_, rfl, ?_⟩
    apply Exists.intro
    refine ⟨.inl ⟨by rfl, ?_⟩, ?_⟩
    · (intro W' hW'; obtain q9 := hW'; go_simp; try (with_reducible rfl))
    (dsimp only [Act.put]; try simp only [List.setIfInBounds_toArray, List.set_cons_zero, List.set_cons_succ])
  refine held_one (i := 1) (by kernel_rfl) (by rfl) (by rfl) ?_
  go_wp2_with fail
  refine (HCK _ (HV.out.call (bnext B2.out (Below.refl _ _).drew))).out.mono ?_; rintro e w3 ⟨rfl, rfl⟩
  go_wp2_with fail
  refine ⟨KK.out _ (Below.refl _ _).drew, ?_⟩
  refine held_one (i := 3) (by kernel_rfl) (by rfl) (by rfl) ?_
  go_wp2_with fail
  refine (HRA _ (HL.out.call (bnext B2.out (Below.refl _ _).drew)).l).out.mono ?_; rintro e w4 ⟨rfl, hb4⟩
  have y4 := hid (show Below W2.heap.size W2 w4 from (Below.refl _ _).drew.trans hb4)
  clear hb4
  go_wp2_with fail
  refine ⟨KK.out _ y4.out, ?_⟩
  refine held_one (i := 7) (by kernel_rfl) (by rfl) (by rfl) ?_
  go_wp2_with fail
  refine (HW _ (HU.out.call (bnext B2.out y4.out))).out.mono ?_; rintro e w5 ⟨rfl, hb5⟩
  have y5 := hid (bnext y4.out hb5)
  clear hb5
  go_wp2_with fail
  refine ⟨KK.out _ y5.out, ?_⟩
  refine held_one (i := 8) (by kernel_rfl) (by rfl) (by rfl) ?_
  go_wp2_with fail
  have y6 := hid (y5.out.alloc y5.out.size (.cells #[.int .i64 z1, .int .i64 z2, .int .i64 z3] 27))
  refine ⟨KK.out _ y6.out, ?_⟩
  refine held_one (i := 9) (by kernel_rfl) (by rfl) (by rfl) ?_
  go_wp2_with fail
  refine (HFI _ _ (row_three _ _ _ _ _)).out.mono ?_; rintro e w7 ⟨rfl, rfl⟩
  obtain ⟨W7, hW7⟩ : ∃ W, w5.alloc (.cells #[.int .i64 z1, .int .i64 z2, .int .i64 z3] 27) = W := ⟨_, rfl⟩
  rw [hW7] at y6 ⊢
  clear hW7
  go_wp2_with fail
  refine ⟨KK.out _ y6.out, ?_⟩
  refine held_more (is := [10]) (g := 0) (by kernel_rfl) rfl (KK.out _ y6.out) (by kernel_rfl) ?_
  iterate 1
    refine ⟨_, rfl, ?_⟩
    apply Exists.intro
    refine ⟨.inl ⟨by rfl, ?_⟩, ?_⟩
    · (intro W' hW'; obtain q9 := hW'; go_simp; try (with_reducible rfl))
    (dsimp only [Act.put]; try simp only [List.setIfInBounds_toArray, List.set_cons_zero, List.set_cons_succ])
  refine wpAnyH_done (by kernel_rfl) ?_ _
  simp only [Only]
  have B7 := hid (bnext B2.out y6.out)
  have XA7 := hid (XA.out.call y6.out); have XD7 := hid (XD.out.call y6.out)
  clear XA XD KK HFI HCK HRA HW
  by_cases h0 : z = 0
  case neg =>
    have t0 : (z != 0) = true := by simpa using h0
    have t0' : (z == 0) = false := by simpa using h0
    have HR := HRB.out h0
    subst HR
    have d0 := XD7.out.cell 0
    have d1 := XD7.out.free 0
    simp at d0
    clear h0
    gi_wp2_with fail
    have d2 := (XD7.out.set 0 (.slice none 0 0)).cell 0
    simp at d2
    refine marks_retN (v := .tuple #[.slice none 0 0, .bool false, .int .i64 z]) (by simp [results, Tryz.results10, go_sem, d2]) ⟨⟨_, rfl, ?_⟩, ?_⟩
    · exact ⟨none, 0, rfl, Nat.le_refl _, by unfold maxLen; omega, fun i x h => by simp [zs] at h⟩
    · exact B7.out.setCell (by simp) _
  subst h0
  have OK := HNA.out rfl
  have HRO2 := hid (HRO.out rfl)
  have hle := OK.le
  rw [HN.out] at hle
  have HOK := hid OK
  clear OK HNA HRO HRB
  gi_wp2_with fail
  refine wpIn_label ?_
  gi_wp2_with (refine ⟨trivial, ?_⟩; gi_at_call 38; refine (callsIn_wide.2 (na_pairs _ _ _ _ _ _ _)).mono ?_; rintro e w' ⟨rfl, rfl⟩)
  obtain ⟨i0, hi, hz0, hz1, hz2⟩ := info_parts info_intO
  obtain ⟨W0, hW0⟩ : ∃ W0, ((W7.alloc (.cells #[.bool false] 4)).alloc (.cells #[.slice s n cp] 24)).alloc (.cells #[.slice t n2 cq] 30) = W0 := ⟨_, rfl⟩
  have y0 : Blk W0 w.heap.size #[.string a] 22 := by rw [← hW0]; exact ((XA7.out.alloc _).alloc _).alloc _
  have y1 : Blk W0 (w.heap.size + 1) #[.slice none 0 0] 24 := by rw [← hW0]; exact ((XD7.out.alloc _).alloc _).alloc _
  have y2 : Blk W0 W7.heap.size #[.bool false] 4 := by rw [← hW0]; exact ((Blk.new W7 _ _).alloc _).alloc _
  have y3 : Blk W0 (W7.heap.size + 1) #[.slice s n cp] 24 := by rw [← hW0]; exact (Blk.made _ _ _ (by simp)).alloc _
  have y4 : Blk W0 (W7.heap.size + 1 + 1) #[.slice t n2 cq] 30 := by rw [← hW0]; exact Blk.made _ _ _ (by simp)
  have z7 := B7.out.size
  have b0 : Below w.heap.size w W0 := by rw [← hW0]; exact ((B7.out.alloc z7 _).alloc (by simp <;> omega) _).alloc (by simp <;> omega) _
  have z0 : W0.heap.size = W7.heap.size + 1 + 1 + 1 := by rw [← hW0]; simp
  have zT : w.heap.size + 1 + 1 ≤ W7.heap.size := by have := y6.out.size; have := Z2.out; omega
  rw [hW0]
  obtain ⟨T, hT⟩ : ∃ T, W7.heap.size = T := ⟨_, rfl⟩
  rw [hT] at y2 y3 y4 z0 zT ⊢
  have Y0 := hid y0; have Y1 := hid y1; have Y2 := hid y2; have Y3 := hid y3; have Y4 := hid y4; have HB0 := hid b0; have Z0 := hid z0; have ZT := hid zT
  have S0 : Hid (AdS w W0 (w.heap.size + 1) T [] false W0) := ⟨by omega, by omega, by omega, by omega, by omega, by omega, Nat.le_refl _, fun _ _ _ _ => rfl, ⟨_, y1, World.ownsRow_nil _ _ _ _⟩, y2, b0⟩
  clear y0 y1 y2 y3 y4 b0 hW0 hT z7 XA7 XD7 B7 B2 Z2 y5 y6
  have hread : ∀ W1 W2, Below W0.heap.size W0 W1 → KpS w.heap.size (T + 1) (T + 1 + 1) W1 W2 → W2.cell? ⟨T + 1, 0, none⟩ = some (.slice s n cp) ∧ W2.cell? ⟨T + 1 + 1, 0, none⟩ = some (.slice t n2 cq) ∧ Row W2 (.slice s n cp) (zs c) ∧ Row W2 (.slice t n2 cq) (strs bs) := fun W1 W2 b1 b2 => by
    have hs := b1.size
    have hz := Z0.out; have hzt := ZT.out
    obtain ⟨r1, r2, r3⟩ := b2.rest (by omega) (by omega) (by omega)
    have g1 : Blk W2 (T + 1) #[.slice s n cp] 24 := r2.trans (Y3.out.call b1)
    have g2 : Blk W2 (T + 1 + 1) #[.slice t n2 cq] 30 := r3.trans (Y4.out.call b1)
    have hb : Below w.heap.size w W2 := (HB0.out.trans (b1.mono (by omega))).trans r1
    exact ⟨g1.cell 0, g2.cell 0, HV.out.call hb, HU.out.call hb⟩
  refine range_ok (by omega) (gf := 71) (lb := #[.pointer (some ⟨T + 1, 0, none⟩), .pointer (some ⟨T + 1 + 1, 0, none⟩)]) rfl (enters_of Tryz.func71 (by kernel_rfl) rfl)
    (pairs_feeds (Kp := KpS w.heap.size (T + 1) (T + 1 + 1)) 8 (by omega) W0 (T + 1) (T + 1 + 1) (.slice s n cp) (.slice t n2 cq) c bs HOK.out.len.symm HOK.out.le (KpS.refl _ _ _) KpS.trans hread (fun _ _ => KpS.of_below)) KpS.trans (KpS.put (by omega) (by omega) (by omega)) (Below.refl _ _) (fun _ => rfl)
    (fun p W => ∃ ys, NdT a c bs p.length ys ∧ AdS w W0 (w.heap.size + 1) T ys false W)
    (fun cc p W => cc = .exit 0 ∧ nzO true a c bs = none ∧ ∃ ys, AdS w W0 (w.heap.size + 1) T ys true W)
    (fun s X Y row hs hg hr => by obtain ⟨ys, h1, h2⟩ := hs; exact ⟨ys, h1, h2.keptX hg hr⟩)
    (fun c s X Y row hs hg hr => by obtain ⟨h0, h1, ys, h2⟩ := hs; exact ⟨h0, h1, ys, h2.keptX hg hr⟩)
    ⟨[], NdT.zero _ _ _, S0.out⟩ ?act ?assign ?body ?done ?stop
  case assign =>
    intro l x W K hK
    gi_wp2
    exact hK
  case body =>
    rintro l p ⟨x, b⟩ W ⟨hx, hb⟩ ⟨ys, hN, hS⟩
    dsimp only at hx hb
    have hch := HOK.out.b b (List.mem_of_getElem? hb)
    have hsz := chk_size hch
    have hxr := HOK.out.rng x (List.mem_of_getElem? hx)
    have PTb := fun V hV => hid (PT.out V b hch hV)
    have hvb := wT_bound a b hsz
    have hz1' : nz1 true a x b = if (wT a b).1 = true then some (x + (wT a b).2.1) else none := by unfold nz1; simp only [if_true]
    obtain ⟨k, hk⟩ : ∃ k, p.length = k := ⟨_, rfl⟩
    rw [hk] at hx hb hN
    have hk256 : k < 256 := by have := (List.getElem?_eq_some_iff.1 hx).1; have := HOK.out.le; omega
    obtain ⟨TT, hTT⟩ : ∃ T, wT a b = T := ⟨_, rfl⟩
    obtain ⟨ge, hge⟩ : ∃ y, gE a b = y := ⟨_, rfl⟩
    rw [hTT] at hvb hz1'
    simp only [hTT, hge] at PTb
    obtain ⟨d, v1, u1⟩ := TT
    simp only [d3] at PTb
    dsimp only at hvb hz1'
    have c0 := (hS.cell (p := ⟨w.heap.size, 0, none⟩) Y0.out.lt (by simp) (by simp; omega)).trans (Y0.out.cell 0)
    simp at c0
    have wxv : IntKind.i64.wrap (x + v1) = x + v1 := by rw [IntWalk.i64_in _ ⟨by omega, by omega⟩]
    have HX := hid hx; have HB := hid hb; have HN1 := hid hN; have HS := hid hS; have HZ1 := hid hz1'; have HK := hid hk; have HK2 := hid hk256
    clear hx hb hN hS hch hsz hxr hvb hz1' hk hTT hge hk256 zT z0
    cases d
    · have hnone : nzO true a c bs = none := nzO_late k x b HX.out HB.out (by rw [HZ1.out, if_neg (by simp)])
      have HNO := hid hnone
      clear hnone
      gi_wp2_with fail
      refine ⟨trivial, ?_⟩
      refine (CallsIn.inRound _ (callsIn_wide.2 (PTb _ (HL.out.call HS.out.bel).l).out)).mono ?_; rintro e w1 ⟨rfl, hb1⟩
      have y1 := hid hb1
      have A1 := hid (hb1.alloc hb1.size (.cells #[.bool false, .int .i64 v1, .int .i64 u1] 53))
      have S2 := hid (HS.out.call A1.out)
      have r0 := S2.out.tt.cell 0
      have r1 := S2.out.tt.free 0
      simp at r0
      clear hb1 c0
      gi_wp2_with fail
      exact ⟨(keepsF_below A1.out).trans ((KeepsOthers.setCell _ _ _).from _), rfl, HNO.out, ys, S2.out.sett true⟩
    · gi_wp2_with fail
      refine ⟨trivial, ?_⟩
      refine (CallsIn.inRound _ (callsIn_wide.2 (PTb _ (HL.out.call HS.out.bel).l).out)).mono ?_; rintro e w1 ⟨rfl, hb1⟩
      have A1 := hid (hb1.alloc hb1.size (.cells #[.bool true, .int .i64 v1, .int .i64 u1] 53))
      have S2 := hid (HS.out.call A1.out)
      obtain ⟨v0, h1, h2⟩ := S2.out.d
      have H1 := hid h1; have H2 := hid h2
      have r0 := h1.cell 0
      have r1 := h1.free 0
      simp at r0
      have hyl : ys.length ≤ 256 := by have := HN1.out.len; have := HK2.out; omega
      have CN : ((w1.alloc (.cells #[.bool true, .int .i64 v1, .int .i64 u1] 53)).alloc (.cells #[.int .i64 (x + v1)] 3)).cell? ⟨w1.heap.size + 1, 0, none⟩ = some (.int .i64 (x + v1)) := (Blk.made (w1.alloc (.cells #[.bool true, .int .i64 v1, .int .i64 u1] 53)) #[.int .i64 (x + v1)] 3 (n := w1.heap.size + 1) (by simp)).cell 0
      have HCN := hid CN
      clear hb1 c0 h1 h2 CN
      gi_wp2_with (gi_at_builtin; refine wpListIn_append_own _ rfl _ _ 24 rfl W0.heap.size 3 i0 (.int .i64 0) 1 8 Tryz.underlying24 hi hz0 hz1 hz2 rfl (by decide) _ ys.length _ rfl (H2.out.alloc _) ⟨w1.heap.size + 1, 0, none⟩ 1 1 [.int .i64 (x + v1)] rfl rfl (fun j u hj => by
                     cases j with
                     | zero => cases hj; exact HCN.out
                     | succ j => simp at hj) (by simp [Value.oneCell']) (by unfold maxLen; omega) (by omega) (by have := S2.out.size; simp at this ⊢; omega) ?_; intro v' w3 hown hgrow _
                   obtain ⟨g2, cap2, rfl⟩ := ownsRow_succ hown
                   have S3 := hid (S2.out.app H1.out H2.out hown hgrow)
                   have n1 : v0.ownBlock ≠ some (w.heap.size + 1) := fun e => by have := (H2.out.lt _ e).1; have := S2.out.ltd; omega
                   have k0 := ((H1.out.alloc (.cells #[.int .i64 (x + v1)] 3)).grown hgrow n1).cell 0
                   have k1 := ((H1.out.alloc (.cells #[.int .i64 (x + v1)] 3)).grown hgrow n1).free 0
                   simp at k0
                   have KF := hid ((keepsF_below (B := W0.heap.size) A1.out).trans (keepsF_app (u := .slice (some ⟨g2, 0, none⟩) (ys.length + 1) cap2) H1.out H2.out hgrow))
                   clear hown hgrow n1 r0 r1)
      refine ⟨KF.out, HS.out.kp S3.out KF.out.size ⟨by have := Z0.out; omega, by have := ZT.out; omega, by omega⟩ ⟨by have := Z0.out; omega, by have := ZT.out; omega, by omega⟩, ys ++ [x + v1], ?_, S3.out⟩
      rw [List.length_append, List.length_singleton, HK.out]
      exact HN1.out.next HX.out HB.out (by rw [HZ1.out]; simp)
  case done =>
    rintro D' xs W hD hS ⟨ys, hN, hA⟩ hK
    rw [hS] at hN
    have hro := HRO2.out.trans (hN.all HOK.out.len)
    subst hro
    obtain ⟨v0, h1, h2⟩ := hA.d
    have r0 := h1.cell 0
    have r1 := h1.free 0
    have r2 := hA.tt.cell 0
    simp at r0 r2
    have HA := hid hA; have H1 := hid h1; have H2 := hid h2; have HK := hid hK; have HDD := hid hD
    obtain ⟨a0, cc0, rfl⟩ := owns_ex h2
    clear hS hN hA h1 h2 hK hD
    gi_wp2_with fail
    have q1 := H1.out.set 0 (.slice a0 ys.length cc0)
    have q2 := ownsRow_setCell_below (a := ⟨w.heap.size + 1, 0, none⟩) H2.out HA.out.ltd (.slice a0 ys.length cc0)
    have hk3 := (KeepsOthers.setCell W ⟨w.heap.size + 1, 0, none⟩ (.slice a0 ys.length cc0)).same D' _ HK.out rfl
    have p1 := (q1.put hk3 (.deferred none)).cell 0
    simp at p1
    have hrow := Row.put (Row.of_owns q2) hk3 (.deferred none)
    have h9 := HDD.out; have h8 := HA.out.big
    refine marks_end hk3 (v := .tuple #[.slice a0 ys.length cc0, .bool true, .int .i64 0]) (by simp [results, Tryz.results10, go_sem, p1]) ⟨⟨_, rfl, hrow⟩, ?_⟩
    exact (HA.out.bel.setCell (by simp) _).trans (belowK_b (w := w) (Nat.le_refl _) _ D' _ _ (by omega) hk3 rfl rfl)
  case stop =>
    rintro D' cc p W hD - ⟨rfl, hnone, ys, hA⟩ hK
    have hro := HRO2.out.trans hnone
    subst hro
    obtain ⟨v0, h1, h2⟩ := hA.d
    have r0 := h1.cell 0
    have r1 := h1.free 0
    have r2 := hA.tt.cell 0
    simp at r0 r2
    have HA := hid hA; have H1 := hid h1; have HK := hid hK; have HDD := hid hD
    clear hA h1 h2 hK hD hnone
    gi_wp2_with fail
    have q1 := H1.out.set 0 (.slice none 0 0)
    have hk3 := (KeepsOthers.setCell W ⟨w.heap.size + 1, 0, none⟩ (.slice none 0 0)).same D' _ HK.out rfl
    have p1 := (q1.put hk3 (.deferred none)).cell 0
    simp at p1
    have h9 := HDD.out; have h8 := HA.out.big
    refine marks_end hk3 (v := .tuple #[.slice none 0 0, .bool false, .int .i64 0]) (by simp [results, Tryz.results10, go_sem, p1]) ⟨⟨_, rfl, ?_⟩, ?_⟩
    · exact ⟨none, 0, rfl, Nat.le_refl _, by unfold maxLen; omega, fun i x h => by simp [zs] at h⟩
    · exact (HA.out.bel.setCell (by simp) _).trans (belowK_b (w := w) (Nat.le_refl _) _ D' _ _ (by omega) hk3 rfl rfl)
end Go.Proofs.YtgphopkifomffaaGreatDoor
namespace Go.Proofs.YtgphopkifomffaaGreatDoor
open Go.RowKit
open Go.Lib (decDigits nDigits)
set_option linter.unusedVariables false
def h12 : ByteArray := ⟨#[49, 47, 50]⟩
def x11 : ByteArray := ⟨#[49, 49]⟩
end Go.Proofs.YtgphopkifomffaaGreatDoor
namespace Go.Proofs.YtgphopkifomffaaGreatDoor
open Go.RowKit
open Go.Lib (decDigits nDigits)
set_option linter.unusedVariables false
set_option linter.unusedSimpArgs false
theorem nn_l : nzO true h12 [5, 7] [x11, ⟨#[48, 48, 49, 49]⟩] = some [5, 9] ∧ naE [5, 7] h12 [x11, ⟨#[48, 48, 49, 49]⟩] = 0 := by decide +kernel
def nnD : List (ByteArray × ByteArray) := [(⟨#[52]⟩, ⟨#[49, 47, 56]⟩), (⟨#[53]⟩, ⟨#[49, 47, 52]⟩), (⟨#[54]⟩, ⟨#[49, 47, 56]⟩), (⟨#[108, 97, 116, 101]⟩, ⟨#[49, 47, 50]⟩)]
theorem nn_d : nlE [5] h12 3 = 0 ∧ nlR [5] h12 3 = nnD := by
  have h : nlE [5] h12 3 = 0 := by decide +kernel
  refine ⟨h, ?_⟩
  rw [nlR_ok h]
  have e : nyP (nlG h12 3) (chA (nlG h12 3) (3 : Int).toNat) (3 : Int).toNat [5] = nnD := by decide +kernel
  rw [e]
  exact List.mergeSort_of_pairwise (by decide +kernel)
end Go.Proofs.YtgphopkifomffaaGreatDoor
namespace Go.Proofs.YtgphopkifomffaaGreatDoor
open Go.RowKit Go.Shelf
set_option linter.unusedVariables false
set_option linter.unusedSimpArgs false
theorem mrow_lit (w : World) (L : List (ByteArray × ByteArray)) (n : Nat) (hn : L.length = n) (hL : n ≤ 1000) : MRow (w.alloc (.cells (massC L).toArray 40)) (.slice (some ⟨w.heap.size, 0, none⟩) n n) L := by
  subst hn
  refine ⟨some ⟨w.heap.size, 0, none⟩, L.length, rfl, Nat.le_refl _, by omega, fun i x h => ⟨w.heap.size, 0, rfl, by simp, ?_, ?_⟩⟩
  · rw [Nat.zero_add, (Blk.new w _ _).cell, List.getElem?_toArray]; exact (massC_get h).1
  · rw [Nat.zero_add, (Blk.new w _ _).cell, List.getElem?_toArray]; exact (massC_get h).2
theorem rowZ_lit (w : World) (L : List Int) (n : Nat) (hn : L.length = n) (hL : n ≤ 1000) : Row (w.alloc (.cells (zs L).toArray 3)) (.slice (some ⟨w.heap.size, 0, none⟩) n n) (zs L) :=
  Row.of_blk (Blk.new w _ _) (by rw [zs_length]; exact hn) (by unfold maxLen; omega) (fun i x h => by rw [List.getElem?_toArray]; exact h) (Nat.le_refl _) (by unfold maxLen; omega)
end Go.Proofs.YtgphopkifomffaaGreatDoor
namespace Go.Proofs.YtgphopkifomffaaGreatDoor
open Go.RowKit Go.Shelf
open Go.Lib (decDigits nDigits)
set_option linter.unusedVariables false
set_option linter.unusedSimpArgs false
set_option maxRecDepth 100000 in
set_option maxHeartbeats 2000000 in
theorem k_SameI (w : World) (v u : Value) (L M : List Int) (hv : Row w v (zs L)) (hu : Row w u (zs M)) :
    Calls Tryz.prog 23 #[v, u] w fun e w' => e = .returned (.bool (decide (L = M))) ∧ Below w.heap.size w w' := by
  obtain ⟨a, c, rfl, h1, h2, h3⟩ := hv.openZ
  obtain ⟨a', c', rfl, h1', h2', h3'⟩ := hu.openZ
  obtain ⟨n, hn⟩ : ∃ n, L.length = n := ⟨_, rfl⟩
  obtain ⟨m, hm⟩ : ∃ n, M.length = n := ⟨_, rfl⟩
  rw [hn] at h1 ⊢
  rw [hm] at h1' ⊢
  have H3 := hid h3; have H3' := hid h3'; have HN := hid hn; have HM := hid hm
  clear hv hu h3 h3'
  by_cases hnm : n = m
  · subst hnm
    have q0 : ((n : Int) != (n : Int)) = false := by simp
    clear hn hm
    go_enter Tryz.func23, Tryz.ntmps23
    go_wp2_with fail
    go_loopw [5] (fun ii wr => ∃ i : Nat, ii = .int .i64 (i : Nat) ∧ i ≤ n ∧ Hid (∀ j, j < i → L[j]? = M[j]?) ∧ Hid (Below w.heap.size w wr)) (fun ii wr => n - (intOf ii).toNat)
    case atStart => exact ⟨0, rfl, Nat.zero_le _, fun j hj => absurd hj (by omega), Below.refl _ _⟩
    case round =>
      obtain ⟨i, rfl, hi, hI, hB⟩ := hrel
      by_cases hlt : i < n
      · obtain ⟨x, hx⟩ : ∃ x, L[i]? = some x := ⟨_, List.getElem?_eq_getElem (by rw [HN.out]; exact hlt)⟩
        obtain ⟨y, hy⟩ : ∃ x, M[i]? = some x := ⟨_, List.getElem?_eq_getElem (by rw [HM.out]; exact hlt)⟩
        obtain ⟨g, o, rfl, hg, k1⟩ := H3.out i x hx
        obtain ⟨g', o', rfl, hg', k1'⟩ := H3'.out i y hy
        have HX := hid hx; have HY := hid hy
        have m1 := (hB.out.cell (p := ⟨g, o + i, none⟩) hg).trans k1
        have m3 := (hB.out.cell (p := ⟨g', o' + i, none⟩) hg').trans k1'
        have b1 : (0 : Int) ≤ (i : Int) := by omega
        have b2 : (i : Int) < (n : Int) := by omega
        have wi : IntKind.i64.wrap ((i : Int) + 1) = (i : Int) + 1 := by rw [IntWalk.i64_in _ ⟨by omega, by omega⟩]
        clear k1 k1' hx hy hg hg'
        by_cases he1 : x = y
        · subst he1
          have n1 : (x != x) = false := by simp
          go_wp2_with fail
          refine held_plain [0, 1, 2, 3, 4, 5, 6, 7, 8] 0 (fun w' => w'.cell? ⟨g, o + i, none⟩ = some (.int .i64 x) ∧ w'.cell? ⟨g', o' + i, none⟩ = some (.int .i64 x)) (by kernel_rfl) (by kernel_rfl) (by kernel_rfl) (by kernel_rfl) ⟨m1, m3⟩ ?_
          iterate 9
            refine ⟨_, rfl, ?_⟩
            apply Exists.intro
            refine ⟨.inl ⟨by rfl, ?_⟩, ?_⟩
            · (intro W' hW'; obtain ⟨q1, q2⟩ := hW'; go_simp; try (with_reducible rfl))
            (dsimp only [Act.put]; try simp only [List.setIfInBounds_toArray, List.set_cons_zero, List.set_cons_succ])
          refine wpAnyH_done (by kernel_rfl) ?_ _
          simp only [Only]
          go_wp2_with fail
          go_roundw
          case rel => exact ⟨i + 1, rfl, by omega, fun j hj => by
            rcases Nat.lt_or_ge j i with h | h
            · exact hI.out j h
            · obtain rfl : j = i := by omega
              rw [HX.out, HY.out], hB.out.drew⟩
          case measure => simp [intOf] <;> omega
        · have n1 : (x != y) = true := by simpa using he1
          have hne : decide (L = M) = false := by
            rw [decide_eq_false_iff_not]; rintro rfl
            have := HX.out.symm.trans HY.out
            simp only [Option.some.injEq] at this
            exact he1 this
          have HNE := hid hne
          clear hne he1
          go_wp2_with fail
          refine held_plain [0, 1, 2, 3, 4, 5, 6, 7, 8] 0 (fun w' => w'.cell? ⟨g, o + i, none⟩ = some (.int .i64 x) ∧ w'.cell? ⟨g', o' + i, none⟩ = some (.int .i64 y)) (by kernel_rfl) (by kernel_rfl) (by kernel_rfl) (by kernel_rfl) ⟨m1, m3⟩ ?_
          iterate 9
            refine ⟨_, rfl, ?_⟩
            apply Exists.intro
            refine ⟨.inl ⟨by rfl, ?_⟩, ?_⟩
            · (intro W' hW'; obtain ⟨q1, q2⟩ := hW'; go_simp; try (with_reducible rfl))
            (dsimp only [Act.put]; try simp only [List.setIfInBounds_toArray, List.set_cons_zero, List.set_cons_succ])
          refine wpAnyH_done (by kernel_rfl) ?_ _
          simp only [Only]
          go_wp2_with fail
          go_ret
          exact ⟨by rw [HNE.out]; rfl, hB.out.drew⟩
      · obtain rfl : i = n := by omega
        have hE : L = M := by
          apply List.ext_getElem?
          intro j
          by_cases hj : j < i
          · exact hI.out j hj
          · rw [List.getElem?_eq_none (by rw [HN.out]; omega), List.getElem?_eq_none (by rw [HM.out]; omega)]
        have HE := hid hE
        have q1 : decide ((i : Int) < (i : Int)) = false := by simp
        clear hE
        go_wp2_with fail
        go_ret
        exact ⟨by rw [decide_eq_true HE.out]; rfl, hB.out⟩
  · have hE : decide (L = M) = false := by rw [decide_eq_false_iff_not]; rintro rfl; exact hnm (hn.symm.trans hm)
    have HE := hid hE
    have q0 : ((n : Int) != (m : Int)) = true := by simp; omega
    clear hn hm hE
    go_enter Tryz.func23, Tryz.ntmps23
    go_wp2_with fail
    go_ret
    exact ⟨by rw [HE.out]; rfl, Below.refl _ _⟩
end Go.Proofs.YtgphopkifomffaaGreatDoor
namespace Go.Proofs.YtgphopkifomffaaGreatDoor
open Go.RowKit Go.Shelf
open Go.Lib (decDigits nDigits)
set_option linter.unusedVariables false
set_option linter.unusedSimpArgs false
theorem rowZ_isS (w : World) (L : List Int) (cs : Array Value) (n b : Nat) (hc : cs = (zs L).toArray) (hb : w.heap.size = b) (hn : L.length = n) (hL : n ≤ 1000) : Row (w.alloc (.cells cs 3)) (.slice (some ⟨b, 0, none⟩) n n) (zs L) := by
  subst hc hb
  exact rowZ_lit w L n hn hL
theorem rowB_isS (w : World) (L : List ByteArray) (cs : Array Value) (n b : Nat) (hc : cs = (strs L).toArray) (hb : w.heap.size = b) (hn : L.length = n) (hL : n ≤ 1000) : Row (w.alloc (.cells cs 34)) (.slice (some ⟨b, 0, none⟩) n n) (strs L) := by
  subst hc hb
  exact Row.of_blk (Blk.new w _ _) (by rw [strs_length]; exact hn) (by unfold maxLen; omega) (fun i x h => by rw [List.getElem?_toArray]; exact h) (Nat.le_refl _) (by unfold maxLen; omega)
set_option maxRecDepth 100000 in
set_option maxHeartbeats 4000000 in
theorem w_lives21 (w : World) (hL : LayB w) :
    Calls Tryz.prog 7 #[] w fun e w' => e = .returned (.bool true) ∧ Below w.heap.size w w' := by
  have HL := hid hL
  have PP := fun V v u hv hu hV => hid (na_Add V v u [5, 7] h12 [x11, ⟨#[48, 48, 49, 49]⟩] hv hu (by decide) (by decide) hV)
  have PL := fun V v hv hV => hid (na_Law V v [5] h12 3 hv (by decide) (by decide +kernel) hV)
  rw [naO_ok nn_l.2 nn_l.1, nn_l.2] at PP
  simp only [Option.isSome_some, Option.getD_some] at PP
  rw [nn_d.1, nn_d.2] at PL
  unfold h12 x11 at PP
  unfold h12 nnD at PL
  have PI := fun V u v hu hv => hid (k_SameI V u v [5, 9] [5, 9] hu hv)
  have PS := fun V u v hu hv => hid (k_SameM V u v nnD nnD hu hv)
  rw [decide_eq_true rfl] at PI PS
  unfold nnD at PS
  clear hL
  have A1 := (Below.refl w.heap.size w).alloc (Nat.le_refl _) (.cells #[.int .i64 5, .int .i64 7] 3)
  have A2 := hid (A1.alloc A1.size (.cells #[.string ⟨#[49, 49]⟩, .string ⟨#[48, 48, 49, 49]⟩] 34))
  have R1 := hid ((rowZ_isS w [5, 7] _ 2 w.heap.size rfl rfl rfl (by omega)).call ((Below.refl _ _).alloc (Nat.le_refl _) (.cells #[.string ⟨#[49, 49]⟩, .string ⟨#[48, 48, 49, 49]⟩] 34)))
  have R2 := hid (rowB_isS (w.alloc (.cells #[.int .i64 5, .int .i64 7] 3)) [⟨#[49, 49]⟩, ⟨#[48, 48, 49, 49]⟩] _ 2 (w.heap.size + 1) rfl (by simp) rfl (by omega))
  clear A1
  go_enter Tryz.func7, Tryz.ntmps7
  go_wp2_with fail
  refine (PP _ _ _ R1.out R2.out (HL.out.call A2.out)).out.mono ?_; rintro e w1 ⟨⟨u1, rfl, hu1⟩, hb1⟩
  have y1 := hid (bnext A2.out hb1)
  have U1 := hid hu1
  obtain ⟨a1, k1, rfl, -, -, -⟩ := hu1.openZ
  clear hb1 hu1
  go_wp2_with fail
  have A3 := hid ((Below.refl w1.heap.size w1).alloc (Nat.le_refl _) (.cells #[.int .i64 5] 3))
  have R3 := hid (rowZ_isS w1 [5] _ 1 w1.heap.size rfl rfl rfl (by omega))
  refine (PL _ _ R3.out (HL.out.call (bnext y1.out A3.out))).out.mono ?_; rintro e w2 ⟨⟨u, rfl, hu⟩, hb2⟩
  have b2 := hid (bnext A3.out hb2)
  have y2 := hid (bnext y1.out b2.out)
  have U2 := hid hu
  obtain ⟨a2, k2, rfl, -, -, -⟩ := hu.ex
  clear hb2 hu
  have A4 := hid ((Below.refl w2.heap.size w2).alloc (Nat.le_refl _) (.cells #[.int .i64 5, .int .i64 9] 3))
  have R4 := hid (rowZ_isS w2 [5, 9] _ 2 w2.heap.size rfl rfl rfl (by omega))
  go_wp2_with fail
  refine (PI _ _ _ ((U1.out.call b2.out).call A4.out) R4.out).out.mono ?_; rintro e w3 ⟨rfl, hb3⟩
  have b3 := hid (bnext A4.out hb3)
  have y3 := hid (bnext y2.out b3.out)
  clear hb3
  have A5 := hid ((Below.refl w3.heap.size w3).alloc (Nat.le_refl _) (.cells #[.string ⟨#[52]⟩, .string ⟨#[49, 47, 56]⟩, .string ⟨#[53]⟩, .string ⟨#[49, 47, 52]⟩, .string ⟨#[54]⟩, .string ⟨#[49, 47, 56]⟩, .string ⟨#[108, 97, 116, 101]⟩, .string ⟨#[49, 47, 50]⟩] 40))
  have R5 := hid (mrow_lit w3 [(⟨#[52]⟩, ⟨#[49, 47, 56]⟩), (⟨#[53]⟩, ⟨#[49, 47, 52]⟩), (⟨#[54]⟩, ⟨#[49, 47, 56]⟩), (⟨#[108, 97, 116, 101]⟩, ⟨#[49, 47, 50]⟩)] 4 rfl (by omega))
  go_wp2_with fail
  refine (PS _ _ _ ((U2.out.call b3.out).call A5.out) R5.out).out.mono ?_; rintro e w4 ⟨rfl, hb4⟩
  go_wp2_with fail
  go_ret
  exact ⟨rfl, bnext y3.out (bnext A5.out hb4)⟩
end Go.Proofs.YtgphopkifomffaaGreatDoor
namespace Go.Proofs.YtgphopkifomffaaGreatDoor
open Go.RowKit
open Go.Lib (decDigits nDigits)
set_option linter.unusedVariables false
set_option linter.unusedSimpArgs false
def nkO : Option (List Int) → ByteArray
  | none => lateB
  | some ys => jn ys
def nkey (c : List Int) (a : ByteArray) (n : Nat) (l : List UInt8) : ByteArray := nkO (nzO true a c ((chk n c.length l).map tb))
theorem nk_vw {g : Int → Nat} {n : Nat} (hg : ∀ v : Int, v < -(n : Int) ∨ (n : Int) < v → g v = 0) : ∀ c ys : List Int, vw n (List.replicate c.length g) (fun xs => b1 (decide (nzV c xs = ys))) = wN g c ys
  | [], [] => by simp [vw, nzV, b1, wN]
  | [], _ :: _ => by simp [vw, nzV, b1, wN]
  | c :: cs, [] => by
    rw [List.length_cons, List.replicate_succ, vw]
    show zS n _ = 0
    rw [zS_congr (g := fun _ => 0) (fun v _ _ => ?_), zS_zero]
    rw [vw_congr (G := fun _ => 0) (fun r _ _ => by simp [nzV, b1]), vw_zero, Nat.mul_zero]
  | c :: cs, y :: ys => by
    rw [List.length_cons, List.replicate_succ, vw, wN]
    have ih := nk_vw hg cs ys
    by_cases h : y - c < -(n : Int) ∨ (n : Int) < y - c
    · rw [hg _ h, Nat.zero_mul, zS_congr (g := fun _ => 0) (fun v h1 h2 => ?_), zS_zero]
      rw [vw_congr (G := fun _ => 0) (fun r _ _ => by
        have : nzV (c :: cs) (v :: r) ≠ y :: ys := fun e => by
          have : c + v = y := (List.cons.inj e).1
          omega
        rw [b1, if_neg (by simpa using this)]), vw_zero, Nat.mul_zero]
    · rw [zS_congr (g := fun v => if v = y - c then g (y - c) * wN g cs ys else 0) (fun v h1 h2 => ?_), zS_pick (by omega) (by omega)]
      by_cases e : v = y - c
      · subst e
        rw [if_pos rfl, ← ih]
        congr 1
        refine vw_congr fun r _ _ => ?_
        have : (nzV (c :: cs) ((y - c) :: r) = y :: ys) ↔ nzV cs r = ys := by
          show (c + (y - c)) :: nzV cs r = y :: ys ↔ _
          rw [show c + (y - c) = y by omega]
          simp
        rw [decide_eq_decide.2 this]
      · rw [if_neg e, vw_congr (G := fun _ => 0) (fun r _ _ => by
          have : nzV (c :: cs) (v :: r) ≠ y :: ys := fun e2 => by
            have : c + v = y := (List.cons.inj e2).1
            omega
          rw [b1, if_neg (by simpa using this)]), vw_zero, Nat.mul_zero]
theorem nk_fs {a : ByteArray} (ha : gPE a = 0) (n L : Nat) (P : List Int → Bool) : cw (n * L) (fun l => ifS (vals n (List.replicate L (valT (bN (cW a)) (bN (qD a)) true)) l) P) = vw n (List.replicate L (gV (bN (cW a)) (bN (qD a)) true n)) fun xs => b1 (P xs) := by
  have h2 := cw_vals (n := n) (fs := List.replicate L (valT (bN (cW a)) (bN (qD a)) true)) P (fun f hf x v hx => by
    rw [List.eq_of_mem_replicate hf]
    exact valT_w (gPE_ok ha).2 true n x v hx)
  rw [List.length_replicate, List.map_replicate] at h2
  exact h2
theorem nk_some {a : ByteArray} (ha : gPE a = 0) {n : Nat} (hn : n ≤ 256) (c ys : List Int) : (allW (n * c.length)).countP (fun l => decide (nkey c a n l = jn ys)) = wN (gV (bN (cW a)) (bN (qD a)) true n) c ys := by
  rw [← nk_vw (fun v hv => gV_out (gPE_ok ha).2 hv), ← nk_fs ha n c.length, ← cw_all]
  refine List.countP_congr fun l hl => ?_
  unfold nkey
  rw [nzO_chunks true ha hn c l (allW_len hl) (allW_bits hl)]
  cases vals n (List.replicate c.length (valT (bN (cW a)) (bN (qD a)) true)) l with
  | none => exact ⟨fun e => absurd (of_decide_eq_true e).symm (jn_late ys), fun e => by cases e⟩
  | some xs =>
    show decide (jn (nzV c xs) = jn ys) = true ↔ decide (nzV c xs = ys) = true
    rw [decide_eq_true_iff, decide_eq_true_iff]
    exact ⟨jn_inj, congrArg jn⟩
theorem nk_none {a : ByteArray} (ha : gPE a = 0) {n : Nat} (hn : n ≤ 256) (c : List Int) : (allW (n * c.length)).countP (fun l => decide (nkey c a n l = lateB)) = nzR (gV (bN (cW a)) (bN (qD a)) true n) n c.length := by
  have h0 := nk_fs ha n c.length (fun _ => true)
  have h2 := cw_not (fun l => ifS (vals n (List.replicate c.length (valT (bN (cW a)) (bN (qD a)) true)) l) (fun _ => true)) (n * c.length)
  have h1 : (allW (n * c.length)).countP (fun l => decide (nkey c a n l = lateB)) = cw (n * c.length) (fun l => !ifS (vals n (List.replicate c.length (valT (bN (cW a)) (bN (qD a)) true)) l) (fun _ => true)) := by
    rw [← cw_all]
    refine List.countP_congr fun l hl => ?_
    unfold nkey
    rw [nzO_chunks true ha hn c l (allW_len hl) (allW_bits hl)]
    cases vals n (List.replicate c.length (valT (bN (cW a)) (bN (qD a)) true)) l with
    | none => exact ⟨fun _ => rfl, fun _ => decide_eq_true rfl⟩
    | some xs => exact ⟨fun e => absurd (of_decide_eq_true e) (jn_late (nzV c xs)), fun e => by cases e⟩
  have hp : ∀ k, pAll n (List.replicate k (gV (bN (cW a)) (bN (qD a)) true n)) = zS n (gV (bN (cW a)) (bN (qD a)) true n) ^ k := by
    intro k
    induction k with
    | zero => rfl
    | succ k ih => rw [List.replicate_succ, pAll_cons, ih, Nat.pow_succ, Nat.mul_comm]
  have h3 := hp c.length
  unfold pAll at h3
  rw [show (fun xs : List Int => b1 ((fun _ => true) xs)) = fun _ => 1 from rfl, h3] at h0
  rw [h1]
  unfold nzR
  omega
structure Tal (f : List UInt8 → ByteArray) (W : List (List UInt8)) (K : List ByteArray) (C : List Nat) : Prop where
  nd : K.Nodup
  len : C.length = K.length
  cnt : ∀ (k : Nat) (key : ByteArray), K[k]? = some key → C[k]? = some (W.countP fun l => decide (f l = key)) ∧ 0 < W.countP fun l => decide (f l = key)
  all : ∀ l ∈ W, f l ∈ K
theorem Tal.nil (f : List UInt8 → ByteArray) : Tal f [] [] [] := ⟨List.nodup_nil, rfl, fun k key h => by simp at h, fun l h => by simp at h⟩
theorem Tal.old {f : List UInt8 → ByteArray} {W : List (List UInt8)} {K : List ByteArray} {C : List Nat} (h : Tal f W K C) {l : List UInt8} {k x : Nat} (hk : K[k]? = some (f l)) (hx : C[k]? = some x) : Tal f (W ++ [l]) K (C.set k (x + 1)) := by
  have hkC : k < C.length := (List.getElem?_eq_some_iff.1 hx).1
  refine ⟨h.nd, by rw [List.length_set, h.len], fun j key hj => ?_, fun m hm => ?_⟩
  · obtain ⟨c1, c2⟩ := h.cnt j key hj
    rw [List.countP_append, List.countP_singleton]
    by_cases e : j = k
    · subst e
      obtain rfl : f l = key := Option.some.inj (hk.symm.trans hj)
      rw [hx] at c1
      rw [List.getElem?_set_self hkC, if_pos (by simp)]
      exact ⟨by rw [← Option.some.inj c1], by omega⟩
    · have hne : f l ≠ key := fun e2 => by
        have h1 := (List.getElem?_eq_some_iff.1 hk).1
        exact e ((List.getElem?_inj h1 h.nd).1 (by rw [hk, hj, e2])).symm
      rw [List.getElem?_set_ne (fun e2 => e e2.symm), if_neg (by simpa using hne)]
      exact ⟨c1, by omega⟩
  · rcases List.mem_append.1 hm with hm | hm
    · exact h.all m hm
    · rw [List.mem_singleton.1 hm]
      exact List.mem_of_getElem? hk
theorem Tal.new {f : List UInt8 → ByteArray} {W : List (List UInt8)} {K : List ByteArray} {C : List Nat} (h : Tal f W K C) {l : List UInt8} (hk : f l ∉ K) : Tal f (W ++ [l]) (K ++ [f l]) (C ++ [1]) := by
  refine ⟨?_, by simp [h.len], fun j key hj => ?_, fun m hm => ?_⟩
  · rw [List.nodup_append]
    exact ⟨h.nd, by simp, fun a ha b hb e => hk (by rw [← List.mem_singleton.1 hb, ← e]; exact ha)⟩
  · rw [List.countP_append, List.countP_singleton]
    by_cases e : j < K.length
    · rw [List.getElem?_append_left e] at hj
      obtain ⟨c1, c2⟩ := h.cnt j key hj
      have hne : f l ≠ key := fun e2 => hk (by rw [e2]; exact List.mem_of_getElem? hj)
      rw [List.getElem?_append_left (by rw [h.len]; exact e), if_neg (by simpa using hne)]
      exact ⟨c1, by omega⟩
    · have hj2 := (List.getElem?_eq_some_iff.1 hj).1
      rw [List.length_append, List.length_singleton] at hj2
      obtain rfl : j = K.length := by omega
      rw [List.getElem?_append_right (Nat.le_refl _), Nat.sub_self] at hj
      obtain rfl : f l = key := by simpa using hj
      have h0 : W.countP (fun m => decide (f m = f l)) = 0 := by
        rw [List.countP_eq_zero]
        intro m hm e2
        exact hk (by rw [← of_decide_eq_true e2]; exact h.all m hm)
      rw [h0, if_pos (by simp), List.getElem?_append_right (by rw [h.len]; exact Nat.le_refl _), h.len, Nat.sub_self]
      exact ⟨rfl, by omega⟩
  · rcases List.mem_append.1 hm with hm | hm
    · exact List.mem_append_left _ (h.all m hm)
    · rw [List.mem_singleton.1 hm]; simp
theorem nkey_form (c : List Int) (a : ByteArray) (n : Nat) (l : List UInt8) : nkey c a n l = lateB ∨ ∃ ys, nkey c a n l = jn ys := by
  unfold nkey
  cases nzO true a c ((chk n c.length l).map tb) with
  | none => exact .inl rfl
  | some ys => exact .inr ⟨ys, rfl⟩
theorem nct_main {c : List Int} {a : ByteArray} {n : Nat} {K : List ByteArray} {C : List Nat} (h : nlE c a (n : Nat) = 0) (hn : n ≤ 4) (hT : Tal (nkey c a n) (allW (n * c.length)) K C) :
    (∀ (k : Nat) (key : ByteArray) (x : Nat), K[k]? = some key → C[k]? = some x → hasM (nlR c a (n : Nat)) (key, shB x (2 ^ (n * c.length))) = true) ∧ K.length = (nlR c a (n : Nat)).length := by
  obtain ⟨-, hg, -, -, -⟩ := nlE_ok h
  have hR := nlR_ok h
  have hG : nlG a (n : Nat) = gV (bN (cW a)) (bN (qD a)) true n := rfl
  have hS := nk_some hg (n := n) (by omega) c
  have hN := nk_none hg (n := n) (by omega) c
  have hO := nlG_out hg (n : Nat)
  rw [Int.toNat_natCast] at hR hO
  rw [hG] at hR hO
  obtain ⟨g, hgg⟩ : ∃ g, gV (bN (cW a)) (bN (qD a)) true n = g := ⟨_, rfl⟩
  rw [hgg] at hR hO hN
  simp only [hgg] at hS
  rw [hR]
  have hmem := fun p => nyP_mem (n := n) (chA_mem hO) (c := c) (p := p)
  have hK : ∀ key, key ∈ K → (key = lateB ∨ ∃ ys, key = jn ys) ∧ 0 < (allW (n * c.length)).countP fun l => decide (nkey c a n l = key) := fun key hk => by
    obtain ⟨k, hk2⟩ := List.getElem?_of_mem hk
    have h2 := (hT.cnt k key hk2).2
    refine ⟨?_, h2⟩
    obtain ⟨l, -, hl⟩ := List.countP_pos_iff.1 h2
    rw [← of_decide_eq_true hl]
    exact nkey_form c a n l
  have key : ∀ k, k ∈ K → ∃ x, (allW (n * c.length)).countP (fun l => decide (nkey c a n l = k)) = x ∧ (k, dyB x (n * c.length)) ∈ nyP g (chA g n) n c := fun k hk => by
    obtain ⟨h1, h2⟩ := hK k hk
    refine ⟨_, rfl, (hmem _).2 ?_⟩
    rcases h1 with rfl | ⟨ys, rfl⟩
    · rw [hN] at h2 ⊢
      exact .inr ⟨by omega, rfl⟩
    · rw [hS] at h2 ⊢
      exact .inl ⟨ys, by omega, rfl⟩
  refine ⟨fun k ky x hk hx => ?_, ?_⟩
  · rw [hasM_iff, sortM_mem]
    obtain ⟨y, h1, h2⟩ := key ky (List.mem_of_getElem? hk)
    have := (hT.cnt k ky hk).1
    rw [hx, h1] at this
    rw [Option.some.inj this]
    exact h2
  · rw [sortM_length]
    have hnd := nyP_nd (chA_nd g n) (g := g) (n := n) c
    have hnd2 : ((nyP g (chA g n) n c).map fun p => p.1).Nodup := by
      have : ((nyP g (chA g n) n c).map keyL) = (((nyP g (chA g n) n c).map fun p => p.1).map fun b : ByteArray => b.data.toList) := by rw [List.map_map]; rfl
      rw [this] at hnd
      exact List.Pairwise.of_map _ (fun a b h e => h (by rw [e])) hnd
    have hp : K.Perm ((nyP g (chA g n) n c).map fun p => p.1) := by
      refine (List.perm_ext_iff_of_nodup hT.nd hnd2).2 fun k => ⟨fun hk => ?_, fun hk => ?_⟩
      · obtain ⟨x, -, h2⟩ := key k hk
        exact List.mem_map.2 ⟨_, h2, rfl⟩
      · obtain ⟨p, hp, rfl⟩ := List.mem_map.1 hk
        have hpos : 0 < (allW (n * c.length)).countP fun l => decide (nkey c a n l = p.1) := by
          rcases (hmem p).1 hp with ⟨ys, h1, rfl⟩ | ⟨h1, rfl⟩
          · dsimp only; rw [hS]; omega
          · dsimp only; rw [hN]; omega
        obtain ⟨l, hl, he⟩ := List.countP_pos_iff.1 hpos
        rw [← of_decide_eq_true he]
        exact hT.all l hl
    have := hp.length_eq
    rwa [List.length_map] at this
theorem nlR_strict (c : List Int) (a : ByteArray) (n : Int) {i : Nat} {p q : ByteArray × ByteArray} (hp : (nlR c a n)[i]? = some p) (hq : (nlR c a n)[i + 1]? = some q) : ¬ keyL q ≤ keyL p := by
  unfold nlR at hp hq
  split at hp
  · rename_i h
    rw [if_pos h] at hq
    exact sortM_strict (nyP_nd (chA_nd _ _) c) hp hq
  · simp at hp
end Go.Proofs.YtgphopkifomffaaGreatDoor
namespace Go.Proofs.YtgphopkifomffaaGreatDoor
open Go.RowKit
set_option linter.unusedVariables false
def kix (K : List ByteArray) (key : ByteArray) : Nat := K.findIdx fun k => decide (k = key)
theorem kix_le (K : List ByteArray) (key : ByteArray) : kix K key ≤ K.length := List.findIdx_le_length
theorem kix_at {K : List ByteArray} {key : ByteArray} (h : kix K key < K.length) : K[kix K key]? = some key := by
  have h1 : decide (K[kix K key] = key) = true := List.findIdx_getElem (w := h)
  rw [List.getElem?_eq_getElem h, of_decide_eq_true h1]
theorem kix_ne {K : List ByteArray} {key k : ByteArray} {i : Nat} (h : i < kix K key) (hk : K[i]? = some k) : k ≠ key := fun e => by
  have hi : i < K.length := Nat.lt_of_lt_of_le h (kix_le K key)
  have h1 : decide (K[i] = key) = false := by
    have := List.not_of_lt_findIdx h
    simpa using this
  rw [List.getElem?_eq_getElem hi] at hk
  have h2 := Option.some.inj hk
  exact of_decide_eq_false h1 (h2.trans e)
theorem kix_none {K : List ByteArray} {key : ByteArray} (h : kix K key = K.length) : key ∉ K := fun hm => by
  obtain ⟨i, hi⟩ := List.getElem?_of_mem hm
  have hl := (List.getElem?_eq_some_iff.1 hi).1
  exact kix_ne (by rw [h]; exact hl) hi rfl
theorem kix_stop {K : List ByteArray} {key : ByteArray} {i : Nat} (h : ∀ (j : Nat) (k : ByteArray), j < i → K[j]? = some k → k ≠ key) (hi : i = K.length ∨ K[i]? = some key) (hl : i ≤ K.length) : kix K key = i := by
  rcases Nat.lt_trichotomy (kix K key) i with h1 | h1 | h1
  · exact absurd rfl (h _ _ h1 (kix_at (by omega)))
  · exact h1
  · rcases hi with rfl | hi
    · have := kix_le K key; omega
    · exact absurd rfl (kix_ne h1 hi)
def tlK (K : List ByteArray) (key : ByteArray) : List ByteArray := if kix K key = K.length then K ++ [key] else K
def tlC (K : List ByteArray) (key : ByteArray) (C : List Nat) : List Nat := if kix K key = K.length then C ++ [0] else C
theorem Tal.bump {f : List UInt8 → ByteArray} {W : List (List UInt8)} {K : List ByteArray} {C : List Nat} (h : Tal f W K C) (l : List UInt8) : ∃ c, (tlC K (f l) C)[kix K (f l)]? = some c ∧ Tal f (W ++ [l]) (tlK K (f l)) ((tlC K (f l) C).set (kix K (f l)) (c + 1)) := by
  by_cases hk : kix K (f l) = K.length
  · refine ⟨0, ?_, ?_⟩
    · unfold tlC
      rw [if_pos hk, hk, ← h.len, List.getElem?_append_right (Nat.le_refl _), Nat.sub_self]; rfl
    · unfold tlC tlK
      rw [if_pos hk, if_pos hk, hk, ← h.len, List.set_append_right _ _ (Nat.le_refl _), Nat.sub_self]
      exact h.new (kix_none hk)
  · have hlt : kix K (f l) < K.length := by have := kix_le K (f l); omega
    obtain ⟨c, hc⟩ : ∃ c, C[kix K (f l)]? = some c := ⟨_, List.getElem?_eq_getElem (by rw [h.len]; exact hlt)⟩
    refine ⟨c, ?_, ?_⟩
    · unfold tlC; rw [if_neg hk]; exact hc
    · unfold tlC tlK
      rw [if_neg hk, if_neg hk]
      exact h.old (kix_at hlt) hc
end Go.Proofs.YtgphopkifomffaaGreatDoor
namespace Go.Proofs.YtgphopkifomffaaGreatDoor
open Go.RowKit Go.Shelf
set_option linter.unusedVariables false
set_option linter.unusedSimpArgs false
structure TwoK (B : Nat) (W : World) (v1 v2 : Value) (K : List ByteArray) (C : List Nat) : Prop where
  o1 : W.ownsRow B 9 1 v1 K.length (strs K)
  o2 : W.ownsRow B 3 1 v2 C.length (ints .i64 C)
  ne : ∀ g, v1.ownBlock = some g → v2.ownBlock ≠ some g
theorem TwoK.nil (B : Nat) (W : World) : TwoK B W (.slice none 0 0) (.slice none 0 0) [] [] := ⟨World.ownsRow_nil _ _ _ _, World.ownsRow_nil _ _ _ _, fun g h => by simp [Value.ownBlock] at h⟩
theorem TwoK.below {B : Nat} {W W' : World} {v1 v2 : Value} {K : List ByteArray} {C : List Nat} (h : TwoK B W v1 v2 K C) (hb : Below W.heap.size W W') : TwoK B W' v1 v2 K C := ⟨owns_call h.o1 hb, owns_call h.o2 hb, h.ne⟩
theorem TwoK.app1 {B : Nat} {W W' : World} {v1 v1' v2 : Value} {K : List ByteArray} {C : List Nat} {x : ByteArray} (h : TwoK B W v1 v2 K C) (hown : W'.ownsRow B 9 1 v1' (K.length + 1) (strs K ++ [.string x])) (hg : W.grownBy W' v1.ownBlock) (hat : v1'.ownBlock = v1.ownBlock ∨ v1'.ownBlock = some W.heap.size) : TwoK B W' v1' v2 (K ++ [x]) C := by
  refine ⟨by rw [strs_append, List.length_append]; exact hown, ownsRow_keep h.o2 fun g hg' => hg.block g (h.o2.lt g hg').2 (fun e => h.ne g e.symm hg'), fun g hg1 hg2 => ?_⟩
  rcases hat with e | e
  · exact h.ne g (e ▸ hg1) hg2
  · rw [e] at hg1
    have := (h.o2.lt g hg2).2
    injection hg1 with hg1
    omega
theorem TwoK.app2 {B : Nat} {W W' : World} {v1 v2 v2' : Value} {K : List ByteArray} {C : List Nat} {x : Nat} (h : TwoK B W v1 v2 K C) (hown : W'.ownsRow B 3 1 v2' (C.length + 1) (ints .i64 C ++ [.int .i64 (x : Nat)])) (hg : W.grownBy W' v2.ownBlock) (hat : v2'.ownBlock = v2.ownBlock ∨ v2'.ownBlock = some W.heap.size) : TwoK B W' v1 v2' K (C ++ [x]) := by
  refine ⟨ownsRow_keep h.o1 fun g hg' => hg.block g (h.o1.lt g hg').2 (fun e => h.ne g hg' e.symm), by rw [ints_append, List.length_append]; exact hown, fun g hg1 hg2 => ?_⟩
  rcases hat with e | e
  · exact h.ne g hg1 (e ▸ hg2)
  · rw [e] at hg2
    have := (h.o1.lt g hg1).2
    injection hg2 with hg2
    omega
theorem TwoK.set2 {B : Nat} {W : World} {v1 : Value} {g cap : Nat} {K : List ByteArray} {C : List Nat} (h : TwoK B W v1 (.slice (some ⟨g, 0, none⟩) C.length cap) K C) (k x : Nat) : TwoK B (W.setCell ⟨g, k, none⟩ (.int .i64 (x : Nat))) v1 (.slice (some ⟨g, 0, none⟩) (C.set k x).length cap) K (C.set k x) := by
  refine ⟨ownsRow_keep h.o1 fun g1 hg1 => Below.heap_setCell _ _ _ _ (fun e => h.ne g1 hg1 (by rw [e]; rfl)), ?_, fun g1 hg1 => h.ne g1 hg1⟩
  have := own_set h.o2 k (.int .i64 (x : Nat))
  rw [ints_set] at this
  rw [List.length_set]
  exact this
end Go.Proofs.YtgphopkifomffaaGreatDoor
namespace Go.Proofs.YtgphopkifomffaaGreatDoor
open Go.RowKit
set_option linter.unusedVariables false
theorem r2_small (w : World) (n : Nat) (h : n ≤ 9223372036854775807) : Calls Tryz.prog 74 #[.int .i64 n] w fun e w' => e = .returned (numV n) ∧ w = w' := by
  go_enter Tryz.func74, Tryz.ntmps74
  go_wp2_with fail
  refine (r1_FromInt _ n h).mono ?_; rintro e w1 ⟨rfl, rfl⟩
  go_wp2_with fail
  go_ret
  exact ⟨rfl, rfl⟩
end Go.Proofs.YtgphopkifomffaaGreatDoor
namespace Go.Proofs.YtgphopkifomffaaGreatDoor
open Go.RowKit
open Go.Lib (decDigits nDigits)
set_option linter.unusedVariables false
set_option linter.unusedSimpArgs false
theorem zB_neg (m : Nat) : (⟨#[45]⟩ : ByteArray) ++ numB (m + 1) = zB (-((m : Int) + 1)) := by
  apply ba_ext
  rw [ByteArray.data_append, Array.toList_append, numB_list, zB_list, show -((m : Int) + 1) = -((m + 1 : Nat) : Int) by omega, Lib.itoa_neg _ (by omega)]
  rfl
theorem ndig_i64 {n : Nat} (h : n ≤ 9223372036854775807) : nDigits n ≤ 9000 := Nat.le_trans (nDigits_le (k := 19) (by omega) (by omega)) (by omega)
theorem lim_i64 {n : Nat} (h : n ≤ 9223372036854775807) : (limbs n).length ≤ 1000000 := Nat.le_trans (limbs_digits (K := 3) (Nat.le_trans (nDigits_le (k := 19) (by omega) (by omega)) (by omega))) (by omega)
end Go.Proofs.YtgphopkifomffaaGreatDoor
namespace Go.Proofs.YtgphopkifomffaaGreatDoor
open Go.RowKit Go.Shelf
open Go.Lib (decDigits nDigits)
set_option linter.unusedVariables false
set_option linter.unusedSimpArgs false
set_option maxRecDepth 100000 in
set_option maxHeartbeats 1000000 in
theorem r2_IntNegW (w : World) (m : Nat) (h : m ≤ 1000000000000000000) : Calls Tryz.prog 39 #[.int .i64 (-((m : Int) + 1))] w fun e w' => e = .returned (.string (zB (-((m : Int) + 1)))) ∧ Below w.heap.size w w' := by
  have q0 : decide ((0 : Int) ≤ -((m : Int) + 1)) = false := by simp <;> omega
  have q1 : IntKind.i64.wrap (-((m : Int) + 1) + 1) = -(m : Int) := by rw [IntWalk.i64_in _ ⟨by omega, by omega⟩]; omega
  have q2 : IntKind.i64.wrap (-(-(m : Int))) = (m : Int) := by rw [IntWalk.i64_in _ ⟨by omega, by omega⟩]; omega
  have q3 : IntKind.i64.wrap (-(-((m : Int) + 1) + 1)) = (m : Int) := by rw [IntWalk.i64_in _ ⟨by omega, by omega⟩]; omega
  have q4 : IntKind.i64.wrap (m : Int) = (m : Int) := by rw [IntWalk.i64_in _ ⟨by omega, by omega⟩]
  have hz := zB_neg m
  obtain ⟨Z, hZ⟩ : ∃ Z, zB (-((m : Int) + 1)) = Z := ⟨_, rfl⟩
  rw [hZ] at hz ⊢
  have HS := fun V => hid (r2_small V m (by omega))
  have HR := fun V => hid (r1_Read_num V m (ndig_i64 (by omega)))
  have HO := fun V => hid (r2_one V)
  have HP := fun V v u hv hu => hid (r1_Plus V v u m 1 hv hu (lim_i64 (by omega)) (lim_i64 (by omega)))
  have HW := fun V v hv => hid (r1_Write V v (m + 1) hv (lim_i64 (by omega)))
  obtain ⟨M, hM⟩ : ∃ M, numB m = M := ⟨_, rfl⟩
  have hsz := numB_size (m + 1)
  have hnd := ndig_i64 (n := m + 1) (by omega)
  obtain ⟨M1, hM1⟩ : ∃ M, numB (m + 1) = M := ⟨_, rfl⟩
  rw [hM1] at hsz
  have hcat : ¬ 9223372036854775807 < 1 + M1.size := by omega
  simp only [numV_eq] at HS HW
  rw [hM] at HS HR
  rw [hM1] at HW hz
  clear hM hM1 hZ h hsz hnd
  go_enter Tryz.func39, Tryz.ntmps39
  go_wp2_with fail
  refine (HS _).out.mono ?_; rintro e w1 ⟨rfl, rfl⟩
  go_wp2_with fail
  refine (HR _).out.mono ?_; rintro e w2 ⟨⟨v2, rfl, h2⟩, hb2⟩
  have B2 := hid hb2; have V2 := hid h2; clear hb2 h2
  go_wp2_with fail
  refine (HO _).out.mono ?_; rintro e w3 ⟨⟨v3, rfl, h3⟩, hb3⟩
  have B3 := hid (bnext B2.out hb3); have V3 := hid (V2.out.call hb3); have U3 := hid h3; clear hb3 h3
  go_wp2_with fail
  refine (HP _ _ _ V3.out U3.out).out.mono ?_; rintro e w4 ⟨⟨v4, rfl, h4⟩, hb4⟩
  have B4 := hid (bnext B3.out hb4); have V4 := hid h4; clear hb4 h4
  go_wp2_with fail
  refine (HW _ _ V4.out).out.mono ?_; rintro e w5 ⟨rfl, hb5⟩
  have B5 := hid (bnext B4.out hb5); clear hb5
  go_wp2_with fail
  go_ret
  exact ⟨rfl, B5.out⟩
theorem r2_IntW (w : World) (k : Int) (h1 : -1000000000000000000 ≤ k) (h2 : k ≤ 1000000000000000000) : Calls Tryz.prog 39 #[.int .i64 k] w fun e w' => e = .returned (.string (zB k)) ∧ Below w.heap.size w w' := by
  by_cases hk : 0 ≤ k
  · obtain ⟨n, rfl⟩ : ∃ n : Nat, k = (n : Nat) := ⟨k.toNat, by omega⟩
    refine (r2_Int w n (by omega)).mono ?_
    rintro e w' ⟨rfl, rfl⟩
    exact ⟨by rw [zB_nat], Below.refl _ _⟩
  · obtain ⟨m, rfl⟩ : ∃ m : Nat, k = -((m : Int) + 1) := ⟨(-k - 1).toNat, by omega⟩
    exact r2_IntNegW w m (by omega)
set_option maxRecDepth 100000 in
set_option maxHeartbeats 4000000 in
theorem w_text (w : World) (v : Value) (l : List Int) (hv : Row w v (zs l)) (hl : l.length ≤ 300) (hr : ∀ x ∈ l, -1000000000000000000 ≤ x ∧ x ≤ 1000000000000000000) :
    Calls Tryz.prog 11 #[v] w fun e w' => e = .returned (.string (jn l)) ∧ Below w.heap.size w w' := by
  have HV := hid hv; have HR := hid hr; have HL := hid hl
  obtain ⟨s, cp, rfl, q1, q2, q3⟩ := hv.openZ
  have Q3 := hid q3
  obtain ⟨N, hN⟩ : ∃ N, l.length = N := ⟨_, rfl⟩
  have HN := hid hN
  rw [hN] at q1 HV ⊢
  clear hv hr hl q3 hN
  go_enter Tryz.func11, Tryz.ntmps11
  go_wp2_with fail
  go_loopw [3, 4] (fun s3 s4 wr => ∃ i : Nat, s4 = .int .i64 i ∧ i ≤ N ∧ s3 = .string (jn (l.take i)) ∧ Hid (Below w.heap.size w wr)) (fun s3 s4 wr => N - (intOf s4).toNat)
  case atStart => exact ⟨0, rfl, Nat.zero_le _, rfl, Below.refl _ _⟩
  case round =>
    obtain ⟨i, rfl, hi, rfl, hB⟩ := hrel
    by_cases hlt : i < N
    · obtain ⟨x, hx⟩ : ∃ x, l[i]? = some x := ⟨_, List.getElem?_eq_getElem (by rw [HN.out]; exact hlt)⟩
      obtain ⟨g, o, rfl, hg, hc⟩ := Q3.out i x hx
      have d0 := (hB.out.cell (p := ⟨g, o + i, none⟩) hg).trans hc
      have b1 : (0 : Int) ≤ (i : Int) := by omega
      have b2 : (i : Int) < (N : Int) := by omega
      have hl300 := HL.out
      have wi : IntKind.i64.wrap ((i : Int) + 1) = ((i + 1 : Nat) : Int) := by rw [HN.out] at hl300; rw [IntWalk.i64_in _ ⟨by omega, by omega⟩]; omega
      have hxr := HR.out x (List.mem_of_getElem? hx)
      have PI := fun V => hid (r2_IntW V x hxr.1 hxr.2)
      have htk : (l.take i).length = i := by rw [List.length_take, HN.out]; omega
      have hsm : ∀ y ∈ l.take i, y.natAbs < 10 ^ 20 := fun y hy => by have := HR.out y (List.mem_of_mem_take hy); omega
      have hs0 : (jn (l.take i)).size ≤ 100000 := by have := jn_short htk hsm; rw [HN.out] at hl300; omega
      have hs1 : (jnS (l.take i)).size ≤ 100000 := by have := jnS_short htk hsm; rw [HN.out] at hl300; omega
      have hs2 := zB_short (v := x) (by omega)
      have hnx : jn (l.take (i + 1)) = jnS (l.take i) ++ zB x := by rw [List.take_add_one, hx, Option.toList_some, jn_snoc]
      have HNX := hid hnx; have HLT := hid hlt
      have hpre : jnS (l.take i) = if 0 < i then jn (l.take i) ++ spB else jn (l.take i) := by
        unfold jnS
        by_cases h : l.take i = []
        · rw [if_pos h, if_neg (by rw [h] at htk; simp at htk; omega), h]; rfl
        · rw [if_neg h, if_pos (by have := List.length_pos_iff.2 h; omega)]
      obtain ⟨P, hP⟩ : ∃ s, jn (l.take i) = s := ⟨_, rfl⟩
      obtain ⟨P1, hP1⟩ : ∃ s, jnS (l.take i) = s := ⟨_, rfl⟩
      obtain ⟨Z, hZ⟩ : ∃ s, zB x = s := ⟨_, rfl⟩
      rw [hP, hP1] at hpre
      rw [hP] at hs0 ⊢
      rw [hP1] at hs1
      rw [hP1, hZ] at HNX
      rw [hZ] at hs2 PI
      clear hx hg hc hi hl300 hxr htk hsm hnx hP hP1 hZ hlt
      by_cases h0 : 0 < i
      · have t1 : (0 : Int) < (i : Int) := by omega
        have e1 : Hid (P ++ (⟨#[32]⟩ : ByteArray) = P1) := by show _ = P1; rw [if_pos h0] at hpre; exact hpre.symm
        have g1 : (P ++ (⟨#[32]⟩ : ByteArray)).size ≤ 100000 := by rw [e1.out]; exact hs1
        clear hpre h0
        go_wp2_with fail
        refine (PI _).out.mono ?_; rintro e w1 ⟨rfl, hb1⟩
        have y1 := hid (bnext hB.out hb1)
        clear hb1
        go_wp2_with fail
        go_roundw
        case rel => exact ⟨i + 1, by go_num, by have := HLT.out; omega, by rw [HNX.out, ← e1.out], y1⟩
        case measure => simp [intOf] <;> (have := HLT.out; omega)
      · have t1 : ¬ (0 : Int) < (i : Int) := by omega
        have e1 : P = P1 := by rw [if_neg h0] at hpre; exact hpre.symm
        subst e1
        clear hpre h0
        go_wp2_with fail
        refine (PI _).out.mono ?_; rintro e w1 ⟨rfl, hb1⟩
        have y1 := hid (bnext hB.out hb1)
        clear hb1
        go_wp2_with fail
        go_roundw
        case rel => exact ⟨i + 1, by go_num, by have := HLT.out; omega, by rw [HNX.out], y1⟩
        case measure => simp [intOf] <;> (have := HLT.out; omega)
    · obtain rfl : i = N := by omega
      have hT : l.take i = l := List.take_of_length_le (by rw [HN.out]; exact Nat.le_refl _)
      rw [hT]
      go_wp2_with fail
      go_ret
      exact ⟨rfl, hB.out⟩
end Go.Proofs.YtgphopkifomffaaGreatDoor
namespace Go.Proofs.YtgphopkifomffaaGreatDoor
open Go.RowKit Go.Shelf
open Go.Lib (decDigits nDigits)
set_option linter.unusedVariables false
set_option linter.unusedSimpArgs false
set_option maxRecDepth 100000 in
set_option maxHeartbeats 1000000 in
theorem r21_ShareS (w : World) (k n : Nat) (hk : k ≤ 1000000) (hn : n ≤ 256) :
    Calls Tryz.prog 13 #[.int .i64 (k : Nat), .int .i64 (n : Nat)] w fun e w' => e = .returned (.string (shB k (2 ^ n))) ∧ Below w.heap.size w w' := by
  have H1 := fun V => hid (r2_Int V k (by omega))
  have H2 := fun V => hid (r1_Read_num V k (Nat.le_trans (nDigits_le (k := 7) (by omega) (by omega)) (by omega)))
  have hk2 : k ≤ 2 ^ 256 := Nat.le_trans hk (by decide)
  have H3 := fun V v hv => hid (r3_Share V v k n hv hn hk2)
  generalize shB k (2 ^ n) = B at *
  generalize numB k = A1 at *
  clear hk2
  go_enter Tryz.func13, Tryz.ntmps13
  go_wp2_with fail
  refine (H1 _).out.mono ?_; rintro e w1 ⟨rfl, rfl⟩
  go_wp2_with fail
  refine (H2 _).out.mono ?_; rintro e w2 ⟨⟨v2, rfl, hv2⟩, hb2⟩
  have y2 := hid hb2
  have V2 := hid hv2
  obtain ⟨a2, c2, rfl, -, -, -⟩ := hv2.openI
  clear hb2 hv2
  go_wp2_with fail
  refine (H3 _ _ V2.out).out.mono ?_; rintro e w3 ⟨rfl, hb3⟩
  have y3 := hid (bnext y2.out hb3)
  clear hb3
  go_wp2_with fail
  go_ret
  exact ⟨rfl, y3.out⟩
end Go.Proofs.YtgphopkifomffaaGreatDoor
namespace Go.Proofs.YtgphopkifomffaaGreatDoor
open Go.RowKit Go.Shelf
open Go.Lib (decDigits nDigits)
set_option linter.unusedVariables false
set_option linter.unusedSimpArgs false
theorem nct_add {c : List Int} {a : ByteArray} {n : Nat} (h : nlE c a (n : Nat) = 0) (hn : n ≤ 256) {l : List UInt8} (hl : l.length = n * c.length) (hb : ∀ b ∈ l, b = 48 ∨ b = 49) :
    naE c a ((chk n c.length l).map tb) = 0 ∧ naO c a ((chk n c.length l).map tb) = nzO true a c ((chk n c.length l).map tb) ∧ nkO (naO c a ((chk n c.length l).map tb)) = nkey c a n l := by
  obtain ⟨z1, hg, -, -, -⟩ := nlE_ok h
  have e : naE c a ((chk n c.length l).map tb) = 0 := by
    unfold naE wdE
    rw [z1, hg, if_neg (by simp), if_neg (by simp), if_pos (by rw [List.length_map, chk_length]), bsE_zero]
    intro b hb'
    obtain ⟨x, hx, rfl⟩ := List.mem_map.1 hb'
    obtain ⟨h1, h2⟩ := chk_bits hl hb x hx
    exact chkE_tb h2 (by omega)
  have e2 : naO c a ((chk n c.length l).map tb) = nzO true a c ((chk n c.length l).map tb) := naO_ok e rfl
  exact ⟨e, e2, by rw [e2]; rfl⟩
theorem nzO_rng {a : ByteArray} : ∀ {c : List Int} {b : List ByteArray} {l : List Int}, (∀ x ∈ c, -1125899906842624 ≤ x ∧ x ≤ 1125899906842624) → (∀ y ∈ b, y.size ≤ 256) → nzO true a c b = some l → ∀ z ∈ l, -1000000000000000000 ≤ z ∧ z ≤ 1000000000000000000
  | [], b, l, _, _, h => by
    rw [nzO] at h
    · cases h; intro z hz; cases hz
    · intro c cs b bs e; cases e
  | c :: cs, [], l, _, _, h => by
    rw [nzO] at h
    · cases h; intro z hz; cases hz
    · intro c cs b bs _ e; cases e
  | c :: cs, b :: bs, l, hc, hb, h => by
    rw [nzO] at h
    cases h1 : nz1 true a c b with
    | none => rw [h1] at h; cases h
    | some x =>
      rw [h1] at h
      cases h2 : nzO true a cs bs with
      | none => rw [h2] at h; cases h
      | some r =>
        rw [h2] at h
        cases h
        intro z hz
        rcases List.mem_cons.1 hz with rfl | hz
        · have w1 := wT_bound a b (hb b (by simp))
          have w2 := hc c (by simp)
          unfold nz1 at h1
          rw [if_pos rfl] at h1
          dsimp only at h1
          split at h1
          · have h3 := Option.some.inj h1
            omega
          · cases h1
        · exact nzO_rng (fun x hx => hc x (by simp [hx])) (fun y hy => hb y (by simp [hy])) h2 z hz
theorem nct_rng {c : List Int} {a : ByteArray} {n : Nat} (h : nlE c a (n : Nat) = 0) (hn : n ≤ 256) {l : List UInt8} (hl : l.length = n * c.length) (hb : ∀ b ∈ l, b = 48 ∨ b = 49) {ys : List Int} (h2 : nzO true a c ((chk n c.length l).map tb) = some ys) : ∀ z ∈ ys, -1000000000000000000 ≤ z ∧ z ≤ 1000000000000000000 := by
  obtain ⟨z1, -, -, -, -⟩ := nlE_ok h
  refine nzO_rng (zE_zero z1).2 (fun y hy => ?_) h2
  obtain ⟨x, hx, rfl⟩ := List.mem_map.1 hy
  rw [tb_size, (chk_bits hl hb x hx).1]
  exact hn
theorem info_strO : (Tryz.prog.info? 9).map (fun i => (i.zero, i.size, i.bytes)) = some (some (.string ⟨#[]⟩), 1, 16) := by kernel_rfl
theorem owns_zero {W : World} {B : Nat} {e : TypeId} {sz g o n c m : Nat} {xs : List Value} (h : W.ownsRow B e sz (.slice (some ⟨g, o, none⟩) n c) m xs) : o = 0 := by
  rcases h.2 with ⟨h0, _⟩ | ⟨g', cap, cur, h0, _⟩
  · simp at h0
  · simp at h0
    exact h0.1.2
theorem owns_some {W : World} {B : Nat} {e : TypeId} {sz : Nat} {v : Value} {n : Nat} {xs : List Value} (h : W.ownsRow B e sz v n xs) (hn : 0 < n) : ∃ g c, v = .slice (some ⟨g, 0, none⟩) n c := by
  rcases h.2 with ⟨_, h0⟩ | ⟨g', cap, cur, h0, _⟩
  · omega
  · exact ⟨g', cap, h0⟩
theorem TwoK.free {B : Nat} {W : World} {v1 : Value} {g n cap : Nat} {K : List ByteArray} {C : List Nat} (h : TwoK B W v1 (.slice (some ⟨g, 0, none⟩) n cap) K C) (i : Nat) : W.frozen? ⟨g, i, none⟩ = false := by
  obtain ⟨cur, h1⟩ := own_block h.o2 g rfl
  exact Blk.free h1 i
theorem TwoK.cell2 {B : Nat} {W : World} {v1 : Value} {g n cap : Nat} {K : List ByteArray} {C : List Nat} (h : TwoK B W v1 (.slice (some ⟨g, 0, none⟩) n cap) K C) {i x : Nat} (hx : C[i]? = some x) : W.cell? ⟨g, i, none⟩ = some (.int .i64 (x : Nat)) := by
  have := h.o2.cells rfl i _ (ints_get hx)
  rwa [Addr.add_lit, Nat.zero_add] at this
theorem nct_len {c : List Int} {a : ByteArray} {n : Nat} {l : List UInt8} {ys : List Int} (h : nzO true a c ((chk n c.length l).map tb) = some ys) : ys.length = c.length := nzO_length (by rw [List.length_map, chk_length]) h
end Go.Proofs.YtgphopkifomffaaGreatDoor
namespace Go.Proofs.YtgphopkifomffaaGreatDoor
open Go.RowKit Go.Shelf
open Go.Lib (decDigits nDigits)
set_option linter.unusedVariables false
set_option linter.unusedSimpArgs false
set_option maxRecDepth 100000 in
set_option maxHeartbeats 8000000 in
theorem nct_b1 (w : World) (x y : Int) (a : ByteArray) (n : Nat) (ha : a.size ≤ 20) (hn : n ≤ 4) (hL : LayB w) :
    Calls Tryz.prog 3 #[.int .i64 x, .int .i64 y, .bool false, .string a, .int .i64 (n : Nat)] w fun e w' => e = .returned (.bool true) ∧ Below w.heap.size w w' := by
  have HLV := hid (w_lives21 w hL)
  have HL := hid hL
  obtain ⟨i0, hi, hz0, hz1, hz2⟩ := info_parts info_intO
  obtain ⟨j0, hj0, hy0, hy1, hy2⟩ := info_parts info_bits
  obtain ⟨s0, hs, hs0, hs1, hs2⟩ := info_parts info_strO
  have t0 : decide ((20 : Int) < (a.size : Int)) = false := decide_eq_false (by omega)
  have t1 : decide ((n : Int) < 0) = false := decide_eq_false (by omega)
  have t2 : decide ((4 : Int) < (n : Int)) = false := decide_eq_false (by omega)
  have P1 := fun V v hv hV => hid (na_Law V v [x] a (n : Nat) hv (by omega) (fun _ => by
    have h1 : (2 * n + 1) ^ 1 ≤ 9 ^ 1 := Nat.pow_le_pow_left (by omega) 1
    rw [Int.toNat_natCast]
    show (2 * n + 1) ^ 1 ≤ 900
    omega) hV)
  have P3 := fun V v u b hv hu hb hV => hid (na_Add V v u [x] a b hv hu (by omega) hb hV)
  have PT := fun V v l hv hl hr => hid (w_text V v l hv hl hr)
  have HA := hid ha; have HN := hid hn
  have wm : IntKind.i64.wrap ((n : Int) * 1) = (n : Nat) := by rw [Int.mul_one, IntWalk.i64_in _ ⟨by omega, by omega⟩]
  have wm' : IntKind.i64.wrap (n : Int) = (n : Nat) := by rw [IntWalk.i64_in _ ⟨by omega, by omega⟩]
  have HWM := hid wm
  have HM8 := hid (show n ≤ 8 by omega)
  clear hL hn ha
  go_enter Tryz.func3, Tryz.ntmps3
  go_wp2_with fail
  refine HLV.out.mono ?_; rintro e w1 ⟨rfl, hb1⟩
  have y1 := hid hb1; clear hb1
  have R3 := hid (rowZ_isS w1 [x] _ 1 w1.heap.size rfl rfl rfl (by omega))
  have B3 := hid ((Below.refl w1.heap.size w1).alloc (Nat.le_refl _) (.cells #[.int .i64 x] 3))
  go_wp2_with fail
  have FB : Hid (nlE [x] a (n : Nat) ≠ 0 → (nlR [x] a (n : Nat)).length = 0) := fun h => by unfold nlR; rw [if_neg h]; rfl
  have FG := hid (fun (h : nlE [x] a (n : Nat) = 0) K C hT => nct_main (K := K) (C := C) h (by have := HN.out; omega) hT)
  have FS := hid (fun (i : Nat) (p q : ByteArray × ByteArray) hp hq => nlR_strict [x] a (n : Nat) (i := i) (p := p) (q := q) hp hq)
  have FA := hid (fun (h : nlE [x] a (n : Nat) = 0) (l : List UInt8) (hl : l.length = n) hb => nct_add (l := l) h (by have := HN.out; omega) (show l.length = n * ([x] : List Int).length by rw [hl]; exact ((Nat.mul_one n).symm)) hb)
  have FR := hid (fun (h : nlE [x] a (n : Nat) = 0) (l : List UInt8) (hl : l.length = n) hb ys h2 => nct_rng (l := l) (ys := ys) h (by have := HN.out; omega) (show l.length = n * ([x] : List Int).length by rw [hl]; exact ((Nat.mul_one n).symm)) hb h2)
  rw [show n * ([x] : List Int).length = n from (show n * ([x] : List Int).length = n from Nat.mul_one n)] at FG
  obtain ⟨E, hE⟩ : ∃ E, nlE [x] a (n : Nat) = E := ⟨_, rfl⟩
  obtain ⟨BL, hBL⟩ : ∃ E, nlR [x] a (n : Nat) = E := ⟨_, rfl⟩
  rw [hE, hBL] at P1 FB FG
  rw [hBL] at FS
  rw [hE] at FA FR
  clear hE hBL
  by_cases hE0 : E = 0
  case neg =>
    have e1 : (E == 0) = false := by simpa using hE0
    have e2 : (E != 0) = true := by simpa using hE0
    have FB := hid (FB.out hE0)
    clear hE0 FG FA FS FR
    refine (P1 _ _ R3.out (HL.out.call (bnext y1.out B3.out))).out.mono ?_; rintro e w4 ⟨⟨u, rfl, hu⟩, hb4⟩
    have y4 := hid (bnext y1.out (bnext B3.out hb4))
    obtain ⟨a4, k4, rfl, -, -, -⟩ := hu.ex
    rw [FB.out]
    clear hb4 hu
    go_wp2_with fail
    go_ret
    exact ⟨rfl, y4.out⟩
  case pos =>
    subst hE0
    have PA := fun V => hid (r3_All V n (by have := HM8.out; omega))
    obtain ⟨T, hT⟩ : ∃ T, 2 ^ n = T := ⟨_, rfl⟩
    have HAL : Hid ((allW n).length = T) := by show _ = _; rw [allW_length, hT]
    have hT16 : T ≤ 256 := by rw [← hT]; exact Nat.le_trans (Nat.pow_le_pow_right (by omega) (show n ≤ 8 by have := HM8.out; omega)) (by decide)
    have HTT := hid hT; have HT5 := hid hT16
    rw [hT] at FG
    clear FB hT hT16
    refine (P1 _ _ R3.out (HL.out.call (bnext y1.out B3.out))).out.mono ?_; rintro e w4 ⟨⟨u, rfl, hu⟩, hb4⟩
    have y4 := hid (bnext y1.out (bnext B3.out hb4))
    have U4 := hid hu; have R4 := hid (R3.out.call hb4)
    obtain ⟨a4, k4, rfl, u1, u2, -⟩ := hu.ex
    obtain ⟨D, hD⟩ : ∃ D, BL.length = D := ⟨_, rfl⟩
    rw [hD] at U4 u1 FG ⊢
    have HD := hid hD
    clear hb4 hu hD
    go_wp2_with fail
    refine (PA _).out.mono ?_; rintro e w5 ⟨⟨v5, rfl, hv5⟩, hb5⟩
    have y5 := hid (bnext y4.out hb5)
    have U5 := hid (U4.out.call hb5); have R5 := hid (R4.out.call hb5)
    have V5 := hid hv5
    obtain ⟨a5, k5, rfl, s1, s2, -⟩ := hv5.openS
    rw [List.length_map, HAL.out] at V5 s1 ⊢
    clear hb5 hv5
    go_wp2_with fail
    go_loopw [16, 17, 18, 19, 20, 21, 22, 23, 24] (fun s16 s17 s18 s19 s20 s21 s22 s23 s24 wr => ∃ (j : Nat) (K : List ByteArray) (C : List Nat), s18 = .int .i64 (j : Nat) ∧ j ≤ T ∧ Hid (K.length ≤ j) ∧ Hid (Tal (nkey [x] a n) ((allW n).take j) K C) ∧ Hid (TwoK w5.heap.size wr s16 s17 K C) ∧ Hid (Below w5.heap.size w5 wr)) (fun s16 s17 s18 s19 s20 s21 s22 s23 s24 wr => T - (intOf s18).toNat)
    case atStart => exact ⟨0, [], [], rfl, Nat.zero_le _, Nat.le_refl _, Tal.nil _, TwoK.nil _ _, Below.refl _ _⟩
    case round =>
      obtain ⟨j, K, C, rfl, hj, hKj, hTl, hO, hB⟩ := hrel
      have yr := hid (bnext y5.out hB.out)
      obtain ⟨LK, hLK⟩ : ∃ n, K.length = n := ⟨_, rfl⟩
      have hLC : C.length = LK := by rw [hTl.out.len, hLK]
      have HLK := hid hLK; have HLC := hid hLC
      obtain ⟨ak, ck, ek⟩ := owns_ex hO.out.o1
      obtain ⟨ac, cc, ec⟩ := owns_ex hO.out.o2
      rw [hLK] at ek
      rw [hLC] at ec
      subst ek ec
      have hKj2 : LK ≤ j := by rw [← hLK]; exact hKj.out
      have HKJ := hid hKj2
      clear hLK hLC hKj2 hKj
      by_cases hlt : j < T
      · obtain ⟨l, hl⟩ : ∃ l, (allW n)[j]? = some l := ⟨_, List.getElem?_eq_getElem (by rw [HAL.out]; exact hlt)⟩
        have hlm := List.mem_of_getElem? hl
        obtain ⟨g', o, rfl, hg', hc⟩ := V5.out.at (strs_get (show ((allW n).map tb)[j]? = some (tb l) by rw [List.getElem?_map, hl]; rfl))
        have hc2 := (hB.out.cell (p := ⟨g', o + j, none⟩) hg').trans hc
        have HT : Hid ((allW n).take (j + 1) = (allW n).take j ++ [l]) := by show (allW n).take (j + 1) = _; rw [List.take_add_one, hl]; rfl
        have hll := allW_len hlm
        obtain ⟨q1, q2, q3⟩ := FA.out (by simp) l hll (allW_bits hlm)
        have q4 := FR.out (by simp) l hll (allW_bits hlm)
        have q5 := fun ys h => nct_len (c := [x]) (a := a) (n := n) (l := l) (ys := ys) h
        have q1 : naE [x] a ((chk n 1 l).map tb) = 0 := q1
        have q2 : naO [x] a ((chk n 1 l).map tb) = nzO true a [x] ((chk n 1 l).map tb) := q2
        have q3 : nkO (naO [x] a ((chk n 1 l).map tb)) = nkey [x] a n l := q3
        have q4 : ∀ ys, nzO true a [x] ((chk n 1 l).map tb) = some ys → ∀ z ∈ ys, -1000000000000000000 ≤ z ∧ z ≤ 1000000000000000000 := fun ys h => q4 ys h
        have q5 : ∀ ys, nzO true a [x] ((chk n 1 l).map tb) = some ys → ys.length = 1 := fun ys h => q5 ys h
        rw [← q2] at q4 q5
        obtain ⟨X, hXX⟩ : ∃ X, tb l = X := ⟨_, rfl⟩
        have sX : X.size = n := by rw [← hXX, tb_size, hll]
        rw [hXX] at hc2
        have f0 : (0 : Int) ≤ (j : Int) := by omega
        have f1 : (j : Int) < (T : Int) := by omega
        have hn4 := HN.out; have hmm := HM8.out
        have g1 : n ≤ n := by exact Nat.le_refl _
        have wj : IntKind.i64.wrap ((j : Int) + 1) = ((j + 1 : Nat) : Int) := by have := HT5.out; rw [IntWalk.i64_in _ ⟨by omega, by omega⟩]; omega
        have p1 : X.extract 0 n = tb (l.take n) := by
          apply ba_ext
          rw [extract_list, tb_list, ← hXX, tb_list, List.drop_zero, Nat.sub_zero]
        have HBB := hid (show (chk n 1 l).map tb = [X.extract 0 n] by rw [p1]; rfl)
        have HS : Hid (∀ b ∈ (chk n 1 l).map tb, b.size ≤ 100000000) := fun b hb => by
          obtain ⟨q, hq', rfl⟩ := List.mem_map.1 hb
          rw [tb_size, (chk_bits (L := 1) (hll.trans (Nat.mul_one n).symm) (allW_bits hlm) q hq').1]
          omega
        have PD := fun V v u hv hu hV => hid (P3 V v u ((chk n 1 l).map tb) hv hu HS.out hV).out
        rw [q1] at PD
        obtain ⟨O, hOO⟩ : ∃ O, naO [x] a ((chk n 1 l).map tb) = O := ⟨_, rfl⟩
        rw [hOO] at PD q3 q4 q5
        have HR : Hid (∀ z ∈ O.getD [], -1000000000000000000 ≤ z ∧ z ≤ 1000000000000000000) := fun z hz => by
          cases O with
          | none => cases hz
          | some ys => exact q4 ys rfl z hz
        have HO5 := hid q5
        have HXX := hid hXX; have SX := hid sX; have HJ := hid hlt; have HK3 := hid q3
        clear hl hlm hc hg' hll hXX hn4 hmm hlt hj p1  q1 q2 q3 q4 q5 hOO
        have RB0 := hid (rowB_isS wr [X.extract 0 n] _ 1 wr.heap.size rfl rfl rfl (by omega))
        have d7 := hid ((Below.refl wr.heap.size wr).alloc (Nat.le_refl _) (.cells #[.string (X.extract 0 n)] 34))
        go_wp2_with fail
        have RB := hid (show Row (wr.alloc (.cells #[.string (X.extract 0 n)] 34)) (.slice (some ⟨wr.heap.size, 0, none⟩) 1 1) (strs ((chk n 1 l).map tb)) by rw [HBB.out]; exact RB0.out)
        refine (PD _ _ _ ((R5.out.call hB.out).call d7.out) RB.out (HL.out.call (bnext yr.out d7.out))).out.mono ?_; rintro e w9 ⟨⟨y9, rfl, hy9⟩, hb9⟩
        have x9 := hid (bnext d7.out hb9)
        have Y9 := hid hy9
        obtain ⟨a9, k9, rfl, z1, z2, -⟩ := hy9.openZ
        obtain ⟨LX, hLX⟩ : ∃ n, (O.getD []).length = n := ⟨_, rfl⟩
        have hLX3 : LX ≤ 300 := by
          cases O with
          | none => rw [← hLX]; simp
          | some ys => rw [← hLX]; show ys.length ≤ 300; rw [HO5.out ys rfl]; omega
        have HLX := hid hLX
        rw [hLX] at Y9 z1 ⊢
        clear hb9 hy9 hLX
        go_wp2_with fail
        refine (PT _ _ _ Y9.out (by rw [HLX.out]; exact hLX3) HR.out).out.mono ?_; rintro e w10 ⟨rfl, hb10⟩
        have x10 := hid (bnext x9.out hb10)
        have O10 := hid (hO.out.below x10.out)
        have B10 := hid (hB.out.trans (x10.out.mono hB.out.size))
        clear hb10
        obtain ⟨KY, hKY⟩ : ∃ s, nkey [x] a n l = s := ⟨_, rfl⟩
        have HKY := hid hKY
        rw [hKY] at HK3
        have hb := hTl.out.bump l
        rw [hKY] at hb
        have HB2 := hid hb
        have HJK := HKJ.out; have HT6 := HT5.out; have HJ2 := HJ.out
        have wl : IntKind.i64.wrap ((LK : Int) + 1) = ((LK + 1 : Nat) : Int) := by rw [IntWalk.i64_in _ ⟨by omega, by omega⟩]; omega
        have HKB := hid (show LK ≤ 256 by omega)
        clear hb hKY HJK HT6 HJ2 hLX3
        cases O with
        | none =>
          have hKK := hid (show (⟨#[108, 97, 116, 101]⟩ : ByteArray) = KY from HK3.out)
          clear PD PT HR HO5 HLX Y9
          go_wp2_with fail
          rw [hKK.out]
          clear hKK
          go_loopw [24] (fun s24 wx => ∃ i : Nat, s24 = .int .i64 (i : Nat) ∧ i ≤ LK ∧ Hid (∀ (m : Nat) (k : ByteArray), m < i → K[m]? = some k → k ≠ KY) ∧ w10 = wx) (fun s24 wx => LK - (intOf s24).toNat)
          case atStart => exact ⟨0, rfl, Nat.zero_le _, fun m k hm => absurd hm (by omega), rfl⟩
          case round =>
            obtain ⟨i, rfl, hi2, hne, hww⟩ := hrel
            subst hww
            by_cases hiL : i < LK
            · obtain ⟨kk, hkk⟩ : ∃ kk, K[i]? = some kk := ⟨_, List.getElem?_eq_getElem (by rw [HLK.out]; exact hiL)⟩
              obtain ⟨gk, ok, rfl, hgk, hck⟩ := (show Row w10 (.slice ak LK ck) (strs K) from Row.of_owns O10.out.o1).at (strs_get hkk)
              have r0 : (0 : Int) ≤ (i : Int) := by omega
              have r1 : (i : Int) < (LK : Int) := by omega
              have wi : IntKind.i64.wrap ((i : Int) + 1) = ((i + 1 : Nat) : Int) := by have := HKB.out; rw [IntWalk.i64_in _ ⟨by omega, by omega⟩]; omega
              have HIL := hid hiL; have HKKi := hid hkk
              by_cases hkY : kk = KY
              · subst hkY
                have q9 : (kk.toList == kk.toList) = true := by simp
                have q8 : (kk.toList != kk.toList) = false := by simp
                have qe : ((i : Int) == (LK : Int)) = false := by rw [beq_eq_false_iff_ne]; omega
                have qe2 : (i == LK) = false := by rw [beq_eq_false_iff_ne]; omega
                have hix : Hid (kix K kk = i) := kix_stop hne.out (.inr hkk) (by rw [HLK.out]; omega)
                have hin : Hid (¬ kix K kk = K.length) := by show ¬ _; rw [hix.out, HLK.out]; omega
                obtain ⟨c, hcc, hTn⟩ := HB2.out
                rw [tlC, if_neg hin.out] at hcc hTn
                rw [tlK, if_neg hin.out, hix.out] at hTn
                rw [hix.out] at hcc
                have hc256 : c ≤ 256 := by
                  obtain ⟨d1, -⟩ := hTl.out.cnt i kk hkk
                  rw [hcc] at d1
                  injection d1 with d1
                  have d2 := List.countP_le_length (p := fun m => decide (nkey [x] a n m = kk)) (l := (allW n).take j)
                  rw [List.length_take, HAL.out] at d2
                  have := HT5.out
                  omega
                obtain ⟨gc, oc, rfl, hgc, hccell⟩ := (show Row w10 (.slice ac LK cc) (ints .i64 C) by have := Row.of_owns O10.out.o2; exact this).at (ints_get hcc)
                have e0 := owns_zero O10.out.o2
                subst e0
                rw [Nat.zero_add] at hccell
                have OO2 := O10.out
                rw [← HLC.out] at OO2
                have fr := TwoK.free OO2 i
                have wc := (show IntKind.i64.wrap ((c : Int) + 1) = ((c + 1 : Nat) : Int) by rw [IntWalk.i64_in _ ⟨by omega, by omega⟩]; omega)
                have ON := hid (OO2.set2 i (c + 1))
                have BN := hid (B10.out.setCell (p := ⟨gc, i, none⟩) (OO2.o2.lt gc rfl).1 (.int .i64 ((c + 1 : Nat) : Int)))
                have TN := hid hTn
                rw [List.length_set, HLC.out] at ON
                have TT := hid (show Tal (nkey [x] a n) ((allW n).take (j + 1)) K (C.set i (c + 1)) by rw [HT.out]; exact TN.out)
                clear hkk hgk hgc hcc hTn hc256 OO2 hiL hi2 hix hin TN hne HKY HB2 HK3
                go_wp2_with fail
                go_roundw
                case rel => exact ⟨j + 1, K, C.set i (c + 1), by go_num, by have := HJ.out; omega, by have := HKJ.out; have := HLK.out; show _ ≤ _; omega, TT, ON, BN⟩
                case measure => simp [intOf] <;> (have := HJ.out; omega)
              · have q9 : (kk.toList == KY.toList) = false := by rw [beq_eq_false_iff_ne]; exact fun e => hkY (ba_ext (by rw [← Lib.toList_data, ← Lib.toList_data, e]))
                have q8 : (kk.toList != KY.toList) = true := by rw [bne, q9]; rfl
                have hne2 : Hid (∀ (m : Nat) (k : ByteArray), m < i + 1 → K[m]? = some k → k ≠ KY) := fun m k hm hk => by
                  by_cases e : m = i
                  · subst e; rw [HKKi.out] at hk; rw [← Option.some.inj hk]; exact hkY
                  · exact hne.out m k (by omega) hk
                clear hkk hgk hkY hiL hi2 hne
                go_wp2_with fail
                go_roundw
                case rel => exact ⟨i + 1, by go_num, by have := HIL.out; omega, hne2, by simp⟩
                case measure => simp [intOf] <;> (have := HIL.out; omega)
            · obtain rfl : i = LK := by omega
              have qe : ((i : Int) == (i : Int)) = true := by simp
              have qe2 : (i == i) = true := by simp
              have ql : decide ((i : Int) < (i : Int)) = false := by simp
              have hix : Hid (kix K KY = K.length) := kix_stop (by rw [HLK.out]; exact hne.out) (.inl rfl) (Nat.le_refl _)
              obtain ⟨c, hcc, hTn⟩ := HB2.out
              rw [tlC, if_pos hix.out] at hcc hTn
              rw [tlK, if_pos hix.out, hix.out, HLK.out] at hTn
              rw [hix.out, HLK.out, ← HLC.out, List.getElem?_append_right (Nat.le_refl _), Nat.sub_self] at hcc
              obtain rfl : 0 = c := Option.some.inj hcc
              have TT := hid (show Tal (nkey [x] a n) ((allW n).take (j + 1)) (K ++ [KY]) ((C ++ [0]).set i (0 + 1)) by rw [HT.out]; exact hTn)
              have T1 := hid (O10.out.below ((Below.refl _ _).alloc (Nat.le_refl _) (.cells #[.string KY] 9)))
              have b1 := hid (B10.out.alloc B10.out.size (.cells #[.string KY] 9))
              have k1 := hid (Blk.new w10 #[.string KY] 9)
              have fz : (0 : Int) ≤ (i : Int) := by omega
              have fl : (i : Int) < ((i + 1 : Nat) : Int) := by omega
              have fl2 : (i : Int) < (i : Int) + 1 := by omega
              have wc1 : IntKind.i64.wrap ((0 : Int) + 1)= 1 := rfl
              clear hcc hTn hiL hi2 hne HKY HB2 HK3
              go_wp2_with (first
                | (at_builtin; refine wpList_append_own_at _ rfl _ _ 24 rfl w5.heap.size 3 i0 (.int .i64 0) 1 8 Tryz.underlying24 hi hz0 hz1 hz2 rfl (by decide) _ i (ints .i64 C) rfl (by have h := (T3.out.below ((Below.refl _ _).alloc (Nat.le_refl _) (.cells #[.int .i64 0] 3))).o2; rw [HLC.out] at h; exact h) ⟨w13.heap.size, 0, none⟩ 1 1 [.int .i64 0] rfl rfl (news_blk (Blk.new w13 #[.int .i64 0] 3)) (by simp [Value.oneCell']) (by have := HKB.out; unfold maxLen; omega) (by have := HKB.out; omega) (by have := b3.out.size; simp; omega) ?_
                   intro v2' w15 hown hgrow _ hat
                   have hown2 : w15.ownsRow w5.heap.size 3 1 v2' (C.length + 1) (ints .i64 C ++ [.int .i64 ((0 : Nat) : Int)]) := by rw [HLC.out]; exact hown
                   have T5 := hid ((T3.out.below ((Below.refl _ _).alloc (Nat.le_refl _) (.cells #[.int .i64 0] 3))).app2 (x := 0) hown2 hgrow hat)
                   have b5 := hid (owned_below (T3.out.below ((Below.refl _ _).alloc (Nat.le_refl _) (.cells #[.int .i64 0] 3))).o2 (b3.out.alloc b3.out.size (.cells #[.int .i64 0] 3)) hgrow)
                   obtain ⟨gq, cq, rfl⟩ := owns_some hown (by omega)
                   have l1 : (C ++ [0]).length = i + 1 := by rw [List.length_append, HLC.out]; rfl
                   have T6 := T5.out
                   have hcell := TwoK.cell2 T6 (show (C ++ [0])[i]? = some 0 by rw [← HLC.out, List.getElem?_append_right (Nat.le_refl _), Nat.sub_self]; rfl)
                   rw [← l1] at T6
                   have fr := TwoK.free T6 i
                   have ON := hid (T6.set2 i 1)
                   have BN := hid (b5.out.setCell (p := ⟨gq, i, none⟩) (T6.o2.lt gq rfl).1 (.int .i64 ((1 : Nat) : Int)))
                   rw [List.length_set, l1] at ON
                   clear hown hown2 hgrow hat T6)
                | (at_builtin; refine wpList_append_own_at _ rfl _ _ 33 rfl w5.heap.size 9 s0 (.string ⟨#[]⟩) 1 16 Tryz.underlying33 hs hs0 hs1 hs2 rfl (by decide) _ i (strs K) rfl (by have h := T1.out.o1; rw [HLK.out] at h; exact h) ⟨w10.heap.size, 0, none⟩ 1 1 [.string KY] rfl rfl (news_blk k1.out) (by simp [Value.oneCell']) (by have := HKB.out; unfold maxLen; omega) (by have := HKB.out; omega) (by exact b1.out.size) ?_
                   intro v1' w13 hown hgrow _ hat
                   have hown2 : w13.ownsRow w5.heap.size 9 1 v1' (K.length + 1) (strs K ++ [.string KY]) := by rw [HLK.out]; exact hown
                   have T3 := hid (T1.out.app1 hown2 hgrow hat)
                   have b3 := hid (owned_below T1.out.o1 b1.out hgrow)
                   obtain ⟨ga, ca, rfl⟩ := owns_some hown (by omega)
                   clear hown hown2 hgrow hat))
              go_roundw
              case rel => exact ⟨j + 1, K ++ [KY], (C ++ [0]).set i (0 + 1), by go_num, by have := HJ.out; omega, by have := HKJ.out; have := HLK.out; show _ ≤ _; rw [List.length_append]; show _ + 1 ≤ _; omega, TT, ON, BN⟩
              case measure => simp [intOf] <;> (have := HJ.out; omega)
        | some ys =>
          have hKK := hid (show jn ys = KY from HK3.out)
          obtain rfl : LX = 1 := by rw [← HLX.out]; exact HO5.out ys rfl
          clear PD PT HR HO5 HLX Y9
          go_wp2_with fail
          rw [hKK.out]
          clear hKK
          go_loopw [24] (fun s24 wx => ∃ i : Nat, s24 = .int .i64 (i : Nat) ∧ i ≤ LK ∧ Hid (∀ (m : Nat) (k : ByteArray), m < i → K[m]? = some k → k ≠ KY) ∧ w10 = wx) (fun s24 wx => LK - (intOf s24).toNat)
          case atStart => exact ⟨0, rfl, Nat.zero_le _, fun m k hm => absurd hm (by omega), rfl⟩
          case round =>
            obtain ⟨i, rfl, hi2, hne, hww⟩ := hrel
            subst hww
            by_cases hiL : i < LK
            · obtain ⟨kk, hkk⟩ : ∃ kk, K[i]? = some kk := ⟨_, List.getElem?_eq_getElem (by rw [HLK.out]; exact hiL)⟩
              obtain ⟨gk, ok, rfl, hgk, hck⟩ := (show Row w10 (.slice ak LK ck) (strs K) from Row.of_owns O10.out.o1).at (strs_get hkk)
              have r0 : (0 : Int) ≤ (i : Int) := by omega
              have r1 : (i : Int) < (LK : Int) := by omega
              have wi : IntKind.i64.wrap ((i : Int) + 1) = ((i + 1 : Nat) : Int) := by have := HKB.out; rw [IntWalk.i64_in _ ⟨by omega, by omega⟩]; omega
              have HIL := hid hiL; have HKKi := hid hkk
              by_cases hkY : kk = KY
              · subst hkY
                have q9 : (kk.toList == kk.toList) = true := by simp
                have q8 : (kk.toList != kk.toList) = false := by simp
                have qe : ((i : Int) == (LK : Int)) = false := by rw [beq_eq_false_iff_ne]; omega
                have qe2 : (i == LK) = false := by rw [beq_eq_false_iff_ne]; omega
                have hix : Hid (kix K kk = i) := kix_stop hne.out (.inr hkk) (by rw [HLK.out]; omega)
                have hin : Hid (¬ kix K kk = K.length) := by show ¬ _; rw [hix.out, HLK.out]; omega
                obtain ⟨c, hcc, hTn⟩ := HB2.out
                rw [tlC, if_neg hin.out] at hcc hTn
                rw [tlK, if_neg hin.out, hix.out] at hTn
                rw [hix.out] at hcc
                have hc256 : c ≤ 256 := by
                  obtain ⟨d1, -⟩ := hTl.out.cnt i kk hkk
                  rw [hcc] at d1
                  injection d1 with d1
                  have d2 := List.countP_le_length (p := fun m => decide (nkey [x] a n m = kk)) (l := (allW n).take j)
                  rw [List.length_take, HAL.out] at d2
                  have := HT5.out
                  omega
                obtain ⟨gc, oc, rfl, hgc, hccell⟩ := (show Row w10 (.slice ac LK cc) (ints .i64 C) by have := Row.of_owns O10.out.o2; exact this).at (ints_get hcc)
                have e0 := owns_zero O10.out.o2
                subst e0
                rw [Nat.zero_add] at hccell
                have OO2 := O10.out
                rw [← HLC.out] at OO2
                have fr := TwoK.free OO2 i
                have wc := (show IntKind.i64.wrap ((c : Int) + 1) = ((c + 1 : Nat) : Int) by rw [IntWalk.i64_in _ ⟨by omega, by omega⟩]; omega)
                have ON := hid (OO2.set2 i (c + 1))
                have BN := hid (B10.out.setCell (p := ⟨gc, i, none⟩) (OO2.o2.lt gc rfl).1 (.int .i64 ((c + 1 : Nat) : Int)))
                have TN := hid hTn
                rw [List.length_set, HLC.out] at ON
                have TT := hid (show Tal (nkey [x] a n) ((allW n).take (j + 1)) K (C.set i (c + 1)) by rw [HT.out]; exact TN.out)
                clear hkk hgk hgc hcc hTn hc256 OO2 hiL hi2 hix hin TN hne HKY HB2 HK3
                go_wp2_with fail
                go_roundw
                case rel => exact ⟨j + 1, K, C.set i (c + 1), by go_num, by have := HJ.out; omega, by have := HKJ.out; have := HLK.out; show _ ≤ _; omega, TT, ON, BN⟩
                case measure => simp [intOf] <;> (have := HJ.out; omega)
              · have q9 : (kk.toList == KY.toList) = false := by rw [beq_eq_false_iff_ne]; exact fun e => hkY (ba_ext (by rw [← Lib.toList_data, ← Lib.toList_data, e]))
                have q8 : (kk.toList != KY.toList) = true := by rw [bne, q9]; rfl
                have hne2 : Hid (∀ (m : Nat) (k : ByteArray), m < i + 1 → K[m]? = some k → k ≠ KY) := fun m k hm hk => by
                  by_cases e : m = i
                  · subst e; rw [HKKi.out] at hk; rw [← Option.some.inj hk]; exact hkY
                  · exact hne.out m k (by omega) hk
                clear hkk hgk hkY hiL hi2 hne
                go_wp2_with fail
                go_roundw
                case rel => exact ⟨i + 1, by go_num, by have := HIL.out; omega, hne2, by simp⟩
                case measure => simp [intOf] <;> (have := HIL.out; omega)
            · obtain rfl : i = LK := by omega
              have qe : ((i : Int) == (i : Int)) = true := by simp
              have qe2 : (i == i) = true := by simp
              have ql : decide ((i : Int) < (i : Int)) = false := by simp
              have hix : Hid (kix K KY = K.length) := kix_stop (by rw [HLK.out]; exact hne.out) (.inl rfl) (Nat.le_refl _)
              obtain ⟨c, hcc, hTn⟩ := HB2.out
              rw [tlC, if_pos hix.out] at hcc hTn
              rw [tlK, if_pos hix.out, hix.out, HLK.out] at hTn
              rw [hix.out, HLK.out, ← HLC.out, List.getElem?_append_right (Nat.le_refl _), Nat.sub_self] at hcc
              obtain rfl : 0 = c := Option.some.inj hcc
              have TT := hid (show Tal (nkey [x] a n) ((allW n).take (j + 1)) (K ++ [KY]) ((C ++ [0]).set i (0 + 1)) by rw [HT.out]; exact hTn)
              have T1 := hid (O10.out.below ((Below.refl _ _).alloc (Nat.le_refl _) (.cells #[.string KY] 9)))
              have b1 := hid (B10.out.alloc B10.out.size (.cells #[.string KY] 9))
              have k1 := hid (Blk.new w10 #[.string KY] 9)
              have fz : (0 : Int) ≤ (i : Int) := by omega
              have fl : (i : Int) < ((i + 1 : Nat) : Int) := by omega
              have fl2 : (i : Int) < (i : Int) + 1 := by omega
              have wc1 : IntKind.i64.wrap ((0 : Int) + 1)= 1 := rfl
              clear hcc hTn hiL hi2 hne HKY HB2 HK3
              go_wp2_with (first
                | (at_builtin; refine wpList_append_own_at _ rfl _ _ 24 rfl w5.heap.size 3 i0 (.int .i64 0) 1 8 Tryz.underlying24 hi hz0 hz1 hz2 rfl (by decide) _ i (ints .i64 C) rfl (by have h := (T3.out.below ((Below.refl _ _).alloc (Nat.le_refl _) (.cells #[.int .i64 0] 3))).o2; rw [HLC.out] at h; exact h) ⟨w13.heap.size, 0, none⟩ 1 1 [.int .i64 0] rfl rfl (news_blk (Blk.new w13 #[.int .i64 0] 3)) (by simp [Value.oneCell']) (by have := HKB.out; unfold maxLen; omega) (by have := HKB.out; omega) (by have := b3.out.size; simp; omega) ?_
                   intro v2' w15 hown hgrow _ hat
                   have hown2 : w15.ownsRow w5.heap.size 3 1 v2' (C.length + 1) (ints .i64 C ++ [.int .i64 ((0 : Nat) : Int)]) := by rw [HLC.out]; exact hown
                   have T5 := hid ((T3.out.below ((Below.refl _ _).alloc (Nat.le_refl _) (.cells #[.int .i64 0] 3))).app2 (x := 0) hown2 hgrow hat)
                   have b5 := hid (owned_below (T3.out.below ((Below.refl _ _).alloc (Nat.le_refl _) (.cells #[.int .i64 0] 3))).o2 (b3.out.alloc b3.out.size (.cells #[.int .i64 0] 3)) hgrow)
                   obtain ⟨gq, cq, rfl⟩ := owns_some hown (by omega)
                   have l1 : (C ++ [0]).length = i + 1 := by rw [List.length_append, HLC.out]; rfl
                   have T6 := T5.out
                   have hcell := TwoK.cell2 T6 (show (C ++ [0])[i]? = some 0 by rw [← HLC.out, List.getElem?_append_right (Nat.le_refl _), Nat.sub_self]; rfl)
                   rw [← l1] at T6
                   have fr := TwoK.free T6 i
                   have ON := hid (T6.set2 i 1)
                   have BN := hid (b5.out.setCell (p := ⟨gq, i, none⟩) (T6.o2.lt gq rfl).1 (.int .i64 ((1 : Nat) : Int)))
                   rw [List.length_set, l1] at ON
                   clear hown hown2 hgrow hat T6)
                | (at_builtin; refine wpList_append_own_at _ rfl _ _ 33 rfl w5.heap.size 9 s0 (.string ⟨#[]⟩) 1 16 Tryz.underlying33 hs hs0 hs1 hs2 rfl (by decide) _ i (strs K) rfl (by have h := T1.out.o1; rw [HLK.out] at h; exact h) ⟨w10.heap.size, 0, none⟩ 1 1 [.string KY] rfl rfl (news_blk k1.out) (by simp [Value.oneCell']) (by have := HKB.out; unfold maxLen; omega) (by have := HKB.out; omega) (by exact b1.out.size) ?_
                   intro v1' w13 hown hgrow _ hat
                   have hown2 : w13.ownsRow w5.heap.size 9 1 v1' (K.length + 1) (strs K ++ [.string KY]) := by rw [HLK.out]; exact hown
                   have T3 := hid (T1.out.app1 hown2 hgrow hat)
                   have b3 := hid (owned_below T1.out.o1 b1.out hgrow)
                   obtain ⟨ga, ca, rfl⟩ := owns_some hown (by omega)
                   clear hown hown2 hgrow hat))
              go_roundw
              case rel => exact ⟨j + 1, K ++ [KY], (C ++ [0]).set i (0 + 1), by go_num, by have := HJ.out; omega, by have := HKJ.out; have := HLK.out; show _ ≤ _; rw [List.length_append]; show _ + 1 ≤ _; omega, TT, ON, BN⟩
              case measure => simp [intOf] <;> (have := HJ.out; omega)
      · obtain rfl : j = T := by omega
        have q1 : decide ((j : Int) < (j : Int)) = false := by simp
        have hT : (allW n).take j = allW n := List.take_of_length_le (by rw [HAL.out]; exact Nat.le_refl _)
        rw [hT] at hTl
        obtain ⟨hM1, hM2⟩ := FG.out (by simp) K C hTl.out
        rw [HLK.out] at hM2
        have HH := hid hM1
        have hCle : Hid (∀ (k c : Nat), C[k]? = some c → c ≤ 256) := fun k c hx => by
          obtain ⟨ky, hk⟩ : ∃ ky, K[k]? = some ky := ⟨_, List.getElem?_eq_getElem (by rw [HLK.out, ← HLC.out]; exact (List.getElem?_eq_some_iff.1 hx).1)⟩
          obtain ⟨d1, -⟩ := hTl.out.cnt k ky hk
          rw [hx] at d1
          injection d1 with d1
          have d2 := List.countP_le_length (p := fun m => decide (nkey [x] a n m = ky)) (l := allW n)
          rw [HAL.out] at d2
          have := HT5.out
          omega
        have HM2 := hid hM2
        have hkb : LK ≤ 256 := by have := HKJ.out; have := HT5.out; omega
        have HKB := hid hkb
        clear hlt hT hj hM1 hM2 hkb
        obtain ⟨wp, hwp⟩ : ∃ q, q = wr := ⟨_, rfl⟩
        subst hwp
        go_wp2_with fail
        go_loopw [25] (fun s25 wx => ∃ i : Nat, s25 = .int .i64 (i : Nat) ∧ i ≤ LK ∧ Hid (Below wp.heap.size wp wx)) (fun s25 wx => LK - (intOf s25).toNat)
        case atStart => exact ⟨0, rfl, Nat.zero_le _, Below.refl _ _⟩
        case round =>
          obtain ⟨i, rfl, hi4, hBx⟩ := hrel
          by_cases hlt : i < LK
          · obtain ⟨KB, hkk⟩ : ∃ kk, K[i]? = some kk := ⟨_, List.getElem?_eq_getElem (by rw [HLK.out]; exact hlt)⟩
            obtain ⟨v, hv⟩ : ∃ v, C[i]? = some v := ⟨_, List.getElem?_eq_getElem (by rw [HLC.out]; exact hlt)⟩
            obtain ⟨gk, ok, rfl, hgk, hck⟩ := (show Row wp (.slice ak LK ck) (strs K) from Row.of_owns hO.out.o1).at (strs_get hkk)
            obtain ⟨gc, oc, rfl, hgc, hcc⟩ := (show Row wp (.slice ac LK cc) (ints .i64 C) from Row.of_owns hO.out.o2).at (ints_get hv)
            have e0 := owns_zero hO.out.o2
            have e1 := owns_zero hO.out.o1
            subst e0 e1
            rw [Nat.zero_add] at hcc hck
            have hv5 := hCle.out i v hv
            have h9 := HH.out i KB v hkk hv
            have b1 : (0 : Int) ≤ (i : Int) := by omega
            have b2 : (i : Int) < (LK : Int) := by omega
            have wi : IntKind.i64.wrap ((i : Int) + 1) = ((i + 1 : Nat) : Int) := by have := HKB.out; rw [IntWalk.i64_in _ ⟨by omega, by omega⟩]; omega
            have HI := hid hlt
            have PS := fun V => hid (r21_ShareS V v n (by omega) (by have := HM8.out; omega))
            rw [HTT.out] at PS
            obtain ⟨S0, hS0⟩ : ∃ s, shB v j = s := ⟨_, rfl⟩
            rw [hS0] at PS h9
            have PH := fun V u hu => hid (k_HasM V u BL KB S0 hu)
            rw [h9] at PH
            have K2 : Hid (∀ w', Below wp.heap.size wp w' → w'.cell? ⟨gk, i, none⟩ = some (.string KB) ∧ w'.cell? ⟨gc, i, none⟩ = some (.int .i64 (v : Nat))) := fun w' hb => ⟨(hb.cell (p := ⟨gk, i, none⟩) hgk).trans hck, (hb.cell (p := ⟨gc, i, none⟩) hgc).trans hcc⟩
            clear hv hv5 hkk hck hcc hgk hgc h9 hS0 hlt hi4
            go_wp2_with fail
            refine held_plain [0, 1, 2, 3, 4, 5, 6, 7, 8, 9, 10, 11, 12] 4 (fun w' => w'.cell? ⟨gk, i, none⟩ = some (.string KB) ∧ w'.cell? ⟨gc, i, none⟩ = some (.int .i64 (v : Nat))) (by kernel_rfl) (by kernel_rfl) (by kernel_rfl) (by kernel_rfl) (K2.out _ hBx.out.drew) ?_
            iterate 13
              refine ⟨_, rfl, ?_⟩
              apply Exists.intro
              refine ⟨.inl ⟨by rfl, ?_⟩, ?_⟩
              · (intro W' hW'; obtain ⟨q8, q9⟩ := hW'; go_simp; try (with_reducible rfl))
              (dsimp only [Act.put]; try simp only [List.setIfInBounds_toArray, List.set_cons_zero, List.set_cons_succ])
            refine held_one (i := 13) (by kernel_rfl) (by rfl) (by rfl) ?_
            go_wp2_with fail
            refine (PS _).out.mono ?_; rintro e w8 ⟨rfl, hb8⟩
            have x8 := hid (show Below wp.heap.size wp w8 from bnext hBx.out ((Below.refl _ _).drew.trans hb8))
            clear hb8
            go_wp2_with fail
            refine ⟨K2.out _ x8.out, ?_⟩
            refine held_more (is := [14]) (g := 2) (by kernel_rfl) rfl (K2.out _ x8.out) (by kernel_rfl) ?_
            iterate 1
              refine ⟨_, rfl, ?_⟩
              apply Exists.intro
              refine ⟨.inl ⟨by rfl, ?_⟩, ?_⟩
              · (intro W' hW'; obtain ⟨q8, q9⟩ := hW'; go_simp; try (with_reducible rfl))
              (dsimp only [Act.put]; try simp only [List.setIfInBounds_toArray, List.set_cons_zero, List.set_cons_succ])
            refine held_one (i := 15) (by kernel_rfl) (by rfl) (by rfl) ?_
            go_wp2_with fail
            refine (PH _ _ ((U5.out.call hB.out).call x8.out)).out.mono ?_; rintro e w9 ⟨rfl, hb9⟩
            have x9 := hid (bnext x8.out hb9)
            clear hb9
            go_wp2_with fail
            refine ⟨K2.out _ x9.out, ?_⟩
            refine held_more (is := [16]) (g := 0) (by kernel_rfl) rfl (K2.out _ x9.out) (by kernel_rfl) ?_
            iterate 1
              refine ⟨_, rfl, ?_⟩
              apply Exists.intro
              refine ⟨.inl ⟨by rfl, ?_⟩, ?_⟩
              · (intro W' hW'; obtain ⟨q8, q9⟩ := hW'; go_simp; try (with_reducible rfl))
              (dsimp only [Act.put]; try simp only [List.setIfInBounds_toArray, List.set_cons_zero, List.set_cons_succ])
            refine wpAnyH_done (by kernel_rfl) ?_ _
            simp only [Only]
            go_wp2_with fail
            go_roundw
            case rel => exact ⟨i + 1, by go_num, by have := HI.out; omega, x9⟩
            case measure => simp [intOf] <;> (have := HI.out; omega)
          · obtain rfl : i = LK := by omega
            have q1 : decide ((i : Int) < (i : Int)) = false := by simp
            have yq := hid (bnext yr.out hBx.out)
            have UQ := hid ((U5.out.call hB.out).call hBx.out)
            have hdi := HM2.out
            have HDB := hid (show D ≤ 256 by have := HKB.out; omega)
            clear hlt hi4
            go_wp2_with fail
            subst hdi
            go_loopw [26] (fun s26 wx => ∃ q : Nat, s26 = .int .i64 (q : Nat) ∧ 1 ≤ q ∧ q ≤ i + 1 ∧ Hid (Below w.heap.size w wx) ∧ Hid (MRow wx (.slice a4 i k4) BL)) (fun s26 wx => i + 1 - (intOf s26).toNat)
            case atStart => exact ⟨1, rfl, Nat.le_refl _, by omega, yq, UQ⟩
            case round =>
              obtain ⟨q, rfl, hq1, hq2, hB5, hU5⟩ := hrel
              have hdb := HKB.out
              by_cases hlt : q < i
              · obtain ⟨p1, hp1⟩ : ∃ x, BL[q - 1]? = some x := ⟨_, List.getElem?_eq_getElem (by rw [HD.out]; omega)⟩
                obtain ⟨p2, hp2⟩ : ∃ x, BL[q]? = some x := ⟨_, List.getElem?_eq_getElem (by rw [HD.out]; omega)⟩
                have hst := FS.out (q - 1) p1 p2 hp1 (by rw [show q - 1 + 1 = q by omega]; exact hp2)
                obtain ⟨a9, k9, e9, -, -, h9⟩ := hU5.out.ex
                obtain ⟨g1, o1, r1, -, m1, -⟩ := h9 _ _ hp1
                obtain ⟨g2, o2, r2, -, m2, -⟩ := h9 _ _ hp2
                simp only [Value.slice.injEq] at e9
                obtain ⟨rfl, -, rfl⟩ := e9
                rw [r1] at r2
                simp only [Option.some.injEq, Addr.mk.injEq, and_true] at r2
                obtain ⟨rfl, rfl⟩ := r2
                subst r1
                obtain ⟨x1, x2⟩ := p1
                obtain ⟨z1, z2⟩ := p2
                dsimp only [keyL] at m1 m2 hst
                have b1 : (0 : Int) ≤ (q : Int) - 1 := by omega
                have b2 : (q : Int) - 1 < (i : Int) := by omega
                have b5 : (1 : Int) ≤ (q : Int) := by omega
                have b3 : (0 : Int) ≤ (q : Int) := by omega
                have b4 : (q : Int) < (i : Int) := by omega
                have wq1 : IntKind.i64.wrap ((q : Int) - 1) = (q : Int) - 1 := by rw [IntWalk.i64_in _ ⟨by omega, by omega⟩]
                have wi : IntKind.i64.wrap ((q : Int) + 1) = (q : Int) + 1 := by rw [IntWalk.i64_in _ ⟨by omega, by omega⟩]
                have tn : ((q : Int) - 1).toNat = q - 1 := by omega
                rw [Nat.mul_comm 2] at m1 m2
                have hbl := less_lt hst
                have QL := hid hlt
                clear hp1 hp2 h9 hst hdb
                go_wp2_with fail
                refine held_plain [0, 1, 2, 3, 4, 5, 6, 7, 8, 9, 10, 11] 0 (fun w' => w'.cell? ⟨g1, o1 + (q - 1) * 2, none⟩ = some (.string x1) ∧ w'.cell? ⟨g1, o1 + q * 2, none⟩ = some (.string z1)) (by kernel_rfl) (by kernel_rfl) (by kernel_rfl) (by kernel_rfl) ⟨m1, m2⟩ ?_
                iterate 12
                  refine ⟨_, rfl, ?_⟩
                  apply Exists.intro
                  refine ⟨.inl ⟨by rfl, ?_⟩, ?_⟩
                  · (intro W' hW'; obtain ⟨q1, q2⟩ := hW'; go_simp; try (with_reducible rfl))
                  (dsimp only [Act.put]; try simp only [List.setIfInBounds_toArray, List.set_cons_zero, List.set_cons_succ])
                refine wpAnyH_done (by kernel_rfl) ?_ _
                simp only [Only]
                go_wp2_with fail
                go_roundw
                case rel => exact ⟨q + 1, by go_num, by omega, by have := QL.out; omega, hB5.out.drew, hU5.out.call ((Below.refl _ _).drew)⟩
                case measure => simp [intOf] <;> (have := QL.out; omega)
              · have q1 : decide (q < i) = false := by simp; omega
                have q2 : decide ((q : Int) < (i : Int)) = false := by simp; omega
                have q3 : ((i : Int) == (i : Int)) = true := by simp
                clear hlt
                go_wp2_with fail
                go_ret
                exact ⟨rfl, hB5.out⟩
end Go.Proofs.YtgphopkifomffaaGreatDoor
