/- Texts that the proof rests on, merged: R2o, R2t, Gr0, Gr1. -/
import Derived.Test.YtccalhlhdiapiaaGreatDoorKn11
import Derived.Deep.DeepCutAuto
namespace Go.Proofs.YtccalhlhdiapiaaGreatDoor
open Go.RowKit
open Go.Lib (decDigits nDigits)
set_option linter.unusedVariables false
set_option linter.unusedSimpArgs false
/-- The shape of a struct that holds a rational number, or nothing. -/
def Qv (v : Value) : Prop := ∃ (m : Bool) (a : Option Addr) (n c : Nat) (a' : Option Addr) (n' c' : Nat), v = .agg #[.bool m, .slice a n c, .slice a' n' c']
theorem IsQ.qv {k : IntKind} {w : World} {v : Value} {q : Rat} (h : IsQ k w v q) : Qv v := by
  obtain ⟨N, D, rfl, h1, h2⟩ := h.ex
  obtain ⟨a1, c1, rfl, _⟩ := h1.openI
  obtain ⟨a2, c2, rfl, _⟩ := h2.openI
  exact ⟨_, _, _, _, _, _, _, rfl⟩
theorem RetQE.open {s : ByteArray} {e : Ending} {w' : World} (h : RetQE s e w') : ∃ (m : Bool) (a : Option Addr) (n c : Nat) (a' : Option Addr) (n' c' : Nat), e = .returned (.tuple #[.agg #[.bool m, .slice a n c, .slice a' n' c'], .int .i64 (qE s)]) ∧ (qE s = 0 → IsQ .i64 w' (.agg #[.bool m, .slice a n c, .slice a' n' c']) (vQ s)) ∧ (qE s ≠ 0 → m = false ∧ a = none ∧ n = 0 ∧ c = 0 ∧ a' = none ∧ n' = 0 ∧ c' = 0) := by
  obtain ⟨v, rfl, h1, h2⟩ := h
  by_cases h0 : qE s = 0
  · obtain ⟨m, a, n, c, a', n', c', rfl⟩ := (h1 h0).qv
    exact ⟨m, a, n, c, a', n', c', rfl, h1, fun h => absurd h0 h⟩
  · obtain rfl := h2 h0
    exact ⟨_, _, _, _, _, _, _, rfl, h1, fun _ => ⟨rfl, rfl, rfl, rfl, rfl, rfl, rfl⟩⟩
theorem IsQ.keep {k : IntKind} {w w' : World} {v : Value} {q : Rat} (h : IsQ k w v q) (f : ∀ k v x, IsN k w v x → IsN k w' v x) : IsQ k w' v q := by
  obtain ⟨N, D, rfl, h1, h2⟩ := h.ex
  exact ⟨N, D, rfl, f _ _ _ h1, f _ _ _ h2⟩
theorem IsN.drew {k : IntKind} {w : World} {v : Value} {n : Nat} (h : IsN k w v n) : IsN k w.drew v n := Row.drew h
/-- What two gives back. -/
def RetTwo (s t : ByteArray) (e : Ending) (w' : World) : Prop := ∃ (m : Bool) (a : Option Addr) (n c : Nat) (a' : Option Addr) (n' c' : Nat) (m2 : Bool) (b : Option Addr) (j d : Nat) (b' : Option Addr) (j' d' : Nat),
  e = .returned (.tuple #[.agg #[.bool m, .slice a n c, .slice a' n' c'], .agg #[.bool m2, .slice b j d, .slice b' j' d'], .int .i64 (if qE s = 0 then qE t else qE s)]) ∧
  (qE s = 0 → qE t = 0 → IsQ .i64 w' (.agg #[.bool m, .slice a n c, .slice a' n' c']) (vQ s) ∧ IsQ .i64 w' (.agg #[.bool m2, .slice b j d, .slice b' j' d']) (vQ t))
set_option maxRecDepth 100000 in
set_option maxHeartbeats 1000000 in
theorem r2_two (w : World) (s t : ByteArray) (hs : s.size ≤ 1000000) (ht : t.size ≤ 1000000) :
    Calls Tryz.prog 49 #[.string s, .string t] w fun e w' => RetTwo s t e w' ∧ Below w.heap.size w w' := by
  have R1 := fun V => hid (r2_Read V s hs)
  have R2 := fun V => hid (r2_Read V t ht)
  have t0 := hid (Blk.new w #[.bool false, .slice none 0 0, .slice none 0 0] 68)
  have t1 := hid ((Below.refl w.heap.size w).alloc (Nat.le_refl _) (.cells #[.bool false, .slice none 0 0, .slice none 0 0] 68))
  have u0 := hid ((Blk.new w #[.bool false, .slice none 0 0, .slice none 0 0] 68).alloc (.cells #[.bool false, .slice none 0 0, .slice none 0 0] 68))
  have u1 := hid (Blk.made (w.alloc (.cells #[.bool false, .slice none 0 0, .slice none 0 0] 68)) #[.bool false, .slice none 0 0, .slice none 0 0] 68 (n := w.heap.size + 1) (by simp))
  have u2 := hid (t1.out.alloc (by simp) (.cells #[.bool false, .slice none 0 0, .slice none 0 0] 68))
  clear hs ht t0 t1
  go_enter Tryz.func49, Tryz.ntmps49
  go_wp2_with fail
  refine (R1 _).out.mono ?_; rintro e w1 ⟨hr1, hb1⟩
  obtain ⟨m, a, n, c, a', n', c', rfl, h1, h2⟩ := hr1.open
  have v0 := hid (u0.out.call hb1); have v1 := hid (u1.out.call hb1); have v2 := hid (bnext u2.out hb1)
  have l1 := v1.out.lt
  have n1 : (w1.heap.size = w.heap.size) = False := by simp; omega
  have n2 : (w.heap.size = w1.heap.size) = False := by simp; omega
  have n3 : (w1.heap.size = w.heap.size + 1) = False := by simp; omega
  have n4 : (w.heap.size + 1 = w1.heap.size) = False := by simp; omega
  obtain ⟨x, hx⟩ : ∃ x, qE s = x := ⟨_, rfl⟩
  have HXX := hid hx
  by_cases h0 : x = 0
  · subst h0
    rw [hx]
    have Q1 := hid (h1 hx)
    clear h1 h2 hr1 hb1 R1 hx
    have X7 := hid (Blk.new w1 #[.bool m, .slice a n c, .slice a' n' c'] 68)
    have b7 := hid ((Below.refl w1.heap.size w1).alloc (Nat.le_refl _) (.cells #[.bool m, .slice a n c, .slice a' n' c'] 68))
    have x0 := hid (v0.out.call b7.out); have x1 := hid (v1.out.call b7.out); have x2 := hid (bnext v2.out b7.out); have Q2 := hid (Q1.out.call b7.out)
    clear v0 v1 v2 Q1 b7
    go_wp2_with fail
    refine (R2 _).out.mono ?_; rintro e w2 ⟨hr2, hb2⟩
    obtain ⟨m2, b, j, d, b', j', d', rfl, k1, k2⟩ := hr2.open
    have y0 := hid (x0.out.call hb2); have y1 := hid (x1.out.call hb2); have y2 := hid (bnext x2.out hb2); have y7 := hid (X7.out.call hb2); have Q3 := hid (Q2.out.call hb2)
    have K1 := hid k1
    clear x0 x1 x2 X7 Q2 hb2 hr2 k1 k2 R2
    have l2 := y7.out.lt
    have n5 : (w2.heap.size = w.heap.size) = False := by simp; omega
    have n6 : (w.heap.size = w2.heap.size) = False := by simp; omega
    have n7 : (w2.heap.size = w.heap.size + 1) = False := by simp; omega
    have n8 : (w.heap.size + 1 = w2.heap.size) = False := by simp; omega
    clear l1 l2
    obtain ⟨z, hz⟩ : ∃ z, qE t = z := ⟨_, rfl⟩
    have HZ := hid hz
    rw [hz]
    clear hz
    have X9 := hid (Blk.new w2 #[.bool m2, .slice b j d, .slice b' j' d'] 68)
    have b9 := hid ((Below.refl w2.heap.size w2).alloc (Nat.le_refl _) (.cells #[.bool m2, .slice b j d, .slice b' j' d'] 68))
    have z0 := hid (y0.out.call b9.out); have z1 := hid (y1.out.call b9.out); have z2 := hid (bnext y2.out b9.out); have z7 := hid (y7.out.call b9.out); have Q4 := hid (Q3.out.call b9.out)
    have K2 := fun h => hid ((K1.out h).call b9.out)
    clear y0 y1 y2 y7 Q3 b9 K1
    have HH1 := z0.out.cell 0
    have HH2 := z0.out.cell 1
    have HH3 := z0.out.cell 2
    have HH4 := z0.out.free 0
    have HH5 := z0.out.free 1
    have HH6 := z0.out.free 2
    have KK1 := z1.out.cell 0
    have KK2 := z1.out.cell 1
    have KK3 := z1.out.cell 2
    have KK4 := z1.out.free 0
    have KK5 := z1.out.free 1
    have KK6 := z1.out.free 2
    have JJ1 := z7.out.cell 0
    have JJ2 := z7.out.cell 1
    have JJ3 := z7.out.cell 2
    simp at HH1 HH2 HH3 KK1 KK2 KK3 JJ1 JJ2 JJ3

    have II1 := X9.out.cell 0
    have II2 := X9.out.cell 1
    have II3 := X9.out.cell 2
    simp at II1 II2 II3
    go_wp2_with fail
    go_region
    obtain ⟨p1, p2⟩ := set3 z0.out m a a' n c n' c'
    have r1 := ((z1.out.other (a := ⟨w.heap.size, 0, none⟩) (by simp) (.bool m)).other (a := ⟨w.heap.size, 1, none⟩) (by simp) (.slice a n c)).other (a := ⟨w.heap.size, 2, none⟩) (by simp) (.slice a' n' c')
    obtain ⟨p3, p4⟩ := set3 r1 m2 b b' j d j' d'
    have p5 := ((p2.other (a := ⟨w.heap.size + 1, 0, none⟩) (by simp) (.bool m2)).other (a := ⟨w.heap.size + 1, 1, none⟩) (by simp) (.slice b j d)).other (a := ⟨w.heap.size + 1, 2, none⟩) (by simp) (.slice b' j' d')
    have f0 := p5.drew.cell 0
    have f1 := p5.drew.cell 1
    have f2 := p5.drew.cell 2
    have g0 := p4.drew.cell 0
    have g1 := p4.drew.cell 1
    have g2 := p4.drew.cell 2
    simp at f0 f1 f2 g0 g1 g2
    go_wp2_with fail
    refine bodyPost_ret (v := .tuple #[.agg #[.bool m, .slice a n c, .slice a' n' c'], .agg #[.bool m2, .slice b j d, .slice b' j' d'], .int .i64 z]) (by simp [results, Tryz.results49, go_sem, f0, f1, f2, g0, g1, g2]) rfl ⟨⟨m, a, n, c, a', n', c', m2, b, j, d, b', j', d', by rw [if_pos HXX.out, HZ.out], fun h1 h2 => ⟨(Q4.out.keep fun k v x h => (p3 _ _ _ (p1 _ _ _ h)).drew), ((K2 h2).out.keep fun k v x h => (p3 _ _ _ (p1 _ _ _ h)).drew)⟩⟩, ?_⟩
    exact ((((((z2.out.setCell (Nat.le_refl _) _).setCell (Nat.le_refl _) _).setCell (Nat.le_refl _) _).setCell (Nat.le_succ _) _).setCell (Nat.le_succ _) _).setCell (Nat.le_succ _) _).drew
  · rw [hx]
    have q0 : (x != 0) = true := by simpa using h0
    obtain ⟨rfl, rfl, rfl, rfl, rfl, rfl, rfl⟩ := h2 (by rw [hx]; exact h0)
    have H0 := hid h0
    clear h1 h2 hr1 hb1 R1 R2 hx h0
    have X7 := hid (Blk.new w1 #[.bool false, .slice none 0 0, .slice none 0 0] 68)
    have b7 := hid ((Below.refl w1.heap.size w1).alloc (Nat.le_refl _) (.cells #[.bool false, .slice none 0 0, .slice none 0 0] 68))
    have x0 := hid (v0.out.call b7.out); have x1 := hid (v1.out.call b7.out); have x2 := hid (bnext v2.out b7.out)
    clear v0 v1 v2 b7
    have HH1 := x0.out.cell 0
    have HH2 := x0.out.cell 1
    have HH3 := x0.out.cell 2
    have HH4 := x0.out.free 0
    have HH5 := x0.out.free 1
    have HH6 := x0.out.free 2
    have KK1 := x1.out.cell 0
    have KK2 := x1.out.cell 1
    have KK3 := x1.out.cell 2
    have KK4 := x1.out.free 0
    have KK5 := x1.out.free 1
    have KK6 := x1.out.free 2
    have JJ1 := X7.out.cell 0
    have JJ2 := X7.out.cell 1
    have JJ3 := X7.out.cell 2
    simp at HH1 HH2 HH3 KK1 KK2 KK3 JJ1 JJ2 JJ3

    go_wp2_with fail
    go_region
    obtain ⟨p1, p2⟩ := set3 x0.out false none none 0 0 0 0
    have r1 := ((x1.out.other (a := ⟨w.heap.size, 0, none⟩) (by simp) (.bool false)).other (a := ⟨w.heap.size, 1, none⟩) (by simp) (.slice none 0 0)).other (a := ⟨w.heap.size, 2, none⟩) (by simp) (.slice none 0 0)
    obtain ⟨p3, p4⟩ := set3 r1 false none none 0 0 0 0
    have p5 := ((p2.other (a := ⟨w.heap.size + 1, 0, none⟩) (by simp) (.bool false)).other (a := ⟨w.heap.size + 1, 1, none⟩) (by simp) (.slice none 0 0)).other (a := ⟨w.heap.size + 1, 2, none⟩) (by simp) (.slice none 0 0)
    have f0 := p5.drew.cell 0
    have f1 := p5.drew.cell 1
    have f2 := p5.drew.cell 2
    have g0 := p4.drew.cell 0
    have g1 := p4.drew.cell 1
    have g2 := p4.drew.cell 2
    simp at f0 f1 f2 g0 g1 g2
    go_wp2_with fail
    refine bodyPost_ret (v := .tuple #[.agg #[.bool false, .slice none 0 0, .slice none 0 0], .agg #[.bool false, .slice none 0 0, .slice none 0 0], .int .i64 x]) (by simp [results, Tryz.results49, go_sem, f0, f1, f2, g0, g1, g2]) rfl ⟨⟨false, none, 0, 0, none, 0, 0, false, none, 0, 0, none, 0, 0, by rw [if_neg (by rw [HXX.out]; exact H0.out), HXX.out], fun h1 => absurd (HXX.out.symm.trans h1) H0.out⟩, ?_⟩
    exact ((((((x2.out.setCell (Nat.le_refl _) _).setCell (Nat.le_refl _) _).setCell (Nat.le_refl _) _).setCell (Nat.le_succ _) _).setCell (Nat.le_succ _) _).setCell (Nat.le_succ _) _).drew
theorem dig_of {q : Rat} {K : Nat} (h1 : nDigits q.num.natAbs ≤ K) (h2 : nDigits q.den ≤ K) : Dig K q :=
  ⟨Nat.lt_of_lt_of_le (Go.Lib.lt_pow_nDigits _) (Nat.pow_le_pow_right (by omega) h1), Nat.lt_of_lt_of_le (Go.Lib.lt_pow_nDigits _) (Nat.pow_le_pow_right (by omega) h2)⟩
theorem dig_of_fits {q : Rat} (h : ¬ ovQ q) : Dig 4000 q := by
  unfold ovQ at h
  exact dig_of (by omega) (by omega)
theorem Dig.limbs {K L : Nat} {q : Rat} (h : Dig K q) (h0 : 0 < K) (hl : K ≤ 9 * L) : (limbs q.num.natAbs).length ≤ L ∧ (limbs q.den).length ≤ L :=
  ⟨limbs_digits (Nat.le_trans (nDigits_le h0 h.n) hl), limbs_digits (Nat.le_trans (nDigits_le h0 h.d) hl)⟩
/-- A walk of two texts and an operation. -/
def OpOk (F : Nat) (f : Rat → Rat → Rat) : Prop := ∀ (w : World) (v u : Value) (p q : Rat), IsQ .i64 w v p → IsQ .i64 w u q → Dig 4000 p → Dig 4000 q →
  Calls Tryz.prog F #[v, u] w fun e w' => RetQ .i64 (f p q) e w' ∧ Below w.heap.size w w'
theorem op_plus : OpOk 52 (· + ·) := fun w v u p q hp hq h1 h2 => by
  have l1 := h1.limbs (L := 100000) (by omega) (by omega)
  have l2 := h2.limbs (L := 100000) (by omega) (by omega)
  exact r2_Plus w v u p q hp hq l1.1 l1.2 l2.1 l2.2
set_option maxRecDepth 100000 in
set_option maxHeartbeats 1000000 in
theorem r2_Add (w : World) (s t : ByteArray) (hs : s.size ≤ 1000000) (ht : t.size ≤ 1000000) :
    Calls Tryz.prog 25 #[.string s, .string t] w fun e w' => e = .returned (.tuple #[.string (op2B (· + ·) s t), .int .i64 (op2E (· + ·) s t)]) ∧ Below w.heap.size w w' := by
  have R1 := fun V => hid (r2_two V s t hs ht)
  clear hs ht
  by_cases h0 : qE s = 0 ∧ qE t = 0
  · have eB : op2B (· + ·) s t = outB (vQ s + vQ t) := by rw [op2B, if_pos h0]
    have eE : op2E (· + ·) s t = outE (vQ s + vQ t) := by rw [op2E, if_pos h0.1, if_pos h0.2]
    rw [eB, eE]
    have ds := dig_of_fits (vQ_fits h0.1)
    have dt := dig_of_fits (vQ_fits h0.2)
    have dl := hid ((dig_add ds dt).limbs (L := 1000000) (by omega) (by omega))
    have HO := fun V v u hp hq => hid (op_plus V v u (vQ s) (vQ t) hp hq ds dt)
    have HW := fun V v h => hid (r2_Write V v (vQ s + vQ t) h dl.out.1 dl.out.2)
    obtain ⟨oB, hB⟩ : ∃ x, outB (vQ s + vQ t) = x := ⟨_, rfl⟩
    obtain ⟨oE, hE⟩ : ∃ x, outE (vQ s + vQ t) = x := ⟨_, rfl⟩
    rw [hB, hE] at HW
    rw [hB, hE]
    have H0 := hid h0
    clear eB eE ds dt dl hB hE h0
    go_enter Tryz.func25, Tryz.ntmps25
    go_wp2_with fail
    refine (R1 _).out.mono ?_; rintro e w1 ⟨⟨m, a, n, c, a', n', c', m2, b, j, d, b', j', d', rfl, hq⟩, hb1⟩
    obtain ⟨q1, q2⟩ := hq H0.out.1 H0.out.2
    rw [if_pos H0.out.1, H0.out.2]
    have b0 := ((Below.refl w1.heap.size w1).alloc (Nat.le_refl _) (.cells #[.bool m, .slice a n c, .slice a' n' c'] 68)).alloc (by simp) (.cells #[.bool m2, .slice b j d, .slice b' j' d'] 68)
    have y2 := hid (bnext hb1 b0)
    have H1 := HO _ _ _ (q1.call b0) (q2.call b0)
    clear hb1 q1 q2 hq b0 HO R1
    go_wp2_with fail
    refine H1.out.mono ?_; rintro e w2 ⟨⟨v, rfl, hv⟩, hb2⟩
    have y3 := hid (bnext y2.out hb2)
    have H2 := HW _ _ hv
    obtain ⟨m3, a3, n3, c3, a4, n4, c4, rfl⟩ := hv.qv
    clear hv hb2 HW H1
    go_wp2_with fail
    refine H2.out.mono ?_; rintro e w3 ⟨rfl, hb3⟩
    have y4 := hid (bnext y3.out hb3)
    clear hb3 H2
    go_wp2_with fail
    go_ret2
    exact ⟨rfl, y4.out⟩
  · have n0 : (if qE s = 0 then qE t else qE s) ≠ 0 := by
      split
      · rename_i h; exact fun e => h0 ⟨h, e⟩
      · rename_i h; exact h
    have eB : op2B (· + ·) s t = ⟨#[]⟩ := by rw [op2B, if_neg h0]
    have eE : op2E (· + ·) s t = if qE s = 0 then qE t else qE s := by
      rw [op2E]
      split
      · rename_i h; rw [if_neg (fun e => h0 ⟨h, e⟩)]
      · rfl
    rw [eB, eE]
    obtain ⟨x, hx⟩ : ∃ x, (if qE s = 0 then qE t else qE s) = x := ⟨_, rfl⟩
    rw [hx] at n0 ⊢
    have q0 : (x != 0) = true := by simpa using n0
    have HX := hid hx
    clear h0 n0 eB eE hx
    go_enter Tryz.func25, Tryz.ntmps25
    go_wp2_with fail
    refine (R1 _).out.mono ?_; rintro e w1 ⟨⟨m, a, n, c, a', n', c', m2, b, j, d, b', j', d', rfl, -⟩, hb1⟩
    rw [HX.out]
    have y1 := hid hb1
    have y2 := hid ((hb1.alloc hb1.size (.cells #[.bool m, .slice a n c, .slice a' n' c'] 68)).alloc (Nat.le_trans hb1.size (by simp)) (.cells #[.bool m2, .slice b j d, .slice b' j' d'] 68))
    clear hb1
    go_wp2_with fail
    go_ret2
    exact ⟨rfl, y2.out⟩
end Go.Proofs.YtccalhlhdiapiaaGreatDoor
namespace Go.Proofs.YtccalhlhdiapiaaGreatDoor
open Go.RowKit
open Go.Lib (decDigits nDigits)
set_option linter.unusedVariables false
set_option linter.unusedSimpArgs false
set_option maxRecDepth 100000 in
set_option maxHeartbeats 2000000 in
theorem r2_Order (w : World) (v u : Value) (p q : Rat) (hp : IsQ .i64 w v p) (hq : IsQ .i64 w u q) (dp : Dig 4000 p) (dq : Dig 4000 q) :
    Calls Tryz.prog 50 #[v, u] w fun e w' => e = .returned (.int .i64 (ordQ p q)) ∧ Below w.heap.size w w' := by
  have HO := fun V v u hp hq => hid (op_plus V v u p (-q) hp hq dp (dig_neg dq))
  have HG := fun V v h => hid (r2_Negative V v q h)
  have HP := hid hp; have HQ := hid hq
  obtain ⟨m, a, n, c, a', n', c', rfl⟩ := hp.qv
  obtain ⟨m2, b, j, d, b', j', d', rfl⟩ := hq.qv
  rw [show ordQ p q = sgnQ (p + -q) by rw [ordQ, Rat.sub_eq_add_neg]]
  obtain ⟨z, hz⟩ : ∃ z, p + -q = z := ⟨_, rfl⟩
  simp only [hz] at HO
  rw [hz]
  clear hp hq dp dq hz
  go_enter Tryz.func50, Tryz.ntmps50
  go_upto_region 1 with fail
  obtain ⟨W, hW⟩ : ∃ W, (w.alloc (.cells #[.bool m, .slice a n c, .slice a' n' c'] 68)).alloc (.cells #[.bool m2, .slice b j d, .slice b' j' d'] 68) = W := ⟨_, rfl⟩
  have Y0 : Blk W w.heap.size #[.bool m, .slice a n c, .slice a' n' c'] 68 := by rw [← hW]; exact (Blk.new w _ _).alloc _
  have Y1 : Blk W (w.heap.size + 1) #[.bool m2, .slice b j d, .slice b' j' d'] 68 := by rw [← hW]; exact Blk.made _ _ _ (by simp)
  have y0 : Below w.heap.size w W := by rw [← hW]; exact ((Below.refl _ _).alloc (Nat.le_refl _) _).alloc (by simp) _
  rw [hW]
  have KK : Hid (∀ w', Below W.heap.size W w' → w'.cell? ⟨w.heap.size, 0, none⟩ = some (.bool m) ∧ w'.cell? ⟨w.heap.size, 1, none⟩ = some (.slice a n c) ∧ w'.cell? ⟨w.heap.size, 2, none⟩ = some (.slice a' n' c') ∧ w'.cell? ⟨w.heap.size + 1, 0, none⟩ = some (.bool m2) ∧ w'.cell? ⟨w.heap.size + 1, 1, none⟩ = some (.slice b j d) ∧ w'.cell? ⟨w.heap.size + 1, 2, none⟩ = some (.slice b' j' d')) := fun w' hb =>
    ⟨(Y0.call hb).cell 0, (Y0.call hb).cell 1, (Y0.call hb).cell 2, (Y1.call hb).cell 0, (Y1.call hb).cell 1, (Y1.call hb).cell 2⟩
  have Q1 := hid (HP.out.call y0); have Q2 := hid (HQ.out.call y0)
  have HY := hid y0
  clear Y0 Y1 y0 hW
  go_cut [5] (fun s5 wx => ∃ (g : Nat) (a5 : Option Addr) (n5 c5 : Nat) (a6 : Option Addr) (n6 c6 : Nat), s5 = .pointer (some ⟨g, 0, none⟩) ∧ Hid (Blk wx g #[.bool (decide (z.num < 0)), .slice a5 n5 c5, .slice a6 n6 c6] 68) ∧ Hid (n5 = (limbs z.num.natAbs).length) ∧ Hid (Below W.heap.size W wx))
  case first =>
    refine held_plain [0, 1] 4 (fun w' => w'.cell? ⟨w.heap.size, 0, none⟩ = some (.bool m) ∧ w'.cell? ⟨w.heap.size, 1, none⟩ = some (.slice a n c) ∧ w'.cell? ⟨w.heap.size, 2, none⟩ = some (.slice a' n' c') ∧ w'.cell? ⟨w.heap.size + 1, 0, none⟩ = some (.bool m2) ∧ w'.cell? ⟨w.heap.size + 1, 1, none⟩ = some (.slice b j d) ∧ w'.cell? ⟨w.heap.size + 1, 2, none⟩ = some (.slice b' j' d')) (by kernel_rfl) (by kernel_rfl) (by kernel_rfl) (by kernel_rfl) (KK.out _ (Below.refl _ _).drew) ?_
    iterate 2
      refine ⟨_, rfl, ?_⟩
      apply Exists.intro
      refine ⟨.inl ⟨by rfl, ?_⟩, ?_⟩
      · (intro W' hW'; obtain ⟨q1, q2, q3, q4, q5, q6⟩ := hW'; go_simp; try (with_reducible rfl))
      (dsimp only [Act.put]; try simp only [List.setIfInBounds_toArray, List.set_cons_zero, List.set_cons_succ])
    refine held_two (i := 2) (j := 4) (by kernel_rfl) (by rfl) (by rfl) (by rfl) (by rfl) ?_ ?_
    · go_wp2_with fail
      refine (HG _ _ (Q2.out.call (Below.refl _ _).drew)).out.mono ?_; rintro e w3 ⟨⟨v3, rfl, hv3⟩, hb3⟩
      have x3 := hid (show Below W.heap.size W w3 from (Below.refl _ _).drew.trans hb3)
      have N3 := hid hv3
      obtain ⟨m5, a5, n5, c5, a6, n6, c6, rfl⟩ := hv3.qv
      clear hb3 hv3
      go_wp2_with fail
      refine ⟨KK.out _ x3.out, ?_⟩
      refine held_two (i := 3) (j := 4) (by kernel_rfl) (by rfl) (by rfl) (by rfl) (by rfl) ?_ ?_
      · go_wp2_with fail
        refine (HO _ _ _ (Q1.out.call x3.out) N3.out).out.mono ?_; rintro e w4 ⟨⟨v4, rfl, hv4⟩, hb4⟩
        have x4 := hid (bnext x3.out hb4)
        obtain ⟨N, D, rfl, h1, h2⟩ := hv4.ex
        obtain ⟨a7, c7, rfl, -⟩ := h1.openI
        obtain ⟨a8, c8, rfl, -⟩ := h2.openI
        clear hb4 hv4 h1 h2
        go_wp2_with fail
        refine ⟨KK.out _ x4.out, ?_⟩
        refine held_one (i := 4) (by kernel_rfl) (by rfl) (by rfl) ?_
        go_wp2_with fail
        refine ⟨KK.out _ (x4.out.alloc x4.out.size _), ?_⟩
        refine held_one (i := 5) (by kernel_rfl) (by rfl) (by rfl) ?_
        go_wp2_with fail
        refine ⟨KK.out _ (x4.out.alloc x4.out.size _), ?_⟩
        refine wpAnyH_done (by kernel_rfl) ?_ _
        simp only [Only]
        go_wp2_with fail
        go_meet
        exact ⟨_, _, _, _, _, _, _, rfl, Blk.new w4 _ _, rfl, x4.out.alloc x4.out.size _⟩
      · go_wp2_with fail
        have A3 := hid (x3.out.alloc x3.out.size (.cells #[.bool false, .slice none 0 0, .slice none 0 0] 68))
        have b3 := hid (Blk.new w3 #[.bool false, .slice none 0 0, .slice none 0 0] 68)
        have n3 := hid (N3.out.call ((Below.refl _ _).alloc (Nat.le_refl _) (.cells #[.bool false, .slice none 0 0, .slice none 0 0] 68)))
        refine ⟨KK.out _ A3.out, ?_⟩
        refine held_one (i := 3) (by kernel_rfl) (by rfl) (by rfl) ?_
        go_wp2_with fail
        refine (HO _ _ _ (Q1.out.call A3.out) n3.out).out.mono ?_; rintro e w4 ⟨⟨v4, rfl, hv4⟩, hb4⟩
        have x4 := hid (bnext A3.out hb4)
        have b4 := hid (b3.out.call hb4)
        obtain ⟨N, D, rfl, h1, h2⟩ := hv4.ex
        obtain ⟨a7, c7, rfl, -⟩ := h1.openI
        obtain ⟨a8, c8, rfl, -⟩ := h2.openI
        have t0 := b4.out.cell 0
        have t1 := b4.out.cell 1
        have t2 := b4.out.cell 2
        have t3 := b4.out.free 0
        have t4 := b4.out.free 1
        have t5 := b4.out.free 2
        simp at t0 t1 t2
        have ge := hid (show W.heap.size ≤ w3.heap.size from x3.out.size)
        obtain ⟨k7, hk7⟩ : ∃ k, (limbs z.num.natAbs).length = k := ⟨_, rfl⟩
        obtain ⟨k8, hk8⟩ : ∃ k, (limbs z.den).length = k := ⟨_, rfl⟩
        obtain ⟨mz, hmz⟩ : ∃ m, decide (z.num < 0) = m := ⟨_, rfl⟩
        rw [hk7, hk8, hmz]
        have HK7 := hid hk7; have HMZ := hid hmz
        clear hb4 hv4 h1 h2 hk7 hk8 hmz
        go_wp2_with fail
        refine ⟨KK.out _ x4.out, ?_⟩
        refine held_one (i := 5) (by kernel_rfl) (by rfl) (by rfl) ?_
        go_wp2_with fail
        obtain ⟨s1, s2⟩ := set3 b4.out mz a7 a8 k7 c7 k8 c8
        have x5 := hid (below_set (below_set (below_set x4.out (i := 0) ge.out (.bool mz)) (i := 1) ge.out (.slice a7 k7 c7)) (i := 2) ge.out (.slice a8 k8 c8))
        have S2 := hid s2
        clear s1 s2 t0 t1 t2 t3 t4 t5
        refine ⟨KK.out _ x5.out, ?_⟩
        refine wpAnyH_done (by kernel_rfl) ?_ _
        simp only [Only]
        go_wp2_with fail
        go_meet
        exact ⟨_, _, _, _, _, _, _, rfl, by rw [HMZ.out]; exact S2, HK7.out.symm, x5⟩
    · go_wp2_with fail
      have A0 := hid (show Below W.heap.size W (W.alloc (.cells #[.bool false, .slice none 0 0, .slice none 0 0] 68)).drew from ((Below.refl _ _).alloc (Nat.le_refl _) _).drew)
      have b0 := hid (show Blk (W.alloc (.cells #[.bool false, .slice none 0 0, .slice none 0 0] 68)).drew W.heap.size #[.bool false, .slice none 0 0, .slice none 0 0] 68 from Blk.new W _ _)
      refine ⟨KK.out _ A0.out, ?_⟩
      refine held_one (i := 2) (by kernel_rfl) (by rfl) (by rfl) ?_
      go_wp2_with fail
      refine (HG _ _ (Q2.out.call A0.out)).out.mono ?_; rintro e w3 ⟨⟨v3, rfl, hv3⟩, hb3⟩
      have x3 := hid (A0.out.trans (hb3.mono A0.out.size))
      have b3 := hid (b0.out.call hb3)
      have N3 := hid hv3
      obtain ⟨m5, a5, n5, c5, a6, n6, c6, rfl⟩ := hv3.qv
      clear hb3 hv3
      go_wp2_with fail
      refine ⟨KK.out _ x3.out, ?_⟩
      refine held_one (i := 3) (by kernel_rfl) (by rfl) (by rfl) ?_
      go_wp2_with fail
      refine (HO _ _ _ (Q1.out.call x3.out) N3.out).out.mono ?_; rintro e w4 ⟨⟨v4, rfl, hv4⟩, hb4⟩
      have x4 := hid (bnext x3.out hb4)
      have b4 := hid (b3.out.call hb4)
      obtain ⟨N, D, rfl, h1, h2⟩ := hv4.ex
      obtain ⟨a7, c7, rfl, -⟩ := h1.openI
      obtain ⟨a8, c8, rfl, -⟩ := h2.openI
      have t0 := b4.out.cell 0
      have t1 := b4.out.cell 1
      have t2 := b4.out.cell 2
      have t3 := b4.out.free 0
      have t4 := b4.out.free 1
      have t5 := b4.out.free 2
      simp at t0 t1 t2
      have ge := hid (Nat.le_refl W.heap.size)
      obtain ⟨k7, hk7⟩ : ∃ k, (limbs z.num.natAbs).length = k := ⟨_, rfl⟩
      obtain ⟨k8, hk8⟩ : ∃ k, (limbs z.den).length = k := ⟨_, rfl⟩
      obtain ⟨mz, hmz⟩ : ∃ m, decide (z.num < 0) = m := ⟨_, rfl⟩
      rw [hk7, hk8, hmz]
      have HK7 := hid hk7; have HMZ := hid hmz
      clear hb4 hv4 h1 h2 hk7 hk8 hmz
      go_wp2_with fail
      refine ⟨KK.out _ x4.out, ?_⟩
      refine held_one (i := 5) (by kernel_rfl) (by rfl) (by rfl) ?_
      go_wp2_with fail
      obtain ⟨s1, s2⟩ := set3 b4.out mz a7 a8 k7 c7 k8 c8
      have x5 := hid (below_set (below_set (below_set x4.out (i := 0) ge.out (.bool mz)) (i := 1) ge.out (.slice a7 k7 c7)) (i := 2) ge.out (.slice a8 k8 c8))
      have S2 := hid s2
      clear s1 s2 t0 t1 t2 t3 t4 t5
      refine ⟨KK.out _ x5.out, ?_⟩
      refine wpAnyH_done (by kernel_rfl) ?_ _
      simp only [Only]
      go_wp2_with fail
      go_meet
      exact ⟨_, _, _, _, _, _, _, rfl, by rw [HMZ.out]; exact S2, HK7.out.symm, x5⟩
  case rest =>
    obtain ⟨g, a5, n5, c5, a6, n6, c6, rfl, hB, hn, hW⟩ := hcut
    have r0 := hB.out.cell 0
    have r1 := hB.out.cell 1
    simp at r0 r1
    have yz := hid (bnext HY.out hW.out)
    by_cases h1 : z.num = 0
    · have es : Hid (sgnQ z = 0) := by show sgnQ z = 0; rw [sgnQ, if_pos h1]
      obtain rfl : n5 = 0 := by rw [hn.out, h1]; exact limbs_none.2 rfl
      clear h1
      go_wp2_with fail
      go_ret
      exact ⟨by rw [es.out]; rfl, yz.out⟩
    · have h2 : n5 ≠ 0 := fun e => h1 (by rw [hn.out] at e; have := limbs_none.1 e; omega)
      have q1 : ((n5 : Int) == 0) = false := by simp; omega
      obtain ⟨mm, hmm⟩ : ∃ m, decide (z.num < 0) = m := ⟨_, rfl⟩
      have es : sgnQ z = if mm = true then -1 else 1 := by
        rw [sgnQ, if_neg h1, ← hmm]; simp
      have ES := hid es
      rw [hmm] at r0
      clear h1 h2 es hmm
      cases mm
      all_goals
        go_wp2_with fail
        go_ret
        exact ⟨by rw [ES.out]; rfl, yz.out⟩
set_option maxRecDepth 100000 in
set_option maxHeartbeats 1000000 in
theorem r2_Cmp (w : World) (s t : ByteArray) (hs : s.size ≤ 1000000) (ht : t.size ≤ 1000000) :
    Calls Tryz.prog 24 #[.string s, .string t] w fun e w' => e = .returned (.tuple #[.int .i64 (cmB s t), .int .i64 (cmE s t)]) ∧ Below w.heap.size w w' := by
  have R1 := fun V => hid (r2_two V s t hs ht)
  clear hs ht
  by_cases h0 : qE s = 0 ∧ qE t = 0
  · have eB : cmB s t = ordQ (vQ s) (vQ t) := by rw [cmB, if_pos h0]
    have eE : cmE s t = 0 := by rw [cmE, if_pos h0.1, h0.2]
    rw [eB, eE]
    have ds := dig_of_fits (vQ_fits h0.1)
    have dt := dig_of_fits (vQ_fits h0.2)
    have HO := fun V v u hp hq => hid (r2_Order V v u (vQ s) (vQ t) hp hq ds dt)
    obtain ⟨o, ho⟩ : ∃ x, ordQ (vQ s) (vQ t) = x := ⟨_, rfl⟩
    rw [ho] at HO ⊢
    have H0 := hid h0
    clear eB eE ds dt ho h0
    go_enter Tryz.func24, Tryz.ntmps24
    go_wp2_with fail
    refine (R1 _).out.mono ?_; rintro e w1 ⟨⟨m, a, n, c, a', n', c', m2, b, j, d, b', j', d', rfl, hq⟩, hb1⟩
    obtain ⟨q1, q2⟩ := hq H0.out.1 H0.out.2
    rw [if_pos H0.out.1, H0.out.2]
    have b0 := ((Below.refl w1.heap.size w1).alloc (Nat.le_refl _) (.cells #[.bool m, .slice a n c, .slice a' n' c'] 68)).alloc (by simp) (.cells #[.bool m2, .slice b j d, .slice b' j' d'] 68)
    have y2 := hid (bnext hb1 b0)
    have H1 := HO _ _ _ (q1.call b0) (q2.call b0)
    clear hb1 q1 q2 hq b0 HO R1
    go_wp2_with fail
    refine H1.out.mono ?_; rintro e w2 ⟨rfl, hb2⟩
    have y3 := hid (bnext y2.out hb2)
    clear hb2 H1
    go_wp2_with fail
    go_ret2
    exact ⟨rfl, y3.out⟩
  · obtain ⟨n0, -, -⟩ := op2_err (f := (· - ·)) h0
    rw [cmB, if_neg h0, cmE]
    obtain ⟨x, hx⟩ : ∃ x, (if qE s = 0 then qE t else qE s) = x := ⟨_, rfl⟩
    rw [hx] at n0 ⊢
    have q0 : (x != 0) = true := by simpa using n0
    have HX := hid hx
    clear h0 n0 hx
    go_enter Tryz.func24, Tryz.ntmps24
    go_wp2_with fail
    refine (R1 _).out.mono ?_; rintro e w1 ⟨⟨m, a, n, c, a', n', c', m2, b, j, d, b', j', d', rfl, -⟩, hb1⟩
    rw [HX.out]
    have y2 := hid ((hb1.alloc hb1.size (.cells #[.bool m, .slice a n c, .slice a' n' c'] 68)).alloc (Nat.le_trans hb1.size (by simp)) (.cells #[.bool m2, .slice b j d, .slice b' j' d'] 68))
    clear hb1
    go_wp2_with fail
    go_ret2
    exact ⟨rfl, y2.out⟩
end Go.Proofs.YtccalhlhdiapiaaGreatDoor
namespace Go.Proofs.YtccalhlhdiapiaaGreatDoor
open Go.RowKit Go.Shelf
open Go.Lib (decDigits nDigits)
set_option linter.unusedVariables false
set_option linter.unusedSimpArgs false
set_option maxRecDepth 100000 in
set_option maxHeartbeats 2000000 in
theorem gr_over (w : World) (a : ByteArray) (n : Int) (hL : Lay w) (h : 20 < a.size ∨ n < 0 ∨ 12 < n) :
    Calls Tryz.prog 5 #[.string a, .int .i64 n] w fun e w' => e = .returned (.bool true) ∧ Below w.heap.size w w' := by
  have HLV := hid (w_lives w hL)
  obtain ⟨b1, k1⟩ : ∃ b, decide ((20 : Int) < (a.size : Int)) = b := ⟨_, rfl⟩
  obtain ⟨b2, k2⟩ : ∃ b, decide (n < 0) = b := ⟨_, rfl⟩
  obtain ⟨b3, k3⟩ : ∃ b, decide (12 < n) = b := ⟨_, rfl⟩
  have k6 : (b1 || b2 || b3) = true := by
    rw [← k1, ← k2, ← k3]
    simp only [Bool.or_eq_true, decide_eq_true_eq]
    omega
  clear hL h
  cases b1
  · cases b2
    · obtain rfl : b3 = true := by simpa using k6
      clear k6
      go_enter Tryz.func5, Tryz.ntmps5
      go_wp2_with fail
      refine HLV.out.mono ?_; rintro e w1 ⟨rfl, hb1⟩
      have y1 := hid hb1; clear hb1
      go_wp2_with fail
      go_ret
      exact ⟨rfl, y1.out⟩
    · clear k3 k6
      go_enter Tryz.func5, Tryz.ntmps5
      go_wp2_with fail
      refine HLV.out.mono ?_; rintro e w1 ⟨rfl, hb1⟩
      have y1 := hid hb1; clear hb1
      go_wp2_with fail
      go_ret
      exact ⟨rfl, y1.out⟩
  · clear k2 k3 k6
    go_enter Tryz.func5, Tryz.ntmps5
    go_wp2_with fail
    refine HLV.out.mono ?_; rintro e w1 ⟨rfl, hb1⟩
    have y1 := hid hb1; clear hb1
    go_wp2_with fail
    go_ret
    exact ⟨rfl, y1.out⟩
set_option maxRecDepth 100000 in
set_option maxHeartbeats 4000000 in
theorem gr_err (w : World) (a : ByteArray) (n : Nat) (hL : Lay w) (ha : a.size ≤ 20) (hn : n ≤ 12) (he : gPE a ≠ 0) :
    Calls Tryz.prog 5 #[.string a, .int .i64 (n : Nat)] w fun e w' => e = .returned (.bool true) ∧ Below w.heap.size w w' := by
  have HLV := hid (w_lives w hL)
  have P1 := fun V hV => hid (g_OneLaw V a (n : Nat) (by omega) hV)
  have P2 := fun V hV => hid (g_TwoLaw V a (n : Nat) (by omega) hV)
  rw [(gl_bad he _ _ false).1, (gl_bad he _ 0 false).2.1] at P1
  rw [(gl_bad he _ _ true).1, (gl_bad he _ 0 true).2.1] at P2
  have HL := hid hL
  obtain ⟨z, hz⟩ : ∃ z, gPE a = z := ⟨_, rfl⟩
  rw [hz] at P1 P2 he
  have k1 : decide ((20 : Int) < (a.size : Int)) = false := by simp; omega
  have k4 : decide ((n : Int) < 0) = false := by simp
  have k5 : decide (12 < (n : Int)) = false := by simp; omega
  have q0 : (z != 0) = true := by simpa using he
  have q1 : (z == z) = true := by simp
  clear hL ha hn he hz
  go_enter Tryz.func5, Tryz.ntmps5
  go_wp2_with fail
  refine HLV.out.mono ?_; rintro e w1 ⟨rfl, hb1⟩
  have y1 := hid hb1; clear hb1
  go_wp2_with fail
  refine (P1 _ (HL.out.call y1.out)).out.mono ?_; rintro e w2 ⟨⟨x1, rfl, hx1⟩, hb2⟩
  obtain ⟨a1, d1, rfl⟩ := hx1.openM
  have y2 := hid (bnext y1.out hb2)
  clear hb2 hx1
  go_wp2_with fail
  refine (P2 _ (HL.out.call y2.out)).out.mono ?_; rintro e w3 ⟨⟨x2, rfl, hx2⟩, hb3⟩
  obtain ⟨a2, d2, rfl⟩ := hx2.openM
  have y3 := hid (bnext y2.out hb3)
  clear hb3 hx2
  go_wp2_with fail
  go_ret
  exact ⟨rfl, y3.out⟩
end Go.Proofs.YtccalhlhdiapiaaGreatDoor
namespace Go.Proofs.YtccalhlhdiapiaaGreatDoor
open Go.RowKit Go.Shelf
open Go.Lib (decDigits nDigits)
set_option linter.unusedVariables false
set_option linter.unusedSimpArgs false
theorem lit_one : ((⟨#[49]⟩ : ByteArray).toList == [49]) = true := by rw [Lib.toList_data]; rfl
theorem sh_sz {n x : Nat} (hn : n ≤ 12) (hx : x ≤ 2 ^ n) : (shB x (2 ^ n)).size ≤ 1000000 := by
  rw [sh_two hn hx]
  exact Nat.le_trans (tx_size ((dig_two hn hx).fits (by omega) (by omega))) (by omega)
set_option maxRecDepth 100000 in
set_option maxHeartbeats 8000000 in
theorem gr_ok (w : World) (a : ByteArray) (n : Nat) (hL : Lay w) (ha : a.size ≤ 20) (hn : n ≤ 12) (he : gPE a = 0) :
    Calls Tryz.prog 5 #[.string a, .int .i64 (n : Nat)] w fun e w' => e = .returned (.bool true) ∧ Below w.heap.size w w' := by
  have HLV := hid (w_lives w hL)
  have hND := (gPE_ok he).2
  have P1 := fun V hV => hid (g_OneLaw V a (n : Nat) (by omega) hV)
  have P2 := fun V hV => hid (g_TwoLaw V a (n : Nat) (by omega) hV)
  have P3 := fun V hV => hid (g_OneLateA V a (n : Nat) (by omega) hV)
  have P4 := fun V hV => hid (g_TwoLateA V a (n : Nat) (by omega) hV)
  have e32 : glE a (n : Nat) 32 = 0 := gl_good he (m := 32) (by omega)
  have e256 : ∀ m : Nat, m ≤ 12 → glE a (m : Nat) 256 = 0 := fun m hm => gl_good he (m := 256) (by omega)
  have er : ∀ two, glR a (n : Nat) two = sortM (glP (gV (bN (cW a)) (bN (qD a)) two n) (2 ^ n) n (gL (bN (cW a)) (bN (qD a)) two n)) := fun two => by unfold glR; rw [if_pos e32, Int.toNat_natCast]
  have eb : ∀ (m : Nat) two, m ≤ 12 → glB a (m : Nat) two = shB (gL (bN (cW a)) (bN (qD a)) two m) (2 ^ m) := fun m two hm => by unfold glB; rw [if_pos (e256 m hm), Int.toNat_natCast]
  rw [e32, er] at P1 P2
  rw [e256 n hn, eb n _ hn] at P3 P4
  have hgo := fun two v h => gV_out hND (two := two) (n := n) (v := v) h
  -- what stands at a key
  have HV1 : Hid (∀ W v, MRow W v (sortM (glP (gV (bN (cW a)) (bN (qD a)) false n) (2 ^ n) n (gL (bN (cW a)) (bN (qD a)) false n))) → ∀ k : Int, Calls Tryz.prog 20 #[v, .string (zB k)] W fun e w' => e = .returned (.string (shB (gV (bN (cW a)) (bN (qD a)) false n k) (2 ^ n))) ∧ W = w') := fun W v hv k => by
    have := w_value W v _ (zB k) hv
    rwa [val_gl (hgo false)] at this
  have HV2 : Hid (∀ W v, MRow W v (sortM (glP (gV (bN (cW a)) (bN (qD a)) true n) (2 ^ n) n (gL (bN (cW a)) (bN (qD a)) true n))) → ∀ k : Int, Calls Tryz.prog 20 #[v, .string (zB k)] W fun e w' => e = .returned (.string (shB (gV (bN (cW a)) (bN (qD a)) true n k) (2 ^ n))) ∧ W = w') := fun W v hv k => by
    have := w_value W v _ (zB k) hv
    rwa [val_gl (hgo true)] at this
  have HW1 : Hid (∀ W v, MRow W v (sortM (glP (gV (bN (cW a)) (bN (qD a)) false n) (2 ^ n) n (gL (bN (cW a)) (bN (qD a)) false n))) → Calls Tryz.prog 20 #[v, .string ⟨#[108, 97, 116, 101]⟩] W fun e w' => e = .returned (.string (shB (gL (bN (cW a)) (bN (qD a)) false n) (2 ^ n))) ∧ W = w') := fun W v hv => by
    have := w_value W v _ lateB hv
    rwa [val_glLate] at this
  have HW2 : Hid (∀ W v, MRow W v (sortM (glP (gV (bN (cW a)) (bN (qD a)) true n) (2 ^ n) n (gL (bN (cW a)) (bN (qD a)) true n))) → Calls Tryz.prog 20 #[v, .string ⟨#[108, 97, 116, 101]⟩] W fun e w' => e = .returned (.string (shB (gL (bN (cW a)) (bN (qD a)) true n) (2 ^ n))) ∧ W = w') := fun W v hv => by
    have := w_value W v _ lateB hv
    rwa [val_glLate] at this
  have HINT := fun V k (h1 : -1000000000 ≤ k) (h2 : k ≤ 1000000000) => hid (r2_IntZ V k h1 h2)
  have HM1 : Hid (∀ V k, Lay V → -(n : Int) ≤ k → k ≤ n → Calls Tryz.prog 22 #[.string a, .int .i64 k] V fun e w' => e = .returned (.tuple #[.string (omB a k), .int .i64 0]) ∧ Below V.heap.size V w') := fun V k hV h1 h2 => by
    have := g_OneMass V a k (by omega) hV
    rwa [(om_sm (a := a) (k := k) ⟨he, ha, by omega, by omega⟩).2.1] at this
  have HM2 : Hid (∀ V k, Lay V → -(n : Int) ≤ k → k ≤ n → Calls Tryz.prog 23 #[.string a, .int .i64 k] V fun e w' => e = .returned (.tuple #[.string (tmB a k), .int .i64 0]) ∧ Below V.heap.size V w') := fun V k hV h1 h2 => by
    have := g_TwoMass V a k (by omega) hV
    rwa [(tm_sm (a := a) (k := k) ⟨he, ha, by omega, by omega⟩).2.1] at this
  have hos : ∀ k, -(n : Int) ≤ k → k ≤ n → (omB a k).size ≤ 1000000 := fun k h1 h2 => by
    obtain ⟨q1, q2, q3⟩ := om_sm (a := a) (k := k) ⟨he, ha, by omega, by omega⟩
    rw [q1]
    exact Nat.le_trans (tx_size (q3.fits (by omega) (by omega))) (by omega)
  have hts : ∀ k, -(n : Int) ≤ k → k ≤ n → (tmB a k).size ≤ 1000000 := fun k h1 h2 => by
    obtain ⟨q1, q2, q3⟩ := tm_sm (a := a) (k := k) ⟨he, ha, by omega, by omega⟩
    rw [q1]
    exact Nat.le_trans (tx_size (q3.fits (by omega) (by omega))) (by omega)
  have HC1 : Hid (∀ V k, -(n : Int) ≤ k → k ≤ n → ∃ p q : Int, p ≤ 0 ∧ Calls Tryz.prog 24 #[.string (shB (gV (bN (cW a)) (bN (qD a)) false n k) (2 ^ n)), .string (omB a k)] V fun e w' => e = .returned (.tuple #[.int .i64 p, .int .i64 q]) ∧ Below V.heap.size V w') := fun V k h1 h2 =>
    ⟨_, _, gn_one he ha hn h1 h2, r2_Cmp V _ _ (sh_sz hn (gV_le hND false n k)) (hos k h1 h2)⟩
  have HC2 : Hid (∀ V k, -(n : Int) ≤ k → k ≤ n → ∃ p q : Int, p ≤ 0 ∧ Calls Tryz.prog 24 #[.string (shB (gV (bN (cW a)) (bN (qD a)) true n k) (2 ^ n)), .string (tmB a k)] V fun e w' => e = .returned (.tuple #[.int .i64 p, .int .i64 q]) ∧ Below V.heap.size V w') := fun V k h1 h2 =>
    ⟨_, _, gn_two he ha hn h1 h2, r2_Cmp V _ _ (sh_sz hn (gV_le hND true n k)) (hts k h1 h2)⟩
  have HA : Hid (∀ V two i, i < 2 * n + 1 → ∃ q : Int, Calls Tryz.prog 25 #[.string (shB (gnS a n two i) (2 ^ n)), .string (shB (gV (bN (cW a)) (bN (qD a)) two n ((i : Int) - n)) (2 ^ n))] V fun e w' => e = .returned (.tuple #[.string (shB (gnS a n two (i + 1)) (2 ^ n)), .int .i64 q]) ∧ Below V.heap.size V w') := fun V two i hi => by
    have := r2_Add V (shB (gnS a n two i) (2 ^ n)) (shB (gV (bN (cW a)) (bN (qD a)) two n ((i : Int) - n)) (2 ^ n)) (sh_sz hn (gnS_le he ha hn two (by omega))) (sh_sz hn (gV_le hND two n _))
    rw [gn_step he ha hn two hi] at this
    exact ⟨_, this⟩
  have HNG : Hid (∀ k, gV (bN (cW a)) (bN (qD a)) true n (-k) = gV (bN (cW a)) (bN (qD a)) true n k) := fun k => gV_neg hND n k
  have HS1 := hid (gn_all he ha hn false)
  have HS2 := hid (gn_all he ha hn true)
  have HS01 : Hid (shB (gnS a n false 0) (2 ^ n) = shB (gL (bN (cW a)) (bN (qD a)) false n) (2 ^ n)) := by show _ = _; unfold gnS; rw [sumN, Nat.add_zero]
  have HS02 : Hid (shB (gnS a n true 0) (2 ^ n) = shB (gL (bN (cW a)) (bN (qD a)) true n) (2 ^ n)) := by show _ = _; unfold gnS; rw [sumN, Nat.add_zero]
  have HLESS : Hid (0 < n → ∀ V two, Lay V → ∃ o p q : Int, ∃ old : ByteArray, p ≤ 0 ∧ Calls Tryz.prog (if two = true then 10 else 8) #[.string a, .int .i64 ((n : Int) - 1)] V (fun e w' => e = .returned (.tuple #[.string old, .int .i64 o]) ∧ Below V.heap.size V w') ∧ ∀ V, Calls Tryz.prog 24 #[.string (shB (gL (bN (cW a)) (bN (qD a)) two n) (2 ^ n)), .string old] V fun e w' => e = .returned (.tuple #[.int .i64 p, .int .i64 q]) ∧ Below V.heap.size V w') := fun h0 V two hV => by
    have e1 : (n : Int) - 1 = ((n - 1 : Nat) : Int) := by omega
    rw [e1]
    refine ⟨glE a ((n - 1 : Nat) : Int) 256, _, _, shB (gL (bN (cW a)) (bN (qD a)) two (n - 1)) (2 ^ (n - 1)), gn_less he ha hn two h0, ?_, fun V => r2_Cmp V _ _ (sh_sz hn (gL_le hND two n)) (sh_sz (by omega) (gL_le hND two (n - 1)))⟩
    cases two
    · have := g_OneLateA V a ((n - 1 : Nat) : Int) (by omega) hV
      rw [eb (n - 1) _ (by omega)] at this
      exact this
    · have := g_TwoLateA V a ((n - 1 : Nat) : Int) (by omega) hV
      rw [eb (n - 1) _ (by omega)] at this
      exact this
  have HMORE : Hid (∃ p q : Int, p ≤ 0 ∧ ∀ V, Calls Tryz.prog 24 #[.string (shB (gL (bN (cW a)) (bN (qD a)) false n) (2 ^ n)), .string (shB (gL (bN (cW a)) (bN (qD a)) true n) (2 ^ n))] V fun e w' => e = .returned (.tuple #[.int .i64 p, .int .i64 q]) ∧ Below V.heap.size V w') :=
    ⟨_, _, gn_more he ha hn, fun V => r2_Cmp V _ _ (sh_sz hn (gL_le hND false n)) (sh_sz hn (gL_le hND true n))⟩
  obtain ⟨G1, hG1⟩ : ∃ f, (fun k : Int => shB (gV (bN (cW a)) (bN (qD a)) false n k) (2 ^ n)) = f := ⟨_, rfl⟩
  obtain ⟨G2, hG2⟩ : ∃ f, (fun k : Int => shB (gV (bN (cW a)) (bN (qD a)) true n k) (2 ^ n)) = f := ⟨_, rfl⟩
  obtain ⟨S, hS⟩ : ∃ f, (fun (two : Bool) (i : Nat) => shB (gnS a n two i) (2 ^ n)) = f := ⟨_, rfl⟩
  have g1 : ∀ k, shB (gV (bN (cW a)) (bN (qD a)) false n k) (2 ^ n) = G1 k := fun k => congrFun hG1 k
  have g2 : ∀ k, shB (gV (bN (cW a)) (bN (qD a)) true n k) (2 ^ n) = G2 k := fun k => congrFun hG2 k
  have gs : ∀ two i, shB (gnS a n two i) (2 ^ n) = S two i := fun two i => congrFun (congrFun hS two) i
  have HA1 : Hid (∀ V i, i < 2 * n + 1 → ∃ q : Int, Calls Tryz.prog 25 #[.string (S false i), .string (G1 ((i : Int) - n))] V fun e w' => e = .returned (.tuple #[.string (S false (i + 1)), .int .i64 q]) ∧ Below V.heap.size V w') := fun V i hi => by
    have := HA.out V false i hi
    simp only [g1, gs] at this
    exact this
  have HA2 : Hid (∀ V i, i < 2 * n + 1 → ∃ q : Int, Calls Tryz.prog 25 #[.string (S true i), .string (G2 ((i : Int) - n))] V fun e w' => e = .returned (.tuple #[.string (S true (i + 1)), .int .i64 q]) ∧ Below V.heap.size V w') := fun V i hi => by
    have := HA.out V true i hi
    simp only [g2, gs] at this
    exact this
  have HN2 : Hid (∀ k, G2 (-k) = G2 k) := fun k => by rw [← g2, ← g2, HNG.out]
  simp only [g1] at HV1 HC1
  simp only [g2] at HV2 HC2
  simp only [gs] at HS1 HS2 HS01 HS02
  obtain ⟨L1, hL1⟩ : ∃ L, sortM (glP (gV (bN (cW a)) (bN (qD a)) false n) (2 ^ n) n (gL (bN (cW a)) (bN (qD a)) false n)) = L := ⟨_, rfl⟩
  obtain ⟨L2, hL2⟩ : ∃ L, sortM (glP (gV (bN (cW a)) (bN (qD a)) true n) (2 ^ n) n (gL (bN (cW a)) (bN (qD a)) true n)) = L := ⟨_, rfl⟩
  rw [hL1] at P1 HV1 HW1
  rw [hL2] at P2 HV2 HW2
  obtain ⟨s1, hs1⟩ : ∃ s, shB (gL (bN (cW a)) (bN (qD a)) false n) (2 ^ n) = s := ⟨_, rfl⟩
  obtain ⟨s2, hs2⟩ : ∃ s, shB (gL (bN (cW a)) (bN (qD a)) true n) (2 ^ n) = s := ⟨_, rfl⟩
  have HLS1 : Hid (0 < n → ∀ V, Lay V → ∃ o p q : Int, ∃ old : ByteArray, p ≤ 0 ∧ Calls Tryz.prog 8 #[.string a, .int .i64 ((n : Int) - 1)] V (fun e w' => e = .returned (.tuple #[.string old, .int .i64 o]) ∧ Below V.heap.size V w') ∧ ∀ V, Calls Tryz.prog 24 #[.string s1, .string old] V fun e w' => e = .returned (.tuple #[.int .i64 p, .int .i64 q]) ∧ Below V.heap.size V w') := fun h0 V hV => by
    have := HLESS.out h0 V false hV
    rw [hs1] at this
    exact this
  have HLS2 : Hid (0 < n → ∀ V, Lay V → ∃ o p q : Int, ∃ old : ByteArray, p ≤ 0 ∧ Calls Tryz.prog 10 #[.string a, .int .i64 ((n : Int) - 1)] V (fun e w' => e = .returned (.tuple #[.string old, .int .i64 o]) ∧ Below V.heap.size V w') ∧ ∀ V, Calls Tryz.prog 24 #[.string s2, .string old] V fun e w' => e = .returned (.tuple #[.int .i64 p, .int .i64 q]) ∧ Below V.heap.size V w') := fun h0 V hV => by
    have := HLESS.out h0 V true hV
    rw [hs2] at this
    exact this
  rw [hs1] at P3 HW1 HS01 HMORE
  rw [hs2] at P4 HW2 HS02 HMORE
  have HL := hid hL; have HN := hid hn
  have k1 : decide ((20 : Int) < (a.size : Int)) = false := by simp; omega
  have k4 : decide ((n : Int) < 0) = false := by simp
  have k5 : decide (12 < (n : Int)) = false := by simp; omega
  have wn : IntKind.i64.wrap (-(n : Int)) = -(n : Int) := by rw [IntWalk.i64_in _ ⟨by omega, by omega⟩]
  have q1 : (s1.toList == s1.toList) = true := by simp
  have q2 : (s2.toList == s2.toList) = true := by simp
  have AT0 : Hid (Value.string s1 = .string (S false 0) ∧ Value.string s2 = .string (S true 0)) := ⟨by rw [HS01.out], by rw [HS02.out]⟩
  clear hL ha hn he hND e32 e256 er eb hgo hos hts HNG HLESS hG1 hG2 hS g1 g2 gs HA hL1 hL2 hs1 hs2 HS01 HS02
  go_enter Tryz.func5, Tryz.ntmps5
  go_wp2_with fail
  refine HLV.out.mono ?_; rintro e w1 ⟨rfl, hb1⟩
  have y1 := hid hb1; clear hb1
  go_wp2_with fail
  refine (P1 _ (HL.out.call y1.out)).out.mono ?_; rintro e w2 ⟨⟨x1, rfl, hx1⟩, hb2⟩
  have X1 := hid hx1
  have y2 := hid (bnext y1.out hb2)
  clear hb2 hx1
  go_wp2_with fail
  refine (P2 _ (HL.out.call y2.out)).out.mono ?_; rintro e w3 ⟨⟨x2, rfl, hx2⟩, hb3⟩
  have X2 := hid hx2
  have y3 := hid (bnext y2.out hb3)
  have Y1 := hid (X1.out.call hb3)
  clear hb3 hx2
  go_wp2_with fail
  refine (HW1.out _ _ Y1.out).mono ?_; rintro e w4 ⟨rfl, rfl⟩
  go_wp2_with fail
  refine (HW2.out _ _ X2.out).mono ?_; rintro e w4 ⟨rfl, rfl⟩
  go_wp2_with fail
  go_loopw [9, 10, 11] (fun s9 s10 s11 wr => ∃ i : Nat, s9 = .string (S false i) ∧ s10 = .string (S true i) ∧ s11 = .int .i64 ((i : Int) - n) ∧ i ≤ 2 * n + 1 ∧ Hid (Below w3.heap.size w3 wr)) (fun s9 s10 s11 wr => n + 1 - intOf s11 |>.toNat)
  case atStart => exact ⟨0, AT0.out.1, AT0.out.2, by go_num, Nat.zero_le _, Below.refl _ _⟩
  case round =>
    obtain ⟨i, rfl, rfl, rfl, hi, hB⟩ := hrel
    obtain ⟨k, hk⟩ : ∃ k : Int, (i : Int) - n = k := ⟨_, rfl⟩
    have HK := hid hk
    rw [hk]
    by_cases hlt : i < 2 * n + 1
    · have hk1 : -(n : Int) ≤ k := by omega
      have hk2 : k ≤ n := by omega
      have n12 := HN.out
      have d0 : decide (k ≤ (n : Int)) = true := by simpa using hk2
      have wk : IntKind.i64.wrap (k + 1) = k + 1 := by rw [IntWalk.i64_in _ ⟨by omega, by omega⟩]
      have wm : IntKind.i64.wrap (-k) = -k := by rw [IntWalk.i64_in _ ⟨by omega, by omega⟩]
      have PI1 := fun V => HINT V k (by omega) (by omega)
      have PI2 := fun V => HINT V (-k) (by omega) (by omega)
      have M1 := fun V hV => hid (HM1.out V k hV hk1 hk2)
      have M2 := fun V hV => hid (HM2.out V k hV hk1 hk2)
      have C1 := fun V => hid (HC1.out V k hk1 hk2)
      have C2 := fun V => hid (HC2.out V k hk1 hk2)
      have A1 := fun V => hid (HA1.out V i hlt)
      have A2 := fun V => hid (HA2.out V i hlt)
      rw [hk] at A1 A2
      have V1 := fun W v hv => hid (HV1.out W v hv k)
      have V2 := fun W v hv => hid (HV2.out W v hv k)
      have V3 := fun W v hv => hid (HV2.out W v hv (-k))
      rw [HN2.out] at V3
      obtain ⟨b1, hb1⟩ : ∃ b, G1 k = b := ⟨_, rfl⟩
      obtain ⟨b2, hb2⟩ : ∃ b, G2 k = b := ⟨_, rfl⟩
      obtain ⟨z1, hz1⟩ : ∃ b, zB k = b := ⟨_, rfl⟩
      obtain ⟨z2, hz2⟩ : ∃ b, zB (-k) = b := ⟨_, rfl⟩
      obtain ⟨m1, hm1⟩ : ∃ b, omB a k = b := ⟨_, rfl⟩
      obtain ⟨m2, hm2⟩ : ∃ b, tmB a k = b := ⟨_, rfl⟩
      rw [hb1] at V1 C1 A1
      rw [hb2] at V2 V3 C2 A2
      rw [hz1] at V1 V2 PI1
      rw [hz2] at V3 PI2
      rw [hm1] at M1 C1
      rw [hm2] at M2 C2
      have qb : (b2.toList == b2.toList) = true := by simp
      have IL := hid hlt
      have yr := hid (bnext y3.out hB.out)
      clear hk hlt hk1 hk2 hb1 hb2 hz1 hz2 hm1 hm2 hi
      go_wp2_with fail
      refine (PI1 _).out.mono ?_; rintro e w4 ⟨rfl, hb4⟩
      have f4 := hid (bnext hB.out hb4); clear hb4
      go_wp2_with fail
      refine (M1 _ (HL.out.call (bnext y3.out f4.out))).out.mono ?_; rintro e w5 ⟨rfl, hb5⟩
      have f5 := hid (bnext f4.out hb5); clear hb5
      go_wp2_with fail
      refine (M2 _ (HL.out.call (bnext y3.out f5.out))).out.mono ?_; rintro e w6 ⟨rfl, hb6⟩
      have f6 := hid (bnext f5.out hb6); clear hb6
      go_wp2_with fail
      refine (V1 _ _ (Y1.out.call f6.out)).out.mono ?_; rintro e w7 ⟨rfl, rfl⟩
      go_wp2_with fail
      obtain ⟨p1, r1, hp1, hc1⟩ := (C1 w6).out
      have HC := hid hc1
      have d1 : decide ((0 : Int) < p1) = false := by simp; omega
      clear hp1 hc1
      refine HC.out.mono ?_; rintro e w7 ⟨rfl, hb7⟩
      have f7 := hid (bnext f6.out hb7); clear hb7 HC
      go_wp2_with fail
      refine (V2 _ _ (X2.out.call f7.out)).out.mono ?_; rintro e w8 ⟨rfl, rfl⟩
      go_wp2_with fail
      obtain ⟨p2, r2, hp2, hc2⟩ := (C2 w7).out
      have HC := hid hc2
      have d2 : decide ((0 : Int) < p2) = false := by simp; omega
      clear hp2 hc2
      refine HC.out.mono ?_; rintro e w8 ⟨rfl, hb8⟩
      have f8 := hid (bnext f7.out hb8); clear hb8 HC
      go_wp2_with fail
      refine (V2 _ _ (X2.out.call f8.out)).out.mono ?_; rintro e w9 ⟨rfl, rfl⟩
      go_wp2_with fail
      refine (PI2 _).out.mono ?_; rintro e w9 ⟨rfl, hb9⟩
      have f9 := hid (bnext f8.out hb9); clear hb9
      go_wp2_with fail
      refine (V3 _ _ (X2.out.call f9.out)).out.mono ?_; rintro e w10 ⟨rfl, rfl⟩
      go_wp2_with fail
      refine (V1 _ _ (Y1.out.call f9.out)).out.mono ?_; rintro e w10 ⟨rfl, rfl⟩
      go_wp2_with fail
      obtain ⟨r3, hc3⟩ := (A1 w9).out
      have HC := hid hc3
      clear hc3
      refine HC.out.mono ?_; rintro e w10 ⟨rfl, hb10⟩
      have f10 := hid (bnext f9.out hb10); clear hb10 HC
      go_wp2_with fail
      refine (V2 _ _ (X2.out.call f10.out)).out.mono ?_; rintro e w11 ⟨rfl, rfl⟩
      go_wp2_with fail
      obtain ⟨r4, hc4⟩ := (A2 w10).out
      have HC := hid hc4
      clear hc4
      refine HC.out.mono ?_; rintro e w11 ⟨rfl, hb11⟩
      have f11 := hid (bnext f10.out hb11); clear hb11 HC
      go_wp2_with fail
      go_roundw
      case rel => exact ⟨i + 1, rfl, rfl, by rw [← HK.out]; congr 1; omega, by have := IL.out; omega, f11⟩
      case measure => simp [intOf] <;> (have := IL.out; have := HK.out; omega)
    · have e1 : i = 2 * n + 1 := by omega
      subst e1
      rw [HS1.out, HS2.out]
      have n12 := HN.out
      have d0 : decide (k ≤ (n : Int)) = false := by simp; omega
      have o1 := lit_one
      have yr := hid (bnext y3.out hB.out)
      clear hk hlt hi
      go_wp2_with fail
      refine (P4 _ (HL.out.call yr.out)).out.mono ?_; rintro e w4 ⟨rfl, hb4⟩
      have f4 := hid (bnext hB.out hb4); clear hb4
      go_wp2_with fail
      refine (P3 _ (HL.out.call (bnext y3.out f4.out))).out.mono ?_; rintro e w5 ⟨rfl, hb5⟩
      have f5 := hid (bnext f4.out hb5); clear hb5
      go_wp2_with fail
      refine (HW2.out _ _ (X2.out.call f5.out)).mono ?_; rintro e w6 ⟨rfl, rfl⟩
      go_wp2_with fail
      refine (HW1.out _ _ (Y1.out.call f5.out)).mono ?_; rintro e w6 ⟨rfl, rfl⟩
      by_cases h0 : n = 0
      · have z0 : ((n : Int) == 0) = true := by simp [h0]
        clear h0
        go_wp2_with fail
        go_ret
        exact ⟨rfl, bnext y3.out f5.out⟩
      · have z0 : ((n : Int) == 0) = false := by simp [h0]
        have w1' : IntKind.i64.wrap ((n : Int) - 1) = (n : Int) - 1 := by rw [IntWalk.i64_in _ ⟨by omega, by omega⟩]
        have hpos : 0 < n := by omega
        have HP := hid hpos
        clear h0 hpos
        go_wp2_with fail
        obtain ⟨o2, p2, r2, old2, hp2, hc2, hd2⟩ := HLS2.out HP.out w5 (HL.out.call (bnext y3.out f5.out))
        have HC := hid hc2; have HD2 := hid hd2
        have d2 : decide (p2 ≤ 0) = true := by simpa using hp2
        clear hp2 hc2 hd2
        refine HC.out.mono ?_; rintro e w6 ⟨rfl, hb6⟩
        have f6 := hid (bnext f5.out hb6); clear hb6 HC
        go_wp2_with fail
        obtain ⟨o1', p1, r1, old1, hp1, hc1, hd1⟩ := HLS1.out HP.out w6 (HL.out.call (bnext y3.out f6.out))
        have HC := hid hc1; have HD1 := hid hd1
        have d1 : decide (p1 ≤ 0) = true := by simpa using hp1
        clear hp1 hc1 hd1
        refine HC.out.mono ?_; rintro e w7 ⟨rfl, hb7⟩
        have f7 := hid (bnext f6.out hb7); clear hb7 HC
        go_wp2_with fail
        refine (HD2.out _).mono ?_; rintro e w8 ⟨rfl, hb8⟩
        have f8 := hid (bnext f7.out hb8); clear hb8
        go_wp2_with fail
        refine (HD1.out _).mono ?_; rintro e w9 ⟨rfl, hb9⟩
        have f9 := hid (bnext f8.out hb9); clear hb9
        go_wp2_with fail
        obtain ⟨p3, r3, hp3, hc3⟩ := HMORE.out
        have HC := hid hc3
        have d3 : decide (p3 ≤ 0) = true := by simpa using hp3
        clear hp3 hc3
        refine (HC.out _).mono ?_; rintro e w10 ⟨rfl, hb10⟩
        have f10 := hid (bnext f9.out hb10); clear hb10
        go_wp2_with fail
        go_ret
        exact ⟨rfl, bnext y3.out f10.out⟩
theorem w_GeomNear (w : World) (a : ByteArray) (n : Int) (hL : Lay w) :
    Calls Tryz.prog 5 #[.string a, .int .i64 n] w fun e w' => e = .returned (.bool true) ∧ Below w.heap.size w w' := by
  by_cases h : 20 < a.size ∨ n < 0 ∨ 12 < n
  · exact gr_over w a n hL h
  · obtain ⟨m, rfl⟩ : ∃ m : Nat, n = (m : Nat) := ⟨n.toNat, by omega⟩
    by_cases he : gPE a = 0
    · exact gr_ok w a m hL (by omega) (by omega) he
    · exact gr_err w a m hL (by omega) (by omega) he
end Go.Proofs.YtccalhlhdiapiaaGreatDoor
