/- Texts that the proof rests on, merged: KoA, KoI, Tz, Prz1, Pv1. -/
import Derived.Test.YtckihjfkafdncaaGreatDoorKs9
import Derived.Deep.AppendLies
import Derived.Maps.AppendAt
import Derived.WalkLawsBesides
import Derived.Deep.DeepCutAuto
import Derived.Sort.Walk0
namespace Go.Proofs.YtckihjfkafdncaaGreatDoor
open Go.RowKit
set_option linter.unusedVariables false
set_option linter.unusedSimpArgs false
theorem run_append_any {P : Program} (w : World) (base : Nat) (t ty e : TypeId) (i : TypeInfo) (z : Value) (size bytes : Nat) (ht : P.underlying t = some (.slice e)) (hi : P.info? e = some i) (hz : i.zero = some z)
    (hsize : i.size = size) (hby : i.bytes = bytes) (hzs : z.cells.size = size) (hsz : 0 < size)
    (v : Value) (n : Nat) (xs : List Value) (hown : w.ownsRow base e size v n xs) (hv : v ≠ .slice none 0 0)
    (ao : Option Addr) (m c : Nat) (news : List Value) (hl : news.length = m * size) (hnews : ∀ j u, news[j]? = some u → ∃ ad, ao = some ad ∧ w.cell? (ad.add j) = some u) (h1 : ∀ u ∈ news, u.oneCell' = true)
    (h63 : n + m ≤ maxLen) (hbytes : (n + m) * bytes ≤ 140737488355328) (hbase : base ≤ w.heap.size) :
    ∃ v' w', (Builtin.append_ #[t, t] ty #[v, .slice ao m c]).run P w = .ok v' w' ∧ w'.ownsRow base e size v' (n + m) (xs ++ news) ∧ w.grownBy w' v.ownBlock ∧ v' ≠ .slice none 0 0 := by
  cases ao with
  | some ad =>
    obtain ⟨v', w', hr, k1, k2, k3, -⟩ := run_append_own_at (P := P) w base t ty e i z size bytes ht hi hz hsize hby hzs hsz v n xs hown ad m c news hl (fun j u hu => by obtain ⟨ad', e', hc⟩ := hnews j u hu; cases e'; exact hc) h1 h63 hbytes hbase
    exact ⟨v', w', hr, k1, k2, fun e => hv (k3.1 e).1⟩
  | none =>
    have hn : news = [] := by
      cases news with
      | nil => rfl
      | cons u r => obtain ⟨ad, e, _⟩ := hnews 0 u rfl; cases e
    subst hn
    have hm : m = 0 := by
      rcases Nat.eq_zero_or_pos m with h | h
      · exact h
      · have := Nat.mul_pos h hsz; simp at hl; omega
    subst hm
    refine ⟨v, w, ?_, by simpa using hown, ⟨rfl, rfl, rfl, Nat.le_refl _, fun _ _ _ => rfl⟩, hv⟩
    rcases hown.2 with ⟨e, _⟩ | ⟨g, cap, cur, rfl, hb, hg, h1', h2', h3', h4'⟩
    · exact absurd e hv
    · simp [Builtin.append_, run_underlying ht, sizeOf, typeInfo, hi, Builtin.lenOf, Builtin.firstCells, loadCells, loadCellsFrom, storeCells, h1']
theorem wpList_append_any {P : Program} {w : World} {ops : Array Oper} {rest : List Oper} {o : Oper} {a : Act} {Q : Exit → Act → World → Prop} (hgd : o.guard = none) (s x : Operand) (t : TypeId)
    (ho : o.op = .call { callee := .builtin .append, args := #[s, x], argTypes := #[t, t] })
    (base : Nat) (e : TypeId) (i : TypeInfo) (z : Value) (size bytes : Nat) (ht : P.underlying t = some (.slice e)) (hi : P.info? e = some i) (hz : i.zero = some z)
    (hsize : i.size = size) (hby : i.bytes = bytes) (hzs : z.cells.size = size) (hsz : 0 < size)
    (v : Value) (n : Nat) (xs : List Value) (hs : a.eval s = v) (hown : w.ownsRow base e size v n xs) (hv : v ≠ .slice none 0 0)
    (ao : Option Addr) (m c : Nat) (news : List Value) (hx : a.eval x = .slice ao m c) (hl : news.length = m * size) (hnews : ∀ j u, news[j]? = some u → ∃ ad, ao = some ad ∧ w.cell? (ad.add j) = some u) (h1 : ∀ u ∈ news, u.oneCell' = true)
    (h63 : n + m ≤ maxLen) (hbytes : (n + m) * bytes ≤ 140737488355328) (hbase : base ≤ w.heap.size)
    (h : ∀ v' w', w'.ownsRow base e size v' (n + m) (xs ++ news) → w.grownBy w' v.ownBlock → v' ≠ .slice none 0 0 → wpList P ops Q rest (a.put o.dst v') w') :
    wpList P ops Q (o :: rest) a w := by
  refine wpList_plain hgd fun K hK => ?_
  obtain ⟨v', w', hr, h2, h3, h4⟩ := run_append_any (P := P) w base t o.type e i z size bytes ht hi hz hsize hby hzs hsz v n xs hown hv ao m c news hl hnews h1 h63 hbytes hbase
  unfold Oper.wp execOp
  simp only [ho, resolve, invoke, builtin, Sem.run_bind, Sem.run_pure, Result.andThen_ok, List.map_toArray, List.map_cons, List.map_nil, hs, hx, hr]
  exact hK _ _ (h v' w' h2 h3 h4)
theorem owned_below {w W w3 : World} {t : TypeId} {z : Nat} {v : Value} {m : Nat} {vs : List Value} (h : W.ownsRow w.heap.size t z v m vs) (h0 : Below w.heap.size w W) (hg : W.grownBy w3 v.ownBlock) : Below w.heap.size w w3 := by
  refine h0.trans ⟨hg.os, hg.tape, hg.output, hg.size, fun j hj => hg.block j (Nat.lt_of_lt_of_le hj h0.size) fun e => ?_⟩
  have := (h.lt j e.symm).1
  omega
end Go.Proofs.YtckihjfkafdncaaGreatDoor
namespace Go.Proofs.YtckihjfkafdncaaGreatDoor
open Go.RowKit Go.Shelf
open Go.Lib (decDigits nDigits)
set_option linter.unusedVariables false
set_option linter.unusedSimpArgs false
theorem info_intO : (Tryz.prog.info? 3).map (fun i => (i.zero, i.size, i.bytes)) = some (some (.int .i64 0), 1, 8) := by kernel_rfl
set_option maxRecDepth 100000 in
set_option maxHeartbeats 1000000 in
theorem k_OwnIO (w : World) (v : Value) (l : List Int) (hv : Row w v (zs l)) (hl : l.length ≤ 1000000) :
    Calls Tryz.prog 15 #[v] w fun e w' => (∃ u, e = .returned u ∧ w'.ownsRow w.heap.size 3 1 u l.length (zs l)) ∧ Below w.heap.size w w' := by
  obtain ⟨i0, hi, hz0, hz1, hz2⟩ := info_parts info_intO
  obtain ⟨a, c, rfl, q1, q2, q3⟩ := hv.ex
  rw [zs_length] at *
  have SRC : Hid (∀ j u, (zs l)[j]? = some u → ∃ ad, a = some ad ∧ (w.alloc (.cells #[] 3)).cell? (ad.add j) = some u) := fun j u hu => by
    obtain ⟨g, o, rfl, hg, hc⟩ := q3 j u hu
    refine ⟨_, rfl, ?_⟩
    rw [Addr.add_lit]
    exact (((Below.refl w.heap.size w).alloc (Nat.le_refl _) (.cells #[] 3)).cell (p := ⟨g, o + j, none⟩) hg).trans hc
  have HO := hid (show (w.alloc (.cells #[] 3)).ownsRow w.heap.size 3 1 (.slice (some ⟨w.heap.size, 0, none⟩) 0 0) 0 [] from World.ownsRow_made _ _ 0 (Nat.le_refl _) (by unfold maxLen; omega) rfl)
  have HB := hid ((Below.refl w.heap.size w).alloc (Nat.le_refl _) (.cells #[] 3))
  obtain ⟨n, hn⟩ : ∃ n, l.length = n := ⟨_, rfl⟩
  have HN := hid (show (zs l).length = n * 1 from by rw [zs_length, hn]; omega)
  rw [hn] at hl q1 ⊢
  clear hv q3 hn
  go_enter Tryz.func15, Tryz.ntmps15
  go_wp2_with (at_builtin; refine wpList_append_any rfl _ _ 24 rfl w.heap.size 3 i0 (.int .i64 0) 1 8 Tryz.underlying24 hi hz0 hz1 hz2 rfl (by decide) (.slice (some ⟨w.heap.size, 0, none⟩) 0 0) 0 [] rfl HO.out (by intro e; cases e) a n c (zs l) rfl HN.out SRC.out (zs_one l) (by unfold maxLen; omega) (by omega) (by simp) ?_; intro v1 w1 hown1 hg1 hne1; have O1 := hid hown1; have G1 := hid hg1; clear hown1 hg1 hne1)
  go_ret
  refine ⟨⟨_, rfl, ?_⟩, owned_below HO.out HB.out G1.out⟩
  have := O1.out
  simpa using this
end Go.Proofs.YtckihjfkafdncaaGreatDoor
namespace Go.Proofs.YtckihjfkafdncaaGreatDoor
open Go.RowKit Go.Shelf
set_option linter.unusedVariables false
set_option linter.unusedSimpArgs false
theorem ownsRow_keep {w w' : World} {base : Nat} {e : TypeId} {size : Nat} {v : Value} {n : Nat} {xs : List Value} (h : w.ownsRow base e size v n xs) (hb : ∀ g, v.ownBlock = some g → w'.heap[g]? = w.heap[g]?) : w'.ownsRow base e size v n xs := by
  refine ⟨h.1, ?_⟩
  rcases h.2 with h0 | ⟨g, cap, cur, rfl, h1, h2, h3⟩
  · exact .inl h0
  · exact .inr ⟨g, cap, cur, rfl, h1, (hb g rfl).trans h2, h3⟩
structure TwoZ (B : Nat) (W : World) (v1 v2 : Value) (ts os : List Int) : Prop where
  o1 : W.ownsRow B 3 1 v1 ts.length (zs ts)
  o2 : W.ownsRow B 3 1 v2 os.length (zs os)
  ne : ∀ g, v1.ownBlock = some g → v2.ownBlock ≠ some g
theorem TwoZ.nil (B : Nat) (W : World) : TwoZ B W (.slice none 0 0) (.slice none 0 0) [] [] := ⟨World.ownsRow_nil _ _ _ _, World.ownsRow_nil _ _ _ _, fun g h => by simp [Value.ownBlock] at h⟩
theorem TwoZ.below {B : Nat} {W W' : World} {v1 v2 : Value} {ts os : List Int} (h : TwoZ B W v1 v2 ts os) (hb : Below W.heap.size W W') : TwoZ B W' v1 v2 ts os := ⟨owns_call h.o1 hb, owns_call h.o2 hb, h.ne⟩
theorem TwoZ.app1 {B : Nat} {W W' : World} {v1 v1' v2 : Value} {ts os : List Int} {x : Int} (h : TwoZ B W v1 v2 ts os) (hown : W'.ownsRow B 3 1 v1' (ts.length + 1) (zs ts ++ [.int .i64 x])) (hg : W.grownBy W' v1.ownBlock) (hat : v1'.ownBlock = v1.ownBlock ∨ v1'.ownBlock = some W.heap.size) : TwoZ B W' v1' v2 (ts ++ [x]) os := by
  refine ⟨by rw [zs_append, List.length_append]; exact hown, ownsRow_keep h.o2 fun g hg' => hg.block g (h.o2.lt g hg').2 (fun e => h.ne g e.symm hg'), fun g hg1 hg2 => ?_⟩
  rcases hat with e | e
  · exact h.ne g (e ▸ hg1) hg2
  · rw [e] at hg1
    have := (h.o2.lt g hg2).2
    injection hg1 with hg1
    omega
theorem TwoZ.app2 {B : Nat} {W W' : World} {v1 v2 v2' : Value} {ts os : List Int} {x : Int} (h : TwoZ B W v1 v2 ts os) (hown : W'.ownsRow B 3 1 v2' (os.length + 1) (zs os ++ [.int .i64 x])) (hg : W.grownBy W' v2.ownBlock) (hat : v2'.ownBlock = v2.ownBlock ∨ v2'.ownBlock = some W.heap.size) : TwoZ B W' v1 v2' ts (os ++ [x]) := by
  refine ⟨ownsRow_keep h.o1 fun g hg' => hg.block g (h.o1.lt g hg').2 (fun e => h.ne g hg' e.symm), by rw [zs_append, List.length_append]; exact hown, fun g hg1 hg2 => ?_⟩
  rcases hat with e | e
  · exact h.ne g hg1 (e ▸ hg2)
  · rw [e] at hg2
    have := (h.o1.lt g hg1).2
    injection hg2 with hg2
    omega
theorem news_blk {W : World} {g : Nat} {x : Value} {t : TypeId} (h : Blk W g #[x] t) : ∀ j u, [x][j]? = some u → W.cell? ((⟨g, 0, none⟩ : Addr).add j) = some u := fun j u hj => by
  match j, hj with
  | 0, hj =>
    simp at hj
    subst hj
    rw [Addr.add_lit]
    exact h.cell 0
end Go.Proofs.YtckihjfkafdncaaGreatDoor
namespace Go.Proofs.YtckihjfkafdncaaGreatDoor
open Go.RowKit Go.Shelf
open Go.Lib (decDigits nDigits)
set_option linter.unusedVariables false
set_option linter.unusedSimpArgs false
def rzC (l : List Int) : List Int := l.map (fun x => x.tmod 1000000)
theorem rzC_take {l : List Int} {i : Nat} {x : Int} (h : l[i]? = some x) : rzC (l.take (i + 1)) = rzC (l.take i) ++ [x.tmod 1000000] := by
  unfold rzC
  rw [List.take_add_one, h, Option.toList_some, List.map_append]; rfl
theorem tmod_rng (x : Int) : -1000000 < x.tmod 1000000 ∧ x.tmod 1000000 < 1000000 :=
  ⟨Int.lt_tmod_of_pos x (by omega), Int.tmod_lt_of_pos x (by omega)⟩
def mxL (l : List ByteArray) : Nat := l.foldl (fun m b => max m b.size) 0
theorem mxL_take {l : List ByteArray} {i : Nat} {b : ByteArray} (h : l[i]? = some b) : mxL (l.take (i + 1)) = max (mxL (l.take i)) b.size := by
  unfold mxL
  rw [List.take_add_one, h, Option.toList_some, List.foldl_append]; rfl
theorem zs_setI (l : List Int) (i : Nat) (x : Int) : (zs l).set i (.int .i64 x) = zs (l.set i x) := by simp [zs, List.map_set]
theorem mxL_le {l : List ByteArray} {m : Nat} (h : ∀ b ∈ l, b.size ≤ m) : mxL l ≤ m := by
  unfold mxL
  have key : ∀ (l : List ByteArray) (k : Nat), k ≤ m → (∀ b ∈ l, b.size ≤ m) → l.foldl (fun m b => max m b.size) k ≤ m := by
    intro l
    induction l with
    | nil => intro k hk _; exact hk
    | cons b r ih =>
      intro k hk h
      rw [List.foldl_cons]
      exact ih _ (Nat.max_le.2 ⟨hk, h b (List.mem_cons_self ..)⟩) (fun b hb => h b (List.mem_cons_of_mem _ hb))
  exact key l 0 (Nat.zero_le _) h
set_option maxRecDepth 100000 in
set_option maxHeartbeats 8000000 in
theorem w_PeakRaised (w : World) (v u : Value) (c : List Int) (a : ByteArray) (b : List ByteArray) (wh bw sh : Int) (hv : Row w v (zs c)) (hu : Row w u (strs b)) (hc : c.length ≤ maxLen) (ha : a.size ≤ maxLen) (hb : ∀ x ∈ b, x.size ≤ maxLen)
    (hw1 : -9223372036854775808 ≤ wh) (hw2 : wh ≤ 9223372036854775807) (hb1 : -9223372036854775808 ≤ bw) (hb2 : bw ≤ 9223372036854775807) (hL : LayB w) :
    Calls Tryz.prog 4 #[v, .string a, u, .int .i64 wh, .int .i64 bw, .int .i64 sh] w fun e w' => e = .returned (.bool true) ∧ Below w.heap.size w w' := by
  have HLV := hid (w_lives25 w hL)
  unfold maxLen at hc ha hb
  obtain ⟨s, cp, rfl, q1, q2, q3⟩ := hv.openZ
  obtain ⟨t, cq, rfl, p1, p2, p3⟩ := hu.openS
  obtain ⟨L, hLL⟩ : ∃ n, c.length = n := ⟨_, rfl⟩
  obtain ⟨N, hN⟩ : ∃ n, b.length = n := ⟨_, rfl⟩
  have HV := hid hv; have HU := hid hu; have Q3 := hid q3; have P3 := hid p3; have HLL := hid hLL; have HNN := hid hN; have HL := hid hL; have HB := hid hb
  rw [hLL] at HV q1 hc ⊢
  rw [hN] at HU p1 ⊢
  clear hv hu q3 p3 hLL hN hL hb
  by_cases c0 : L = 0
  · have t0 : ((L : Int) == 0) = true := by rw [beq_iff_eq]; omega
    clear c0 hc ha hw1 hw2 hb1 hb2
    go_enter Tryz.func4, Tryz.ntmps4
    go_wp2_with fail
    refine HLV.out.mono ?_; rintro e w1 ⟨rfl, hb1⟩
    go_wp2_with fail
    go_ret
    exact ⟨rfl, hb1⟩
  have t0 : ((L : Int) == 0) = false := by rw [beq_eq_false_iff_ne]; omega
  by_cases c1 : 40 < L
  · have t1 : decide ((40 : Int) < (L : Int)) = true := decide_eq_true (by omega)
    clear c0 c1 hc ha hw1 hw2 hb1 hb2
    go_enter Tryz.func4, Tryz.ntmps4
    go_wp2_with fail
    refine HLV.out.mono ?_; rintro e w1 ⟨rfl, hb1⟩
    go_wp2_with fail
    go_ret
    exact ⟨rfl, hb1⟩
  have t1 : decide ((40 : Int) < (L : Int)) = false := decide_eq_false (by omega)
  by_cases c2 : 20 < a.size
  · have t2 : decide ((20 : Int) < (a.size : Int)) = true := decide_eq_true (by omega)
    clear c0 c1 c2 hc ha hw1 hw2 hb1 hb2
    go_enter Tryz.func4, Tryz.ntmps4
    go_wp2_with fail
    refine HLV.out.mono ?_; rintro e w1 ⟨rfl, hb1⟩
    go_wp2_with fail
    go_ret
    exact ⟨rfl, hb1⟩
  have t2 : decide ((20 : Int) < (a.size : Int)) = false := decide_eq_false (by omega)
  by_cases c3 : 40 < N
  · have t3 : decide ((40 : Int) < (N : Int)) = true := decide_eq_true (by omega)
    clear c0 c1 c2 c3 hc ha hw1 hw2 hb1 hb2
    go_enter Tryz.func4, Tryz.ntmps4
    go_wp2_with fail
    refine HLV.out.mono ?_; rintro e w1 ⟨rfl, hb1⟩
    go_wp2_with fail
    go_ret
    exact ⟨rfl, hb1⟩
  have t3 : decide ((40 : Int) < (N : Int)) = false := decide_eq_false (by omega)
  obtain ⟨i0, hi, hz0, hz1, hz2⟩ := info_parts info_intO
  obtain ⟨W, hWlt, PW⟩ := k_PickU wh L (by omega) (by omega) hw1 hw2
  obtain ⟨Bb, hBlt, PB⟩ := k_PickU bw 1000 (by omega) (by omega) hb1 hb2
  have PW := hid PW; have PB := hid PB; have HWL := hid hWlt; have HBL := hid hBlt
  have HA := hid (show a.size ≤ 100000 by omega)
  have HN40 := hid (show N ≤ 40 by omega); have HL40 := hid (show L ≤ 40 by omega); have HL1 := hid (show 1 ≤ L by omega)
  clear c0 c1 c2 c3 hc ha hw1 hw2 hb1 hb2 hWlt hBlt
  go_enter Tryz.func4, Tryz.ntmps4
  go_wp2_with fail
  refine HLV.out.mono ?_; rintro e w1 ⟨rfl, hb1⟩
  have y1 := hid hb1; clear hb1
  go_wp2_with fail
  obtain ⟨w1', hw1'⟩ : ∃ x : World, x = w1 := ⟨_, rfl⟩
  go_loop [13, 14] (fun s13 s14 => ∃ i : Nat, s14 = .int .i64 (i : Nat) ∧ s13 = .int .i64 (mxL (b.take i) : Nat) ∧ i ≤ N ∧ Hid (∀ (j : Nat) (x : ByteArray), j < i → b[j]? = some x → x.size ≤ 60)) (fun s13 s14 => N - (intOf s14).toNat)
  case atStart => exact ⟨0, rfl, rfl, Nat.zero_le _, fun j x hj => absurd hj (by omega)⟩
  case round =>
    clear hw1'
    obtain ⟨i, rfl, rfl, hi', hI⟩ := hrel
    by_cases hlt : i < N
    · obtain ⟨x, hx⟩ : ∃ x, b[i]? = some x := ⟨_, List.getElem?_eq_getElem (by rw [HNN.out]; exact hlt)⟩
      obtain ⟨g, o, rfl, hg, hc⟩ := P3.out i x hx
      have c1 := (y1.out.cell (p := ⟨g, o + i, none⟩) hg).trans hc
      have hmx := hid (mxL_take hx)
      have HX := hid hx
      have f0 : (0 : Int) ≤ (i : Int) := by omega
      have f1 : (i : Int) < (N : Int) := by omega
      have wi : IntKind.i64.wrap ((i : Int) + 1) = ((i + 1 : Nat) : Int) := by have := HN40.out; rw [IntWalk.i64_in _ ⟨by omega, by omega⟩]; omega
      obtain ⟨m, hm⟩ : ∃ m, mxL (b.take i) = m := ⟨_, rfl⟩
      rw [hm] at hmx ⊢
      by_cases h6 : 60 < x.size
      · have q1 : decide ((60 : Int) < (x.size : Int)) = true := decide_eq_true (by omega)
        clear hx hc hg h6 hm hi'
        go_wp2_with fail
        go_ret
        exact ⟨rfl, y1.out⟩
      · have q1 : decide ((60 : Int) < (x.size : Int)) = false := decide_eq_false (by omega)
        have HLE := hid (show x.size ≤ 60 by omega)
        have IL := hid hlt
        clear hx hc hg h6 hm hi' hlt
        go_wp2_with fail
        go_round
        case rel => exact ⟨i + 1, by go_num, by rw [hmx.out]; congr 1; omega, IL.out, fun j y hj hy => by
          rcases Nat.lt_or_ge j i with h | h
          · exact hI.out j y h hy
          · obtain rfl : j = i := by omega
            rw [HX.out] at hy; cases hy; exact HLE.out⟩
        case measure => simp [intOf] <;> (have := IL.out; omega)
    · obtain rfl : i = N := by omega
      have q1 : decide ((i : Int) < (i : Int)) = false := by simp
      have hT : b.take i = b := List.take_of_length_le (by rw [HNN.out]; exact Nat.le_refl _)
      rw [hT]
      have hB60 : ∀ x ∈ b, x.size ≤ 60 := fun x hx => by
        obtain ⟨j, hj⟩ := List.getElem?_of_mem hx
        exact hI.out j x (by rw [← HNN.out]; exact (List.getElem?_eq_some_iff.1 hj).1) hj
      have hM := mxL_le hB60
      obtain ⟨M, hMM⟩ : ∃ m, mxL b = m := ⟨_, rfl⟩
      rw [hMM] at hM ⊢
      have HB60 := hid hB60; have HM := hid hM
      have hsr := tmod_rng sh
      obtain ⟨S, hS⟩ : ∃ S, sh.tmod 1000000 = S := ⟨_, rfl⟩
      rw [hS] at hsr
      have HSR := hid hsr; have HS := hid hS
      have PB2 : Hid (∀ V, Calls Tryz.prog 14 #[.int .i64 bw, .int .i64 1000] V fun e w' => e = .returned (.int .i64 (Bb : Nat)) ∧ V = w') := PB.out
      clear hlt hi' hI hT hB60 hM hMM hsr hS
      go_wp2_with fail
      refine (PW.out _).mono ?_; rintro e w2 ⟨rfl, rfl⟩
      go_wp2_with fail
      refine (PB2.out _).mono ?_; rintro e w2 ⟨rfl, rfl⟩
      go_wp2_with fail
      rw [HS.out]
      go_loopw [15, 16, 17, 18] (fun s15 s16 s17 s18 wr => ∃ k : Nat, s17 = .int .i64 (k : Nat) ∧ k ≤ L ∧ Hid (TwoZ w.heap.size wr s15 s16 (rzC (c.take k)) ((rzC (c.take k)).map (· + S))) ∧ Hid (Below w.heap.size w wr)) (fun s15 s16 s17 s18 wr => L - (intOf s17).toNat)
      case atStart => exact ⟨0, rfl, Nat.zero_le _, TwoZ.nil _ _, y1⟩
      case round =>
        obtain ⟨k, rfl, hk', hT, hB⟩ := hrel
        by_cases hlt : k < L
        · obtain ⟨x, hx⟩ : ∃ x, c[k]? = some x := ⟨_, List.getElem?_eq_getElem (by rw [HLL.out]; exact hlt)⟩
          obtain ⟨g, o, rfl, hg, hc⟩ := Q3.out k x hx
          have c1 := (hB.out.cell (p := ⟨g, o + k, none⟩) hg).trans hc
          have htk := hid (rzC_take hx)
          have hxr := tmod_rng x
          have f0 : (0 : Int) ≤ (k : Int) := by omega
          have f1 : (k : Int) < (L : Int) := by omega
          have wk : IntKind.i64.wrap ((k : Int) + 1) = ((k + 1 : Nat) : Int) := by have := HL40.out; rw [IntWalk.i64_in _ ⟨by omega, by omega⟩]; omega
          have wxs : IntKind.i64.wrap (x.tmod 1000000 + S) = x.tmod 1000000 + S := by have := HSR.out; rw [IntWalk.i64_in _ ⟨by omega, by omega⟩]
          have hts : (rzC (c.take k)).length = k := by unfold rzC; rw [List.length_map, List.length_take, HLL.out]; omega
          have IL := hid hlt
          obtain ⟨ts, hts2⟩ : ∃ ts, rzC (c.take k) = ts := ⟨_, rfl⟩
          rw [hts2] at hT hts htk
          have hos : (ts.map (· + S)).length = k := by rw [List.length_map]; exact hts
          obtain ⟨os, hos2⟩ : ∃ os, ts.map (· + S) = os := ⟨_, rfl⟩
          rw [hos2] at hT hos
          have HTS := hid hts; have HOS := hid hos; have HOS2 := hid hos2
          have d1 : Below wr.heap.size wr (wr.alloc (.cells #[.int .i64 (x.tmod 1000000)] 3)) := (Below.refl _ _).alloc (Nat.le_refl _) _
          have T1 := hid (hT.out.below d1)
          have b1 := hid (hB.out.trans (d1.mono hB.out.size))
          have k1 := hid (Blk.new wr #[.int .i64 (x.tmod 1000000)] 3)
          clear hx hc hg hxr hts hts2 hos hos2 d1 hlt hk'
          go_wp2_with (first
            | (at_builtin; refine wpList_append_own_at _ rfl _ _ 24 rfl w.heap.size 3 i0 (.int .i64 0) 1 8 Tryz.underlying24 hi hz0 hz1 hz2 rfl (by decide) _ os.length (zs os) rfl (T3.out.below ((Below.refl _ _).alloc (Nat.le_refl _) (.cells #[.int .i64 (x.tmod 1000000 + S)] 3))).o2 ⟨w3.heap.size, 0, none⟩ 1 1 [.int .i64 (x.tmod 1000000 + S)] rfl rfl (news_blk (Blk.new w3 #[.int .i64 (x.tmod 1000000 + S)] 3)) (by simp [Value.oneCell']) (by have := HOS.out; have := HL40.out; have := IL.out; unfold maxLen; omega) (by have := HOS.out; have := HL40.out; have := IL.out; omega) (by have := b3.out.size; simp; omega) ?_
               intro v2' w5 hown hgrow _ hat
               have T5 := hid ((T3.out.below ((Below.refl _ _).alloc (Nat.le_refl _) (.cells #[.int .i64 (x.tmod 1000000 + S)] 3))).app2 hown hgrow hat)
               have b5 := hid (owned_below (T3.out.below ((Below.refl _ _).alloc (Nat.le_refl _) (.cells #[.int .i64 (x.tmod 1000000 + S)] 3))).o2 (b3.out.alloc b3.out.size (.cells #[.int .i64 (x.tmod 1000000 + S)] 3)) hgrow)
               clear hown hgrow hat)
            | (at_builtin; refine wpList_append_own_at _ rfl _ _ 24 rfl w.heap.size 3 i0 (.int .i64 0) 1 8 Tryz.underlying24 hi hz0 hz1 hz2 rfl (by decide) _ ts.length (zs ts) rfl T1.out.o1 ⟨wr.heap.size, 0, none⟩ 1 1 [.int .i64 (x.tmod 1000000)] rfl rfl (news_blk k1.out) (by simp [Value.oneCell']) (by have := HTS.out; have := HL40.out; have := IL.out; unfold maxLen; omega) (by have := HTS.out; have := HL40.out; have := IL.out; omega) (by exact b1.out.size) ?_
               intro v1' w3 hown hgrow _ hat
               have T3 := hid (T1.out.app1 hown hgrow hat)
               have b3 := hid (owned_below T1.out.o1 b1.out hgrow)
               clear hown hgrow hat))
          go_roundw
          case rel => exact ⟨k + 1, by go_num, IL.out, hid (by rw [htk.out, List.map_append, HOS2.out]; exact T5.out), b5⟩
          case measure => simp [intOf] <;> (have := IL.out; omega)
        · obtain rfl : k = L := by omega
          have q1 : decide ((k : Int) < (k : Int)) = false := by simp
          have hTk : c.take k = c := List.take_of_length_le (by rw [HLL.out]; exact Nat.le_refl _)
          rw [hTk] at hT
          obtain ⟨ts, hts2⟩ : ∃ ts, rzC c = ts := ⟨_, rfl⟩
          rw [hts2] at hT
          have htl : ts.length = k := by rw [← hts2]; unfold rzC; rw [List.length_map]; exact HLL.out
          have htr : ∀ x ∈ ts, -1000000 < x ∧ x < 1000000 := fun x hx => by
            rw [← hts2] at hx
            obtain ⟨y, -, rfl⟩ := List.mem_map.1 hx
            exact tmod_rng y
          have R1 := hid (Row.of_owns hT.out.o1); have R2 := hid (Row.of_owns hT.out.o2)
          have HTL := hid htl; have HTR := hid htr
          obtain ⟨a1, k1, rfl⟩ := owns_ex hT.out.o1
          obtain ⟨a2, k2, rfl⟩ := owns_ex hT.out.o2
          rw [List.length_map, htl] at R2 ⊢
          rw [htl] at R1
          have PO := fun V hV => hid (k_OwnIO V (.slice a1 k k1) ts hV (by rw [htl]; have := HL40.out; omega))
          rw [htl] at PO
          clear hTk hT hts2 htl htr hlt hk'
          go_wp2_with fail
          refine (PO _ R1.out).out.mono ?_; rintro e w5 ⟨⟨u5, rfl, hu5⟩, hb5⟩
          have y5 := hid (bnext hB.out hb5)
          have B5 := hid hb5
          have R5 := hid (R1.out.call hb5)
          have O5 := hid hu5
          obtain ⟨a5, k5, rfl⟩ := owns_ex hu5
          clear hb5 hu5
          go_wp2_with fail
          refine (PO _ R5.out).out.mono ?_; rintro e w6 ⟨⟨u6, rfl, hu6⟩, hb6⟩
          have y6 := hid (bnext y5.out hb6)
          have B6 := hid (show Below wr.heap.size wr w6 from bnext B5.out hb6)
          have O5b := hid (owns_call O5.out hb6)
          have O6 := hid hu6
          obtain ⟨a6, k6, rfl⟩ := owns_ex hu6
          have HK1 := HL1.out
          obtain ⟨m, rfl⟩ : ∃ m, k = m + 1 := ⟨k - 1, by omega⟩
          obtain ⟨g5, c5, e5⟩ := ownsRow_succ O5b.out
          obtain ⟨g6, c6, e6⟩ := ownsRow_succ O6.out
          simp only [Value.slice.injEq, true_and] at e5 e6
          obtain ⟨rfl, rfl⟩ := e5
          obtain ⟨rfl, rfl⟩ := e6
          obtain ⟨o1, o2, o3, o4, -, -, -⟩ := own_slot O5b.out
          obtain ⟨n1, n2, n3, n4, -, -, -⟩ := own_slot O6.out
          obtain ⟨tW, htW⟩ : ∃ x, ts[W]? = some x := ⟨_, List.getElem?_eq_getElem (by rw [HTL.out]; exact HWL.out)⟩
          have d5 := o4 W _ (zs_get htW)
          have d6 := n4 W _ (zs_get htW)
          have f5 := o3 W
          have f6 := n3 W
          have hbw := HTR.out tW (List.mem_of_getElem? htW)
          have hg56 := O5.out.lt g5 rfl
          have hlt56 : g5 < w5.heap.size := hg56.2
          have ne1 : (g5 = g6) = False := eq_false (by omega)
          have ne2 : (g6 = g5) = False := eq_false (by omega)
          have b1 : (0 : Int) ≤ (W : Int) := by omega
          have b2 : (W : Int) < ((m + 1 : Nat) : Int) := by have := HWL.out; omega
          have b3 : (W : Int) < (m : Int) + 1 := by have := HWL.out; omega
          have wb : IntKind.i64.wrap (tW + (Bb : Int)) = tW + (Bb : Int) := by have := HBL.out; rw [IntWalk.i64_in _ ⟨by omega, by omega⟩]
          have wm1 : IntKind.i64.wrap (2000000 + (M : Int)) = 2000000 + (M : Int) := by have := HM.out; rw [IntWalk.i64_in _ ⟨by omega, by omega⟩]
          have wm2 : IntKind.i64.wrap (2000000 + (M : Int) + 1) = 2000000 + (M : Int) + 1 := by have := HM.out; rw [IntWalk.i64_in _ ⟨by omega, by omega⟩]
          have HTW := hid htW; have HO1 := hid o1; have HN1 := hid n1; have H56 := hid hlt56
          clear hb6 hu6 o1 o2 o3 o4 n1 n2 n3 n4 htW hbw hg56 hlt56 HK1
          go_wp2_with fail
          have BW : Below wr.heap.size wr ((w6.setCell ⟨g5, W, none⟩ (.int .i64 (tW + (Bb : Int)))).setCell ⟨g6, W, none⟩ (.int .i64 (2000000 + (M : Int) + 1))) :=
            (B6.out.setCell (p := ⟨g5, W, none⟩) HO1.out _).setCell (p := ⟨g6, W, none⟩) (Nat.le_trans B5.out.size HN1.out) _
          have Q5 := own_set O5b.out W (.int .i64 (tW + (Bb : Int)))
          have Q5' : ((w6.setCell ⟨g5, W, none⟩ (.int .i64 (tW + (Bb : Int)))).setCell ⟨g6, W, none⟩ (.int .i64 (2000000 + (M : Int) + 1))).ownsRow _ _ _ _ _ _ := ownsRow_keep Q5 (fun g hg => by
            simp only [Value.ownBlock, Option.some.injEq] at hg
            exact Below.heap_setCell _ _ _ _ (by have := H56.out; have := HN1.out; simp; omega))
          have Q6' : (w6.setCell ⟨g5, W, none⟩ (.int .i64 (tW + (Bb : Int)))).ownsRow _ _ _ _ _ _ := ownsRow_keep O6.out (fun g hg => by
            simp only [Value.ownBlock, Option.some.injEq] at hg
            exact Below.heap_setCell _ _ _ _ (by have := H56.out; have := HN1.out; simp; omega))
          have Q6 := own_set Q6' W (.int .i64 (2000000 + (M : Int) + 1))
          rw [zs_setI] at Q5' Q6
          obtain ⟨W2, hW2⟩ : ∃ X, ((w6.setCell ⟨g5, W, none⟩ (.int .i64 (tW + (Bb : Int)))).setCell ⟨g6, W, none⟩ (.int .i64 (2000000 + (M : Int) + 1))) = X := ⟨_, rfl⟩
          rw [hW2] at BW Q5' Q6 ⊢
          have RZ := rz_all (c := ts) (d := ts.map (· + S)) (e := ts.set W (tW + (Bb : Int))) (f := ts.set W (2000000 + (M : Int) + 1)) (w := W) (s := S) (by_ := (Bb : Int)) (top := 2000000 + (M : Int) + 1) ⟨by rw [HTL.out]; exact HWL.out, HTR.out, HSR.out, ⟨by omega, by have := HBL.out; omega⟩, ⟨by omega, by have := HM.out; omega⟩, rfl, by rw [List.getD_eq_getElem?_getD, HTW.out]; rfl, rfl⟩ a b
          obtain ⟨z1, z2, z3, z4, z5, z6, z7, z8, z9⟩ := RZ
          have hb8 : ∀ x ∈ b, x.size ≤ 100000000 := fun x hx => by have := HB60.out x hx; omega
          have P1 := fun V v u hv hu hV => hid (fd_Peak V v u ts a b hv hu HA.out hb8 hV)
          have P2 := fun V v u hv hu hV => hid (fd_Peak V v u (ts.map (· + S)) a b hv hu HA.out hb8 hV)
          have P3 := fun V v u hv hu hV => hid (fd_Peak V v u (ts.set W (tW + (Bb : Int))) a b hv hu HA.out hb8 hV)
          have P4 := fun V v u hv hu hV => hid (fd_Peak V v u (ts.set W (2000000 + (M : Int) + 1)) a b hv hu HA.out hb8 hV)
          rw [z1, z4] at P2
          rw [z2, z5] at P3
          rw [z3, z6] at P4
          rw [HTL.out] at z9
          obtain ⟨Z, hZ⟩ : ∃ z, (pkA (ts.set W (tW + (Bb : Int))) a b).1 = z := ⟨_, rfl⟩
          obtain ⟨U, hU⟩ : ∃ z, (pkA (ts.set W (2000000 + (M : Int) + 1)) a b).1 = z := ⟨_, rfl⟩
          obtain ⟨X, hX⟩ : ∃ z, (pkA ts a b).1 = z := ⟨_, rfl⟩
          obtain ⟨I, hI⟩ : ∃ z, (pkA ts a b).2 = z := ⟨_, rfl⟩
          obtain ⟨E, hE⟩ : ∃ z, pkE ts a b = z := ⟨_, rfl⟩
          rw [hX, hI, hE] at P1 P2
          rw [hZ, hI, hE] at P3
          rw [hU, hI, hE] at P4
          rw [hZ, hU, hX, hI, hE] at z7
          rw [hI, hE] at z8
          rw [hI, hZ, hX, hU] at z9
          have V1 := hid (R1.out.call BW); have V2 := hid (R2.out.call BW); have V3 := hid (Row.of_owns Q5'); have V4 := hid (Row.of_owns Q6)
          have Y2 := hid (bnext hB.out BW)
          have Z7 := hid z7; have Z8 := hid z8; have Z9 := hid z9
          clear BW Q5 Q5' Q6 Q6' hW2 z1 z2 z3 z4 z5 z6 z7 z8 z9 hb8 hZ hU hX hI hE d5 d6 f5 f6 ne1 ne2 b1 b2 b3 wb wm1 wm2
          refine (P1 _ _ _ V1.out (HU.out.call Y2.out) (HL.out.call Y2.out).l).out.mono ?_; rintro e x1 ⟨rfl, hb1⟩
          have Y3 := hid (bnext Y2.out hb1)
          have V2 := hid (V2.out.call hb1); have V3 := hid (V3.out.call hb1); have V4 := hid (V4.out.call hb1)
          clear hb1
          go_wp2_with fail
          refine (P2 _ _ _ V2.out (HU.out.call Y3.out) (HL.out.call Y3.out).l).out.mono ?_; rintro e x2 ⟨rfl, hb1⟩
          have Y4 := hid (bnext Y3.out hb1)
          have V3 := hid (V3.out.call hb1); have V4 := hid (V4.out.call hb1)
          clear hb1
          go_wp2_with fail
          refine (P3 _ _ _ V3.out (HU.out.call Y4.out) (HL.out.call Y4.out).l).out.mono ?_; rintro e x3 ⟨rfl, hb1⟩
          have Y5 := hid (bnext Y4.out hb1)
          have V4 := hid (V4.out.call hb1)
          clear hb1
          go_wp2_with fail
          refine (P4 _ _ _ V4.out (HU.out.call Y5.out) (HL.out.call Y5.out).l).out.mono ?_; rintro e x4 ⟨rfl, hb1⟩
          have Y6 := hid (bnext Y5.out hb1)
          clear hb1
          cases I
          · obtain ⟨rfl, rfl, rfl⟩ := Z7.out (.inr rfl)
            by_cases hE0 : E = 0
            · subst hE0
              go_wp2_with fail
              go_ret
              exact ⟨rfl, Y6.out⟩
            · have t9 : (E == 0) = false := by rw [beq_eq_false_iff_ne]; exact hE0
              clear hE0
              go_wp2_with fail
              all_goals
                go_ret
                exact ⟨rfl, Y6.out⟩
          · have hE0 : E = 0 := Classical.byContradiction fun k => by have := Z8.out k; cases this
            subst hE0
            obtain ⟨k1, k2, k3, k4⟩ := Z9.out rfl
            subst k2
            have t8 : decide (0 ≤ X) = true := decide_eq_true k3
            have t7 : decide (X < (m : Int) + 1) = true := decide_eq_true (by omega)
            have t7' : decide (X < ((m + 1 : Nat) : Int)) = true := decide_eq_true (by omega)
            by_cases hzx : Z = X
            · subst hzx
              clear k1 k3 k4
              go_wp2_with fail
              go_ret
              exact ⟨rfl, Y6.out⟩
            · have t9 : (Z == X) = false := by rw [beq_eq_false_iff_ne]; exact hzx
              obtain rfl : Z = (W : Int) := by rcases k1 with k | k; exact absurd k hzx; exact k
              clear k1 k3 k4 hzx
              go_wp2_with fail
              go_ret
              exact ⟨rfl, Y6.out⟩
end Go.Proofs.YtckihjfkafdncaaGreatDoor
namespace Go.Proofs.YtckihjfkafdncaaGreatDoor
open Go.RowKit Go.Shelf
open Go.Lib (decDigits nDigits)
set_option linter.unusedVariables false
set_option linter.unusedSimpArgs false
theorem rowZ_made (w : World) (n b : Nat) (hb : w.heap.size = b) (hL : n ≤ 1000) : Row (w.alloc (.cells (madeCells #[.int .i64 0] n) 3)) (.slice (some ⟨b, 0, none⟩) n n) (zs (List.replicate n 0)) := by
  subst hb
  refine Row.of_blk (Blk.new w _ _) (by simp) (by unfold maxLen; omega) (fun i x h => ?_) (Nat.le_refl _) (by unfold maxLen; omega)
  have hi := (List.getElem?_eq_some_iff.1 h).1
  simp at hi
  rw [← h]
  unfold madeCells zs
  simp [hi, Nat.mod_one]
theorem row_noneZ (w : World) : Row w (.slice none 0 0) (zs []) := ⟨none, 0, rfl, Nat.le_refl _, by unfold maxLen; omega, fun i x h => by simp [zs] at h⟩
theorem row_noneS (w : World) : Row w (.slice none 0 0) (strs []) := ⟨none, 0, rfl, Nat.le_refl _, by unfold maxLen; omega, fun i x h => by simp [strs] at h⟩
theorem pn25_a : pkA [3, 5] halfB [⟨#[48, 48, 48, 49]⟩, ⟨#[49]⟩] = (0, true) ∧ pkE [3, 5] halfB [⟨#[48, 48, 48, 49]⟩, ⟨#[49]⟩] = 0 := by decide +kernel
theorem pn25_b : pkA [3] halfB [⟨#[48]⟩] = (0, false) ∧ pkE [3] halfB [⟨#[48]⟩] = 0 := by decide +kernel
theorem pn25_g : pkA [3, 5] halfB [⟨#[49]⟩] = (0, false) ∧ pkE [3, 5] halfB [⟨#[49]⟩] = 16 := by decide +kernel
theorem pn25_h : pkA [] halfB [] = (0, false) ∧ pkE [] halfB [] = 2 := by decide +kernel
theorem pn25_i : pkA [3] ⟨#[49]⟩ [⟨#[49]⟩] = (0, false) ∧ pkE [3] ⟨#[49]⟩ [⟨#[49]⟩] = 2 := by decide +kernel
theorem pn25_r : pkA (List.replicate 257 0) halfB [] = (0, false) ∧ pkE (List.replicate 257 0) halfB [] = 4 := by decide +kernel
theorem pn25_j : fltB halfB 2 3 = ⟨#[51, 47, 52]⟩ ∧ fltE halfB 2 3 = 0 := by decide +kernel
theorem pn25_p : fltB halfB 2 0 = ⟨#[]⟩ ∧ fltE halfB 2 0 = 2 := by decide +kernel
theorem pn25_k : ffB ⟨#[50, 47, 51]⟩ 2 true = ⟨#[57, 47, 52]⟩ ∧ ffE ⟨#[50, 47, 51]⟩ 2 true = 0 := by decide +kernel
theorem pn25_l : ffB ⟨#[50, 47, 51]⟩ 1 false = ⟨#[57, 47, 52]⟩ ∧ ffE ⟨#[50, 47, 51]⟩ 1 false = 0 := by decide +kernel
theorem pn25_m : ffB ⟨#[48]⟩ 1 true = ⟨#[]⟩ ∧ ffE ⟨#[48]⟩ 1 true = 6 := by decide +kernel
theorem pn25_q : ffB halfB 10001 true = ⟨#[]⟩ ∧ ffE halfB 10001 true = 2 := by decide +kernel
theorem pn25_s : ffB ⟨#[49, 47, 49, 48]⟩ 2000 false = ⟨#[]⟩ ∧ ffE ⟨#[49, 47, 49, 48]⟩ 2000 false = 5 := by decide +kernel
theorem pn25_n : flE (List.replicate 33 0) halfB 8 = 5 ∧ flR (List.replicate 33 0) halfB 8 = [] := by
  have h : flE (List.replicate 33 0) halfB 8 = 5 := by decide +kernel
  exact ⟨h, if_neg (by rw [h]; decide)⟩
theorem pn25_o : flE [1] halfB 33 = 2 ∧ flR [1] halfB 33 = [] := by
  have h : flE [1] halfB 33 = 2 := by decide +kernel
  exact ⟨h, if_neg (by rw [h]; decide)⟩
set_option maxRecDepth 100000 in
set_option maxHeartbeats 8000000 in
theorem w_PeakNames (w : World) (hL : LayB w) :
    Calls Tryz.prog 6 #[] w fun e w' => e = .returned (.bool true) ∧ Below w.heap.size w w' := by
  have HLV := hid (w_lives25 w hL)
  have HL := hid hL
  have Pa := fun V v u hv hu hV => hid (fd_Peak V v u [3, 5] halfB [⟨#[48, 48, 48, 49]⟩, ⟨#[49]⟩] hv hu (by decide) (by decide) hV)
  rw [pn25_a.1, pn25_a.2] at Pa
  have Pb := fun V v u hv hu hV => hid (fd_Peak V v u [3] halfB [⟨#[48]⟩] hv hu (by decide) (by decide) hV)
  rw [pn25_b.1, pn25_b.2] at Pb
  have Pg := fun V v u hv hu hV => hid (fd_Peak V v u [3, 5] halfB [⟨#[49]⟩] hv hu (by decide) (by decide) hV)
  rw [pn25_g.1, pn25_g.2] at Pg
  have Ph := fun V v u hv hu hV => hid (fd_Peak V v u [] halfB [] hv hu (by decide) (by decide) hV)
  rw [pn25_h.1, pn25_h.2] at Ph
  have Pi := fun V v u hv hu hV => hid (fd_Peak V v u [3] ⟨#[49]⟩ [⟨#[49]⟩] hv hu (by decide) (by decide) hV)
  rw [pn25_i.1, pn25_i.2] at Pi
  have Pr := fun V v u hv hu hV => hid (fd_Peak V v u (List.replicate 257 0) halfB [] hv hu (by decide) (by decide) hV)
  rw [pn25_r.1, pn25_r.2] at Pr
  have Pj := fun V hV => hid (fd_Late V halfB 2 3 (by decide) hV)
  rw [pn25_j.1, pn25_j.2] at Pj
  have Pp := fun V hV => hid (fd_Late V halfB 2 0 (by decide) hV)
  rw [pn25_p.1, pn25_p.2] at Pp
  have Pk := fun V hV => hid (fd_Factor V ⟨#[50, 47, 51]⟩ 2 true (by decide) hV)
  rw [pn25_k.1, pn25_k.2] at Pk
  have Pl := fun V hV => hid (fd_Factor V ⟨#[50, 47, 51]⟩ 1 false (by decide) hV)
  rw [pn25_l.1, pn25_l.2] at Pl
  have Pm := fun V hV => hid (fd_Factor V ⟨#[48]⟩ 1 true (by decide) hV)
  rw [pn25_m.1, pn25_m.2] at Pm
  have Pq := fun V hV => hid (fd_Factor V halfB 10001 true (by decide) hV)
  rw [pn25_q.1, pn25_q.2] at Pq
  have Ps := fun V hV => hid (fd_Factor V ⟨#[49, 47, 49, 48]⟩ 2000 false (by decide) hV)
  rw [pn25_s.1, pn25_s.2] at Ps
  have Pn := fun V v hv hV => hid (fd_Law V v (List.replicate 33 0) halfB 8 hv (by decide) hV)
  rw [pn25_n.1, pn25_n.2] at Pn
  have Po := fun V v hv hV => hid (fd_Law V v [1] halfB 33 hv (by decide) hV)
  rw [pn25_o.1, pn25_o.2] at Po
  unfold halfB at Pa Pb Pg Ph Pr Pj Pp Pq Pn Po
  have hm33 : ∀ W : World, (Instr.makeSlice 24 (.int .i64 33) (.int .i64 33)).run Tryz.prog W = .ok (.slice (some ⟨W.heap.size, 0, none⟩) 33 33) (W.alloc (.cells (madeCells #[.int .i64 0] 33) 3)) := make_ints 33 (by omega)
  have hm257 : ∀ W : World, (Instr.makeSlice 24 (.int .i64 257) (.int .i64 257)).run Tryz.prog W = .ok (.slice (some ⟨W.heap.size, 0, none⟩) 257 257) (W.alloc (.cells (madeCells #[.int .i64 0] 257) 3)) := make_ints 257 (by omega)
  clear hL
  go_enter Tryz.func6, Tryz.ntmps6
  go_wp2_with fail
  refine HLV.out.mono ?_; rintro e w0 ⟨rfl, hb0⟩
  have y0 := hid hb0; clear hb0
  go_wp2_with fail
  have A1 := hid ((Below.refl w0.heap.size w0).alloc (Nat.le_refl _) (.cells #[.int .i64 3, .int .i64 5] 3))
  have C1 := hid (A1.out.alloc A1.out.size (.cells #[.string ⟨#[48, 48, 48, 49]⟩, .string ⟨#[49]⟩] 33))
  have R1 := hid ((rowZ_is w0 [3, 5] _ 2 w0.heap.size rfl rfl rfl (by omega)).call ((Below.refl _ _).alloc (Nat.le_refl _) (.cells #[.string ⟨#[48, 48, 48, 49]⟩, .string ⟨#[49]⟩] 33)))
  have S1 := hid (rowB_is (w0.alloc (.cells #[.int .i64 3, .int .i64 5] 3)) [⟨#[48, 48, 48, 49]⟩, ⟨#[49]⟩] _ 2 (w0.heap.size + 1) rfl (by simp) rfl (by omega))
  refine (Pa _ _ _ R1.out S1.out (HL.out.call (bnext y0.out C1.out)).l).out.mono ?_; rintro e w1 ⟨rfl, hb1⟩
  have y1 := hid (bnext y0.out (bnext C1.out hb1)); clear hb1
  go_wp2_with fail
  have A2 := hid ((Below.refl w1.heap.size w1).alloc (Nat.le_refl _) (.cells #[.int .i64 3] 3))
  have C2 := hid (A2.out.alloc A2.out.size (.cells #[.string ⟨#[48]⟩] 33))
  have R2 := hid ((rowZ_is w1 [3] _ 1 w1.heap.size rfl rfl rfl (by omega)).call ((Below.refl _ _).alloc (Nat.le_refl _) (.cells #[.string ⟨#[48]⟩] 33)))
  have S2 := hid (rowB_is (w1.alloc (.cells #[.int .i64 3] 3)) [⟨#[48]⟩] _ 1 (w1.heap.size + 1) rfl (by simp) rfl (by omega))
  refine (Pb _ _ _ R2.out S2.out (HL.out.call (bnext y1.out C2.out)).l).out.mono ?_; rintro e w2 ⟨rfl, hb2⟩
  have y2 := hid (bnext y1.out (bnext C2.out hb2)); clear hb2
  go_wp2_with fail
  have A3 := hid ((Below.refl w2.heap.size w2).alloc (Nat.le_refl _) (.cells #[.int .i64 3, .int .i64 5] 3))
  have C3 := hid (A3.out.alloc A3.out.size (.cells #[.string ⟨#[49]⟩] 33))
  have R3 := hid ((rowZ_is w2 [3, 5] _ 2 w2.heap.size rfl rfl rfl (by omega)).call ((Below.refl _ _).alloc (Nat.le_refl _) (.cells #[.string ⟨#[49]⟩] 33)))
  have S3 := hid (rowB_is (w2.alloc (.cells #[.int .i64 3, .int .i64 5] 3)) [⟨#[49]⟩] _ 1 (w2.heap.size + 1) rfl (by simp) rfl (by omega))
  refine (Pg _ _ _ R3.out S3.out (HL.out.call (bnext y2.out C3.out)).l).out.mono ?_; rintro e w3 ⟨rfl, hb3⟩
  have y3 := hid (bnext y2.out (bnext C3.out hb3)); clear hb3
  go_wp2_with fail
  refine (Ph _ _ _ (row_noneZ _) (row_noneS _) (HL.out.call y3.out).l).out.mono ?_; rintro e w4 ⟨rfl, hb4⟩
  have y4 := hid (bnext y3.out hb4); clear hb4
  go_wp2_with fail
  have A5 := hid ((Below.refl w4.heap.size w4).alloc (Nat.le_refl _) (.cells #[.int .i64 3] 3))
  have C5 := hid (A5.out.alloc A5.out.size (.cells #[.string ⟨#[49]⟩] 33))
  have R5 := hid ((rowZ_is w4 [3] _ 1 w4.heap.size rfl rfl rfl (by omega)).call ((Below.refl _ _).alloc (Nat.le_refl _) (.cells #[.string ⟨#[49]⟩] 33)))
  have S5 := hid (rowB_is (w4.alloc (.cells #[.int .i64 3] 3)) [⟨#[49]⟩] _ 1 (w4.heap.size + 1) rfl (by simp) rfl (by omega))
  refine (Pi _ _ _ R5.out S5.out (HL.out.call (bnext y4.out C5.out)).l).out.mono ?_; rintro e w5 ⟨rfl, hb5⟩
  have y5 := hid (bnext y4.out (bnext C5.out hb5)); clear hb5
  go_wp2_with fail
  refine (Pj _ (HL.out.call y5.out).l).out.mono ?_; rintro e w6 ⟨rfl, hb6⟩
  have y6 := hid (bnext y5.out hb6); clear hb6
  go_wp2_with fail
  refine (Pk _ (HL.out.call y6.out).l).out.mono ?_; rintro e w7 ⟨rfl, hb7⟩
  have y7 := hid (bnext y6.out hb7); clear hb7
  go_wp2_with fail
  refine (Pl _ (HL.out.call y7.out).l).out.mono ?_; rintro e w8 ⟨rfl, hb8⟩
  have y8 := hid (bnext y7.out hb8); clear hb8
  go_wp2_with fail
  refine (Pm _ (HL.out.call y8.out).l).out.mono ?_; rintro e w9 ⟨rfl, hb9⟩
  have y9 := hid (bnext y8.out hb9); clear hb9
  go_wp2_with fail
  have A10 := hid ((Below.refl w9.heap.size w9).alloc (Nat.le_refl _) (.cells (madeCells #[.int .i64 0] 33) 3))
  refine (Pn _ _ (rowZ_made w9 33 _ rfl (by omega)) (HL.out.call (bnext y9.out A10.out))).out.mono ?_; rintro e w10 ⟨⟨un, rfl, hn⟩, hb10⟩
  have y10 := hid (bnext y9.out (bnext A10.out hb10)); clear hb10
  obtain ⟨an, cn, rfl, -⟩ := hn.ex; clear hn
  simp only [List.length_nil]
  go_wp2_with fail
  have A11 := hid ((Below.refl w10.heap.size w10).alloc (Nat.le_refl _) (.cells #[.int .i64 1] 3))
  refine (Po _ _ (rowZ_is w10 [1] _ 1 w10.heap.size rfl rfl rfl (by omega)) (HL.out.call (bnext y10.out A11.out))).out.mono ?_; rintro e w11 ⟨⟨uo, rfl, ho⟩, hb11⟩
  have y11 := hid (bnext y10.out (bnext A11.out hb11)); clear hb11
  obtain ⟨ao, co, rfl, -⟩ := ho.ex; clear ho
  simp only [List.length_nil]
  go_wp2_with fail
  refine (Pp _ (HL.out.call y11.out).l).out.mono ?_; rintro e w12 ⟨rfl, hb12⟩
  have y12 := hid (bnext y11.out hb12); clear hb12
  go_wp2_with fail
  refine (Pq _ (HL.out.call y12.out).l).out.mono ?_; rintro e w13 ⟨rfl, hb13⟩
  have y13 := hid (bnext y12.out hb13); clear hb13
  go_wp2_with fail
  have A14 := hid ((Below.refl w13.heap.size w13).alloc (Nat.le_refl _) (.cells (madeCells #[.int .i64 0] 257) 3))
  refine (Pr _ _ _ (rowZ_made w13 257 _ rfl (by omega)) (row_noneS _) (HL.out.call (bnext y13.out A14.out)).l).out.mono ?_; rintro e w14 ⟨rfl, hb14⟩
  have y14 := hid (bnext y13.out (bnext A14.out hb14)); clear hb14
  go_wp2_with fail
  refine (Ps _ (HL.out.call y14.out).l).out.mono ?_; rintro e w15 ⟨rfl, hb15⟩
  have y15 := hid (bnext y14.out hb15); clear hb15
  go_wp2_with fail
  go_ret
  exact ⟨rfl, y15.out⟩
end Go.Proofs.YtckihjfkafdncaaGreatDoor
