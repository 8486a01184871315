/- Texts that the proof rests on, merged: Fd7, Fd5, Fd13, Fd15, Rt8, Fd16, PkP, Lits, Pv0, KoI, Pp1, Pp2. -/
import Derived.Test.YtckihjfkafdncaaGreatDoorKt10
import Derived.IntWalk
import Derived.Deep.DeepCutAuto
set_option linter.unusedVariables false
set_option linter.unusedSimpArgs false
set_option linter.unusedSectionVars false
set_option maxRecDepth 100000
set_option maxHeartbeats 8000000
namespace Go.Proofs.YtckihjfkafdncaaGreatDoor
open Go.RowKit
open Go.Shelf
open Go.Lib (decDigits nDigits)
attribute [local go_sem] Oper.semAt_some
def NzOk (c : List Int) (a : ByteArray) (bs : List ByteArray) (pre : List (Int × Int)) : Prop:=∀ (k : Nat) (x : Int × Int), pre[k]? = some x → ∃ n b, c[k]? = some n ∧ bs[k]? = some b ∧ x.1 = (k : Nat) ∧ nz1 false a n b = some x.2
def nzNext (c : List Int) (a : ByteArray) (bs : List ByteArray) (pre : List (Int × Int)) (x : Int × Int) : Prop:=∃ n b, c[pre.length]? = some n ∧ bs[pre.length]? = some b ∧ x.1 = (pre.length : Nat) ∧ nz1 false a n b = some x.2
def nzStop (c : List Int) (a : ByteArray) (bs : List ByteArray) (pre : List (Int × Int)) : Prop:=pre.length = c.length ∨ ∃ n b, c[pre.length]? = some n ∧ bs[pre.length]? = some b ∧ nz1 false a n b = none
theorem NzOk.snoc {c : List Int} {a : ByteArray} {bs : List ByteArray} {pre : List (Int × Int)} {x : Int × Int} (h : NzOk c a bs pre) (hx : nzNext c a bs pre x) : NzOk c a bs (pre ++ [x]):=fun k y hy => by
 rw [List.getElem?_append] at hy
 split at hy
 ·exact h k y hy
 ·by_cases h0 : k - pre.length = 0
  ·rw [h0] at hy
   cases hy
   obtain rfl : k = pre.length:=by omega
   exact hx
  ·obtain ⟨q, hq⟩ : ∃ q, k - pre.length = q + 1:=⟨k - pre.length - 1, by omega⟩
   rw [hq] at hy; simp at hy
theorem fd_noisy (w : World) (s : Option Addr) (n k : Nat) (a : ByteArray) (t : Option Addr) (n2 k2 : Nat) :
 Calls Tryz.prog 43 #[.slice s n k, .string a, .slice t n2 k2] w fun e w' => e = .returned (.func (.func 91) #[] #[.pointer (some ⟨w.heap.size, 0, none⟩), .pointer (some ⟨w.heap.size + 1, 0, none⟩), .pointer (some ⟨w.heap.size + 1 + 1, 0, none⟩)]) ∧ w' = ((w.alloc (.cells #[.slice s n k] 24)).alloc (.cells #[.string a] 22)).alloc (.cells #[.slice t n2 k2] 30):=by
 go_enter Tryz.func43, Tryz.ntmps43
 go_wp2_with fail
 go_ret
 exact ⟨rfl, rfl⟩
theorem noisy_feeds {Kp : World → World → Prop} (n : Nat) (hn : 1 ≤ n) (w : World) (bc ba bb : Nat) (vc vb : Value) (c : List Int) (a : ByteArray) (bs : List ByteArray) (ha : a.size ≤ 100000) (hbs : ∀ b ∈ bs, b.size ≤ 256) (hlen : c.length = bs.length) (hcl : c.length ≤ 256) (hcr : ∀ x ∈ c, -1125899906842624 ≤ x ∧ x ≤ 1125899906842624)
 (hKr : ∀ W, Kp W W) (hKt : ∀ {A B C : World}, Kp A B → Kp B C → Kp A C)
 (hread : ∀ W1 W2, Below w.heap.size w W1 → Kp W1 W2 → W2.cell? ⟨bc, 0, none⟩ = some vc ∧ W2.cell? ⟨ba, 0, none⟩ = some (.string a) ∧ W2.cell? ⟨bb, 0, none⟩ = some vb ∧ Row W2 vc (zs c) ∧ Row W2 vb (strs bs) ∧ Lay W2) (hKb : ∀ W1 W2, Below W1.heap.size W1 W2 → Kp W1 W2) :
 Feeds n Tryz.prog 91 #[.pointer (some ⟨bc, 0, none⟩), .pointer (some ⟨ba, 0, none⟩), .pointer (some ⟨bb, 0, none⟩)] (fun x : Int × Int => #[.int .i64 x.1, .int .i64 x.2]) Kp (nzNext c a bs) (fun xs => NzOk c a bs xs ∧ nzStop c a bs xs) (fun _ => True) w:=by
 intro l J Jx W hW hJ hJx hY h0
 have HR:=hid hread; have HY:=hid hY; have HW:=hid hW; have HJ:=hid hJ; have HJx:=hid hJx
 have HKr:=hid hKr; have HKt : Hid (∀ A B C : World, Kp A B → Kp B C → Kp A C):=fun A B C h k => hKt h k
 have HKb:=hid hKb
 have HA:=hid ha; have HBS:=hid hbs; have HCR:=hid hcr; have HLN:=hid hlen
 obtain ⟨c0, -, -, r0, -, -⟩:=hread W W hW (hKr W)
 obtain ⟨s, cp, rfl, q1, q2, -⟩:=r0.openZ
 obtain ⟨N, hN⟩ : ∃ N, c.length = N:=⟨_, rfl⟩
 have HN:=hid hN
 rw [hN] at HR c0 q1 hcl
 clear hread hY hW hJ hJx hKr hKt hKb ha hbs hcr hlen r0 hN
 refine callsIn_of_wp Tryz.func91 rfl trivial ?_ rfl
 simp only [Tryz.ntmps91, List.size_toArray, List.length_cons, List.length_nil, Nat.reduceAdd, Nat.reduceSub, Array.replicate_succ, Array.replicate_zero, List.push_toArray, List.append_toArray, List.nil_append, List.cons_append]
 gi_wp2
 gi_loopw [11] (fun ii wr => ∃ p : List (Int × Int), ii = .int .i64 (p.length : Nat) ∧ p.length ≤ N ∧ Hid (NzOk c a bs p) ∧ Hid (J p wr) ∧ Hid (Kp W wr)) (fun ii wr => N - (intOf ii).toNat)
 case atStart => exact ⟨[], rfl, Nat.zero_le _, fun k x hx => by simp at hx, h0, HKr.out W⟩
 case round =>
  obtain ⟨pre, rfl, hp, hO, hJ, hK⟩:=hrel
  obtain ⟨i, hi⟩ : ∃ i, pre.length = i:=⟨_, rfl⟩
  have HI:=hid hi
  rw [hi] at hp ⊢
  clear hi
  by_cases hlt : i < N
  ·obtain ⟨x, hx⟩ : ∃ x, c[i]? = some x:=⟨_, List.getElem?_eq_getElem (by rw [HN.out]; exact hlt)⟩
   obtain ⟨b, hb⟩ : ∃ b, bs[i]? = some b:=⟨_, List.getElem?_eq_getElem (by have:=HLN.out; have:=HN.out; omega)⟩
   obtain ⟨-, c1, c2, hrow, hrowb, hLay⟩:=HR.out W wr HW.out hK.out
   obtain ⟨a', c', e, -, -, hcell⟩:=hrow.openZ
   simp only [Value.slice.injEq] at e
   obtain ⟨rfl, -, rfl⟩:=e
   obtain ⟨g, o, rfl, hg, hc⟩:=hcell i x hx
   obtain ⟨a2, k2, rfl, -, -, hcell2⟩:=hrowb.openS
   obtain ⟨g2, o2, rfl, hg2, hc2⟩:=hcell2 i b hb
   obtain ⟨N2, hN2⟩ : ∃ N2, bs.length = N2:=⟨_, rfl⟩
   have hi2 : i < N2:=by have:=HLN.out; have:=HN.out; omega
   rw [hN2] at c2
   have q4:=fun V hV => hid (g_One V a b HA.out (by have:=HBS.out b (List.mem_of_getElem? hb); omega) hV)
   obtain ⟨t, ht⟩ : ∃ t, oT a b = t:=⟨_, rfl⟩
   obtain ⟨ge, hge⟩ : ∃ y, gE a b = y:=⟨_, rfl⟩
   rw [ht, hge] at q4
   have hvb:=oT_bound a b (by have:=HBS.out b (List.mem_of_getElem? hb); omega)
   rw [ht] at hvb
   have hz1 : nz1 false a x b = if t.1 = true then some (x + t.2.1) else none:=by rw [← ht]; unfold nz1; simp only [Bool.false_eq_true, if_false]
   have hxr:=HCR.out x (List.mem_of_getElem? hx)
   have HX:=hid hx; have HB:=hid hb; have HZ1:=hid hz1; have HLay:=hid hLay; have HVB:=hid hvb; have HXR:=hid hxr
   have b1 : (0 : Int) ≤ (i : Int):=by omega
   have b2 : (i : Int) < (N : Int):=by omega
   have b3 : (i : Int) < (N2 : Int):=by omega
   have wi : IntKind.i64.wrap ((i : Int) + 1) = (i : Int) + 1:=by rw [IntWalk.i64_in _ ⟨by omega, by omega⟩]
   clear hx hb hrow hrowb hLay hcell hcell2 ht hge hvb hz1 hxr hN2 hi2
   obtain ⟨d, v, u⟩:=t
   simp only [d3] at q4
   gi_wp2_with fail
   refine wpIn_wide.2 ?_
   refine held_plain [0, 1, 2, 3, 4] 7 (fun W' => W'.cell? ⟨ba, 0, none⟩ = some (.string a) ∧ W'.cell? ⟨bb, 0, none⟩ = some (.slice (some ⟨g2, o2, none⟩) N2 k2) ∧ W'.cell? ⟨g2, o2 + i, none⟩ = some (.string b)) (by kernel_rfl) (by kernel_rfl) (by kernel_rfl) (by kernel_rfl) ⟨c1, c2, hc2⟩ ?_
   iterate 5
    refine ⟨_, rfl, ?_⟩
    apply Exists.intro
    refine ⟨.inl ⟨by rfl, ?_⟩, ?_⟩
    ·(intro W' hW'; obtain ⟨q1, q2, q3⟩:=hW'; go_simp; try (with_reducible rfl))
    (dsimp only [Act.put]; try simp only [List.setIfInBounds_toArray, List.set_cons_zero, List.set_cons_succ])
   refine held_two (i:=5) (j:=9) (by kernel_rfl) (by rfl) (by rfl) (by rfl) (by rfl) ?_ ?_
   ·go_wp2_with fail
    refine (q4 _ (HLay.out.call (Below.refl _ _).drew)).out.mono ?_; rintro e w1 ⟨rfl, hb1⟩
    have y1:=hid (show Below wr.heap.size wr w1 from (Below.refl _ _).drew.trans hb1)
    have s0:=(y1.out.cell (cell_lt c1)).trans c1
    have s1:=(y1.out.cell (cell_lt c2)).trans c2
    have s2:=(y1.out.cell (cell_lt hc2)).trans hc2
    clear hb1
    go_wp2_with fail
    refine ⟨⟨s0, s1, s2⟩, ?_⟩
    refine held_more (is:=[6, 7, 8]) (g:=3) (by kernel_rfl) rfl ⟨s0, s1, s2⟩ (by kernel_rfl) ?_
    iterate 3
     refine ⟨_, rfl, ?_⟩
     apply Exists.intro
     refine ⟨.inl ⟨by rfl, ?_⟩, ?_⟩
     ·(intro W' hW'; obtain ⟨q1, q2, q3⟩:=hW'; go_simp; try (with_reducible rfl))
     (dsimp only [Act.put]; try simp only [List.setIfInBounds_toArray, List.set_cons_zero, List.set_cons_succ])
    refine held_one (i:=9) (by kernel_rfl) (by rfl) (by rfl) ?_
    go_wp2_with fail
    have a1:=((Below.refl w1.heap.size w1).alloc (Nat.le_refl _) (.cells #[.bool false, .int .i64 0, .int .i64 0] 94))
    have bk:=Blk.new w1 #[.bool false, .int .i64 0, .int .i64 0] 94
    obtain ⟨dB, hdB⟩ : ∃ n, w1.heap.size = n:=⟨_, rfl⟩
    have HDB : Hid (wr.heap.size ≤ dB):=by show wr.heap.size ≤ dB; rw [← hdB]; exact y1.out.size
    obtain ⟨w2, hw2⟩ : ∃ w2, w1.alloc (.cells #[.bool false, .int .i64 0, .int .i64 0] 94) = w2:=⟨_, rfl⟩
    rw [hw2] at a1 bk ⊢
    rw [hdB] at a1 bk ⊢
    have BK:=hid bk
    have y2:=hid (y1.out.trans (a1.mono HDB.out))
    clear s0 s1 s2 a1 bk hdB hw2
    have s0:=(y2.out.cell (cell_lt c1)).trans c1
    have s1:=(y2.out.cell (cell_lt c2)).trans c2
    have s2:=(y2.out.cell (cell_lt hc2)).trans hc2
    refine ⟨⟨s0, s1, s2⟩, ?_⟩
    refine held_one (i:=10) (by kernel_rfl) (by rfl) (by rfl) ?_
    have r0 : w2.cell? ⟨dB, 0, none⟩ = some (.bool false):=BK.out.cell 0
    have r1 : w2.cell? ⟨dB, 1, none⟩ = some (.int .i64 0):=BK.out.cell 1
    have r2 : w2.cell? ⟨dB, 2, none⟩ = some (.int .i64 0):=BK.out.cell 2
    have f0:=BK.out.free 0
    have f1:=BK.out.free 1
    have f2:=BK.out.free 2
    clear s0 s1 s2
    go_wp2_with fail
    have bk3 : Blk (((w2.setCell ⟨dB, 0, none⟩ (.bool d)).setCell ⟨dB, 1, none⟩ (.int .i64 v)).setCell ⟨dB, 2, none⟩ (.int .i64 u)) dB #[.bool d, .int .i64 v, .int .i64 u] 94:=by
     have:=((BK.out.set 0 (.bool d)).set 1 (.int .i64 v)).set 2 (.int .i64 u)
     simpa using this
    have y3 : Below wr.heap.size wr (((w2.setCell ⟨dB, 0, none⟩ (.bool d)).setCell ⟨dB, 1, none⟩ (.int .i64 v)).setCell ⟨dB, 2, none⟩ (.int .i64 u)) :=
     have hge : wr.heap.size ≤ dB:=HDB.out
     ((y2.out.setCell hge _).setCell hge _).setCell hge _
    obtain ⟨V, hV⟩ : ∃ V, ((w2.setCell ⟨dB, 0, none⟩ (.bool d)).setCell ⟨dB, 1, none⟩ (.int .i64 v)).setCell ⟨dB, 2, none⟩ (.int .i64 u) = V:=⟨_, rfl⟩
    rw [hV] at bk3 y3 ⊢
    have s0:=(y3.cell (cell_lt c1)).trans c1
    have s1:=(y3.cell (cell_lt c2)).trans c2
    have s2:=(y3.cell (cell_lt hc2)).trans hc2
    have BV:=hid bk3; have YV:=hid y3
    clear hV bk3 y3 r0 r1 r2 f0 f1 f2
    refine ⟨⟨s0, s1, s2⟩, ?_⟩
    refine held_one (i:=11) (by kernel_rfl) (by rfl) (by rfl) ?_
    go_wp2_with fail
    refine ⟨⟨s0, s1, s2⟩, ?_⟩
    refine wpAnyH_done (by kernel_rfl) ?_ _
    simp only [Only]
    have e0 : V.cell? ⟨dB, 0, none⟩ = some (.bool d):=BV.out.cell 0
    have e1 : V.cell? ⟨dB, 1, none⟩ = some (.int .i64 v):=BV.out.cell 1
    have e2 : V.cell? ⟨dB, 2, none⟩ = some (.int .i64 u):=BV.out.cell 2
    have ew : IntKind.i64.wrap (x + v) = x + v:=by
     have h1:=HVB.out; have h2:=HXR.out
     rw [IntWalk.i64_in _ ⟨by omega, by omega⟩]
    clear s0 s1 s2
    have hJV : J pre V:=HJ.out pre wr V none hJ.out ⟨YV.out.os, YV.out.tape, YV.out.output, YV.out.size, fun k hk _ => YV.out.block k hk⟩ (fun r e => by cases e)
    have hKV : Kp W V:=HKt.out _ _ _ hK.out (HKb.out _ _ YV.out)
    have HJV:=hid hJV; have HKV:=hid hKV
    clear hJV hKV
    cases d
    ·gi_wp2_with fail
     refine ⟨fun f hf => (by cases hf), ?_⟩
     gi_wp2_with fail
     refine bodyPost_ret (results_none rfl _ _ _) rfl ?_
     exact ⟨⟨_, rfl⟩, .inl ⟨pre, ⟨hO.out, .inr ⟨x, b, by rw [HI.out]; exact HX.out, by rw [HI.out]; exact HB.out, HZ1.out⟩⟩, HJV.out⟩⟩
    ·have hnx : nzNext c a bs pre (((i : Nat) : Int), x + v):=⟨x, b, by rw [HI.out]; exact HX.out, by rw [HI.out]; exact HB.out, by rw [HI.out], HZ1.out⟩
     have HNX:=hid hnx
     obtain ⟨fn, tmps, assign, body, hy, hR⟩:=HY.out pre (((i : Nat) : Int), x + v) V hnx HJV.out
     dsimp only at hy
     have HYR:=hid hR
     clear hnx hR
     gi_wp2_with fail
     refine HYR.out.mono ?_
     rintro e W3 (⟨rfl, hJ3, hk3⟩ | ⟨rfl, hJx3⟩)
     ·have HJ3:=hid hJ3; have HK3:=hid (HKt.out _ _ _ HKV.out hk3)
      clear hJ3 hk3 hy
      gi_wp2_with fail
      go_roundw
      case rel => exact ⟨pre ++ [(((i : Nat) : Int), x + v)], by rw [List.length_append, List.length_singleton, HI.out]; rfl, by rw [List.length_append, List.length_singleton, HI.out]; omega, hO.out.snoc HNX.out, HJ3, HK3⟩
      case measure => simp [intOf] <;> omega
     ·clear hy
      gi_wp2_with fail
      refine bodyPost_ret (results_none rfl _ _ _) rfl ?_
      exact ⟨⟨_, rfl⟩, .inr ⟨_, trivial, hJx3⟩⟩
   ·go_wp2_with fail
    have b0 : Blk (wr.alloc (.cells #[.bool false, .int .i64 0, .int .i64 0] 94)).drew wr.heap.size #[.bool false, .int .i64 0, .int .i64 0] 94:=Blk.new wr #[.bool false, .int .i64 0, .int .i64 0] 94
    have a0 : Below wr.heap.size wr (wr.alloc (.cells #[.bool false, .int .i64 0, .int .i64 0] 94)).drew:=((Below.refl _ _).alloc (Nat.le_refl _) _).drew
    obtain ⟨dB, hdB⟩ : ∃ n, wr.heap.size = n:=⟨_, rfl⟩
    have HDB : Hid (wr.heap.size ≤ dB):=by show wr.heap.size ≤ dB; rw [← hdB]; exact Nat.le_refl _
    obtain ⟨w1, hw1⟩ : ∃ w1, (wr.alloc (.cells #[.bool false, .int .i64 0, .int .i64 0] 94)).drew = w1:=⟨_, rfl⟩
    rw [hw1] at b0 a0 ⊢
    rw [hdB] at b0 ⊢
    have A0:=hid a0; have BB0:=hid b0
    have s0:=(a0.cell (cell_lt c1)).trans c1
    have s1:=(a0.cell (cell_lt c2)).trans c2
    have s2:=(a0.cell (cell_lt hc2)).trans hc2
    clear hw1 hdB a0 b0
    refine ⟨⟨s0, s1, s2⟩, ?_⟩
    refine held_one (i:=5) (by kernel_rfl) (by rfl) (by rfl) ?_
    go_wp2_with fail
    refine (q4 _ (HLay.out.call A0.out)).out.mono ?_; rintro e w2 ⟨rfl, hb2⟩
    have y2:=hid (A0.out.trans (hb2.mono A0.out.size))
    have BK:=hid (BB0.out.call hb2)
    clear hb2 s0 s1 s2
    have s0:=(y2.out.cell (cell_lt c1)).trans c1
    have s1:=(y2.out.cell (cell_lt c2)).trans c2
    have s2:=(y2.out.cell (cell_lt hc2)).trans hc2
    go_wp2_with fail
    refine ⟨⟨s0, s1, s2⟩, ?_⟩
    refine held_more (is:=[6, 7, 8]) (g:=2) (by kernel_rfl) rfl ⟨s0, s1, s2⟩ (by kernel_rfl) ?_
    iterate 3
     refine ⟨_, rfl, ?_⟩
     apply Exists.intro
     refine ⟨.inl ⟨by rfl, ?_⟩, ?_⟩
     ·(intro W' hW'; obtain ⟨q1, q2, q3⟩:=hW'; go_simp; try (with_reducible rfl))
     (dsimp only [Act.put]; try simp only [List.setIfInBounds_toArray, List.set_cons_zero, List.set_cons_succ])
    have r0 : w2.cell? ⟨dB, 0, none⟩ = some (.bool false):=BK.out.cell 0
    have r1 : w2.cell? ⟨dB, 1, none⟩ = some (.int .i64 0):=BK.out.cell 1
    have r2 : w2.cell? ⟨dB, 2, none⟩ = some (.int .i64 0):=BK.out.cell 2
    have f0:=BK.out.free 0
    have f1:=BK.out.free 1
    have f2:=BK.out.free 2
    refine held_one (i:=10) (by kernel_rfl) (by rfl) (by rfl) ?_
    clear s0 s1 s2
    go_wp2_with fail
    have bk3 : Blk (((w2.setCell ⟨dB, 0, none⟩ (.bool d)).setCell ⟨dB, 1, none⟩ (.int .i64 v)).setCell ⟨dB, 2, none⟩ (.int .i64 u)) dB #[.bool d, .int .i64 v, .int .i64 u] 94:=by
     have:=((BK.out.set 0 (.bool d)).set 1 (.int .i64 v)).set 2 (.int .i64 u)
     simpa using this
    have y3 : Below wr.heap.size wr (((w2.setCell ⟨dB, 0, none⟩ (.bool d)).setCell ⟨dB, 1, none⟩ (.int .i64 v)).setCell ⟨dB, 2, none⟩ (.int .i64 u)) :=
     have hge : wr.heap.size ≤ dB:=HDB.out
     ((y2.out.setCell hge _).setCell hge _).setCell hge _
    obtain ⟨V, hV⟩ : ∃ V, ((w2.setCell ⟨dB, 0, none⟩ (.bool d)).setCell ⟨dB, 1, none⟩ (.int .i64 v)).setCell ⟨dB, 2, none⟩ (.int .i64 u) = V:=⟨_, rfl⟩
    rw [hV] at bk3 y3 ⊢
    have s0:=(y3.cell (cell_lt c1)).trans c1
    have s1:=(y3.cell (cell_lt c2)).trans c2
    have s2:=(y3.cell (cell_lt hc2)).trans hc2
    have BV:=hid bk3; have YV:=hid y3
    clear hV bk3 y3 r0 r1 r2 f0 f1 f2
    refine ⟨⟨s0, s1, s2⟩, ?_⟩
    refine held_one (i:=11) (by kernel_rfl) (by rfl) (by rfl) ?_
    go_wp2_with fail
    refine ⟨⟨s0, s1, s2⟩, ?_⟩
    refine wpAnyH_done (by kernel_rfl) ?_ _
    simp only [Only]
    have e0 : V.cell? ⟨dB, 0, none⟩ = some (.bool d):=BV.out.cell 0
    have e1 : V.cell? ⟨dB, 1, none⟩ = some (.int .i64 v):=BV.out.cell 1
    have e2 : V.cell? ⟨dB, 2, none⟩ = some (.int .i64 u):=BV.out.cell 2
    have ew : IntKind.i64.wrap (x + v) = x + v:=by
     have h1:=HVB.out; have h2:=HXR.out
     rw [IntWalk.i64_in _ ⟨by omega, by omega⟩]
    clear s0 s1 s2
    have hJV : J pre V:=HJ.out pre wr V none hJ.out ⟨YV.out.os, YV.out.tape, YV.out.output, YV.out.size, fun k hk _ => YV.out.block k hk⟩ (fun r e => by cases e)
    have hKV : Kp W V:=HKt.out _ _ _ hK.out (HKb.out _ _ YV.out)
    have HJV:=hid hJV; have HKV:=hid hKV
    clear hJV hKV
    cases d
    ·gi_wp2_with fail
     refine ⟨fun f hf => (by cases hf), ?_⟩
     gi_wp2_with fail
     refine bodyPost_ret (results_none rfl _ _ _) rfl ?_
     exact ⟨⟨_, rfl⟩, .inl ⟨pre, ⟨hO.out, .inr ⟨x, b, by rw [HI.out]; exact HX.out, by rw [HI.out]; exact HB.out, HZ1.out⟩⟩, HJV.out⟩⟩
    ·have hnx : nzNext c a bs pre (((i : Nat) : Int), x + v):=⟨x, b, by rw [HI.out]; exact HX.out, by rw [HI.out]; exact HB.out, by rw [HI.out], HZ1.out⟩
     have HNX:=hid hnx
     obtain ⟨fn, tmps, assign, body, hy, hR⟩:=HY.out pre (((i : Nat) : Int), x + v) V hnx HJV.out
     dsimp only at hy
     have HYR:=hid hR
     clear hnx hR
     gi_wp2_with fail
     refine HYR.out.mono ?_
     rintro e W3 (⟨rfl, hJ3, hk3⟩ | ⟨rfl, hJx3⟩)
     ·have HJ3:=hid hJ3; have HK3:=hid (HKt.out _ _ _ HKV.out hk3)
      clear hJ3 hk3 hy
      gi_wp2_with fail
      go_roundw
      case rel => exact ⟨pre ++ [(((i : Nat) : Int), x + v)], by rw [List.length_append, List.length_singleton, HI.out]; rfl, by rw [List.length_append, List.length_singleton, HI.out]; omega, hO.out.snoc HNX.out, HJ3, HK3⟩
      case measure => simp [intOf] <;> omega
     ·clear hy
      gi_wp2_with fail
      refine bodyPost_ret (results_none rfl _ _ _) rfl ?_
      exact ⟨⟨_, rfl⟩, .inr ⟨_, trivial, hJx3⟩⟩
  ·obtain rfl : i = N:=by omega
   gi_wp2_with fail
   refine bodyPost_end (results_none rfl _ _ _) rfl ?_
   exact ⟨⟨_, rfl⟩, .inl ⟨pre, ⟨hO.out, .inl (by rw [HI.out, HN.out])⟩, hJ.out⟩⟩
theorem fd_words (w : World) (v : Value) (l : List ByteArray) (m : Int) (h : Row w v (strs l)) (hsz : ∀ b ∈ l, b.size ≤ 100000000) :
 Calls Tryz.prog 41 #[v, .int .i64 m] w fun e w' => e = .returned (.int .i64 (wdE l m)) ∧ Below w.heap.size w w':=by
 obtain ⟨a, c, rfl, h1, h2, h3⟩:=h.openS
 obtain ⟨n, hn⟩ : ∃ n, l.length = n:=⟨_, rfl⟩
 unfold wdE
 rw [hn] at h1 ⊢
 by_cases hm : (n : Int) = m
 ·rw [if_pos hm]
  have H3:=hid h3; have HN:=hid hn; have HSZ:=hid hsz
  have q0 : ((n : Int) == m) = true:=by rw [beq_iff_eq]; exact hm
  obtain ⟨X, hX⟩ : ∃ X : Int, bsE l = X:=⟨_, rfl⟩
  have HX:=hid hX
  rw [hX]
  subst hm
  clear h h3 hn hX hsz q0
  go_enter Tryz.func41, Tryz.ntmps41
  go_wp2_with fail
  go_loopw [14] (fun ii wr => ∃ i : Nat, ii = .int .i64 i ∧ i ≤ n ∧ Hid (∀ (j : Nat) (b : ByteArray), j < i → l[j]? = some b → chkE b = 0) ∧ Hid (Below w.heap.size w wr)) (fun ii wr => n - (intOf ii).toNat)
  case atStart => exact ⟨0, rfl, Nat.zero_le _, fun j b hj => absurd hj (by omega), Below.refl _ _⟩
  case round =>
   obtain ⟨i, rfl, hi, hI, hB⟩:=hrel
   by_cases hlt : i < n
   ·obtain ⟨x, hx⟩ : ∃ x, l[i]? = some x:=⟨_, List.getElem?_eq_getElem (by rw [HN.out]; exact hlt)⟩
    obtain ⟨g, o, rfl, hg, hc⟩:=H3.out i x hx
    have d0:=(hB.out.cell (p:=⟨g, o + i, none⟩) hg).trans hc
    have b1 : (0 : Int) ≤ (i : Int):=by omega
    have b2 : (i : Int) < (n : Int):=by omega
    have wi : IntKind.i64.wrap ((i : Int) + 1) = (i : Int) + 1:=by rw [IntWalk.i64_in _ ⟨by omega, by omega⟩]
    have PN:=fun W => hid (b_Check W x (HSZ.out x (List.mem_of_getElem? hx)))
    have hce:=chkE_err x
    obtain ⟨y, hy⟩ : ∃ y, bitE x = y:=⟨_, rfl⟩
    rw [hy] at PN hce
    have HXX:=hid hx; have HC:=hid hce
    have hdrop : l.drop i = x :: l.drop (i + 1):=by
     have hil : i < l.length:=by rw [HN.out]; exact hlt
     rw [List.drop_eq_getElem_cons hil]
     have:=List.getElem?_eq_getElem hil
     rw [hx] at this
     rw [Option.some.inj this]
    have HD:=hid hdrop
    clear hx hy hc hdrop hce
    by_cases hy0 : y = 0
    ·subst hy0
     by_cases hl : 256 < x.size
     ·have q2 : decide ((256 : Int) < (x.size : Int)) = true:=by simp; omega
      have HE : Hid (X = 4):=by
       show X = 4
       have e : chkE x = 4:=by rw [HC.out, if_neg (by simp), if_pos hl]
       rw [← HX.out, bsE_at hI.out, HD.out, bsE, e, if_pos (by decide)]
      clear hl
      go_wp2_with fail
      refine (PN _).out.mono ?_; rintro e w1 ⟨rfl, hb1⟩
      have y1:=hid (bnext hB.out hb1); clear hb1
      go_wp2_with fail
      go_ret
      exact ⟨by rw [HE.out]; rfl, y1.out⟩
     ·have q2 : decide ((256 : Int) < (x.size : Int)) = false:=by simp; omega
      have HE : Hid (chkE x = 0):=by
       show chkE x = 0
       rw [HC.out, if_neg (by simp), if_neg hl]
      clear hl
      go_wp2_with fail
      refine (PN _).out.mono ?_; rintro e w1 ⟨rfl, hb1⟩
      have y1:=hid (bnext hB.out hb1); clear hb1
      go_wp2_with fail
      go_roundw
      case rel => exact ⟨i + 1, rfl, by omega, fun j b hj hjb => by
       by_cases e : j = i
       ·subst e; rw [HXX.out] at hjb; cases hjb; exact HE.out
       ·exact hI.out j b (by omega) hjb, y1.out⟩
      case measure => simp [intOf] <;> omega
    ·have q3 : (y == 0) = false:=by rw [beq_eq_false_iff_ne]; exact hy0
     have HE : Hid (X = y):=by
      show X = y
      have e : chkE x = y:=by rw [HC.out, if_pos hy0]
      rw [← HX.out, bsE_at hI.out, HD.out, bsE, e, if_pos hy0]
     clear hy0
     go_wp2_with fail
     refine (PN _).out.mono ?_; rintro e w1 ⟨rfl, hb1⟩
     have y1:=hid (bnext hB.out hb1); clear hb1
     go_wp2_with fail
     go_ret
     exact ⟨by rw [HE.out]; rfl, y1.out⟩
   ·obtain rfl : i = n:=by omega
    have HE : Hid (X = 0):=by
     show X = 0
     have hd : l.drop i = []:=List.drop_eq_nil_of_le (by rw [HN.out]; exact Nat.le_refl _)
     rw [← HX.out, bsE_at hI.out, hd]; rfl
    go_wp2_with fail
    go_ret
    exact ⟨by rw [HE.out]; rfl, hB.out⟩
 ·rw [if_neg hm]
  have q0 : ((n : Int) == m) = false:=by rw [beq_eq_false_iff_ne]; exact hm
  clear h h3 hn hsz hm
  go_enter Tryz.func41, Tryz.ntmps41
  go_wp2_with fail
  go_ret
  exact ⟨rfl, Below.refl _ _⟩
theorem noisy_end {c : List Int} {a : ByteArray} {b : List ByteArray} {xs : List (Int × Int)} (hl : c.length = b.length) (h1 : NzOk c a b xs) (h2 : nzStop c a b xs) :
 (xs.length = c.length ∧ nzO false a c b = some (xs.map Prod.snd)) ∨ (xs.length < c.length ∧ nzO false a c b = none):=by
 rcases h2 with h2 | ⟨n, s, h3, h4, h5⟩
 ·refine .inl ⟨h2, nzO_all hl (by rw [List.length_map]; exact h2) fun k x y hx hy => ?_⟩
  have hk : k < xs.length:=by have:=(List.getElem?_eq_some_iff.1 hx).1; omega
  obtain ⟨n, s, g1, g2, g3, g4⟩:=h1 k xs[k] (List.getElem?_eq_getElem hk)
  rw [hx] at g1; rw [hy] at g2; cases g1; cases g2
  rw [g4, List.getElem?_map, List.getElem?_eq_getElem hk]; rfl
 ·exact .inr ⟨(List.getElem?_eq_some_iff.1 h3).1, nzO_late _ n s h3 h4 h5⟩
theorem fd_Peak (w : World) (v u : Value) (c : List Int) (a : ByteArray) (b : List ByteArray) (hv : Row w v (zs c)) (hu : Row w u (strs b)) (ha : a.size ≤ 100000) (hb : ∀ x ∈ b, x.size ≤ 100000000) (hL : Lay w) :
 Calls Tryz.prog 11 #[v, .string a, u] w fun e w' => e = .returned (.tuple #[.int .i64 (pkA c a b).1, .bool (pkA c a b).2, .int .i64 (pkE c a b)]) ∧ Below w.heap.size w w':=by
 have HQ:=hid (fd_question w v c a hv ha hL)
 have HW:=fun V h => hid (fd_words V u b (c.length : Nat) h hb)
 have HV:=hid hv; have HU:=hid hu; have HL:=hid hL
 obtain ⟨s, cp, rfl, q1, q2, q3⟩:=hv.openZ
 obtain ⟨t, cq, rfl, p1, p2, p3⟩:=hu.openS
 have eor : orZ [qnE c a, wdE b (c.length : Nat)] = pkE c a b:=by
  simp only [orZ, pkE]
  by_cases h : qnE c a = 0
  ·by_cases h2 : wdE b (c.length : Nat) = 0
   ·simp [h, h2]
   ·simp [h, h2]
  ·simp [h]
 obtain ⟨qe, hqe⟩ : ∃ z, qnE c a = z:=⟨_, rfl⟩
 obtain ⟨we, hwe⟩ : ∃ z, wdE b (c.length : Nat) = z:=⟨_, rfl⟩
 obtain ⟨n, hn⟩ : ∃ n, c.length = n:=⟨_, rfl⟩
 obtain ⟨n2, hn2⟩ : ∃ n, b.length = n:=⟨_, rfl⟩
 rw [hqe] at HQ eor
 rw [hwe] at HW eor
 have CO:=fun V v h => hid (s_OrE V v [qe, we] h)
 rw [eor] at CO
 rw [hn] at HQ HW HV q1 ⊢
 simp only [hn2] at HW
 rw [hn2] at HU p1 ⊢
 by_cases h0 : pkE c a b = 0
 case neg =>
  have e2 : pkA c a b = (0, false):=by unfold pkA; rw [if_neg h0]
  rw [e2]
  obtain ⟨z, hz⟩ : ∃ z, pkE c a b = z:=⟨_, rfl⟩
  rw [hz] at CO h0 ⊢
  have t0 : (z == 0) = false:=by rw [beq_eq_false_iff_ne]; exact h0
  clear hv hu q3 p3 e2 hz hn hn2 h0 hqe hwe eor
  go_enter Tryz.func11, Tryz.ntmps11
  go_wp2_with fail
  refine HQ.out.mono ?_; rintro e w1 ⟨rfl, hb1⟩
  have y1:=hid hb1; clear hb1
  go_wp2_with fail
  refine (HW _ (HU.out.call y1.out)).out.mono ?_; rintro e w2 ⟨rfl, hb2⟩
  have y2:=hid (bnext y1.out hb2); clear hb2
  go_wp2_with fail
  refine (CO _ _ (row_two _ _ _ _)).out.mono ?_; rintro e w3 ⟨rfl, rfl⟩
  go_wp2_with fail
  go_ret3
  exact ⟨rfl, y2.out.alloc y2.out.size _⟩
 have OK:=pkE_ok h0
 have e2 : pkA c a b = (match nzO false a c b with | none => (0, false) | some l => ((amx l : Nat), true)):=by unfold pkA; rw [if_pos h0]; rfl
 obtain ⟨R, hR⟩ : ∃ R, pkA c a b = R:=⟨_, rfl⟩
 rw [hR] at e2 ⊢
 rw [h0] at CO ⊢
 have hlen:=OK.len
 have HOK:=hid OK; have HR:=hid e2; have HN:=hid hn; have HN2:=hid hn2; have HA:=hid ha
 rw [hn, hn2] at hlen
 subst hlen
 clear hv hu q3 p3 hn hn2 h0 e2 hR OK ha hb hqe hwe eor hL
 go_enter Tryz.func11, Tryz.ntmps11
 go_wp2_with fail
 refine HQ.out.mono ?_; rintro e w1 ⟨rfl, hb1⟩
 have y1:=hid hb1; clear hb1
 go_wp2_with fail
 refine (HW _ (HU.out.call y1.out)).out.mono ?_; rintro e w2 ⟨rfl, hb2⟩
 have y2:=hid (bnext y1.out hb2); clear hb2
 go_wp2_with fail
 refine (CO _ _ (row_two _ _ _ _)).out.mono ?_; rintro e w3 ⟨rfl, rfl⟩
 have y3:=hid (y2.out.alloc y2.out.size (.cells #[.int .i64 qe, .int .i64 we] 27))
 go_wp2_with fail
 obtain ⟨w3, hw3⟩ : ∃ w3, w2.alloc (.cells #[.int .i64 qe, .int .i64 we] 27) = w3:=⟨_, rfl⟩
 rw [hw3] at y3
 try rw [hw3]
 refine (fd_noisy _ _ _ _ _ _ _ _).mono ?_; rintro e w4 ⟨rfl, rfl⟩
 have y4:=hid ((((y3.out.alloc y3.out.size (.cells #[.slice s n2 cp] 24)).alloc (y3.out.alloc y3.out.size _).size (.cells #[.string a] 22)).alloc ((y3.out.alloc y3.out.size _).alloc (y3.out.alloc y3.out.size _).size _).size (.cells #[.slice t n2 cq] 30)))
 have X1:=hid (((Blk.new w3 #[.slice s n2 cp] 24).alloc (.cells #[.string a] 22)).alloc (.cells #[.slice t n2 cq] 30))
 have X2:=hid ((Blk.made (w3.alloc (.cells #[.slice s n2 cp] 24)) #[.string a] 22 (n:=w3.heap.size + 1) (by simp)).alloc (.cells #[.slice t n2 cq] 30))
 have X3:=hid (Blk.made ((w3.alloc (.cells #[.slice s n2 cp] 24)).alloc (.cells #[.string a] 22)) #[.slice t n2 cq] 30 (n:=w3.heap.size + 1 + 1) (by simp))
 obtain ⟨W, hW⟩ : ∃ W, ((w3.alloc (.cells #[.slice s n2 cp] 24)).alloc (.cells #[.string a] 22)).alloc (.cells #[.slice t n2 cq] 30) = W:=⟨_, rfl⟩
 have hsz : W.heap.size = w3.heap.size + 1 + 1 + 1:=by rw [← hW]; simp
 rw [hW] at y4 X1 X2 X3 ⊢
 have hread : ∀ W1 W2, Below W.heap.size W W1 → KpC W.heap.size W1 W2 → W2.cell? ⟨w3.heap.size, 0, none⟩ = some (.slice s n2 cp) ∧ W2.cell? ⟨w3.heap.size + 1, 0, none⟩ = some (.string a) ∧ W2.cell? ⟨w3.heap.size + 1 + 1, 0, none⟩ = some (.slice t n2 cq) ∧ Row W2 (.slice s n2 cp) (zs c) ∧ Row W2 (.slice t n2 cq) (strs b) ∧ Lay W2:=fun W1 W2 b1 b2 => by
  have b3 : Below W.heap.size W W2:=b1.trans (b2.rest b1.size)
  have b4 : Below w.heap.size w W2:=y4.out.trans (b3.mono y4.out.size)
  exact ⟨(X1.out.call b3).cell 0, (X2.out.call b3).cell 0, (X3.out.call b3).cell 0, HV.out.call b4, HU.out.call b4, HL.out.call b4⟩
 have HF:=noisy_feeds (Kp:=KpC W.heap.size) 8 (by omega) W w3.heap.size (w3.heap.size + 1) (w3.heap.size + 1 + 1) (.slice s n2 cp) (.slice t n2 cq) c a b HA.out (fun x hx => chk_size (HOK.out.b x hx)) (by rw [HN.out, HN2.out]) HOK.out.le HOK.out.rng (KpC.refl _) KpC.trans hread (fun _ _ => KpC.of_below)
 have PF:=hid (fd_fold W 91 _ (nzNext c a b) _ (fun pre x h => by
  obtain ⟨n, b', h1, h2, h3, h4⟩:=h
  have:=(List.getElem?_eq_some_iff.1 h1).1
  have:=HOK.out.le
  exact ⟨h3, by omega⟩) HF (enters_of Tryz.func91 (by kernel_rfl) rfl))
 clear hread HF hW hsz X1 X2 X3
 go_wp2_with fail
 refine PF.out.mono ?_; rintro e w5 ⟨⟨xs, ⟨h1, h2⟩, rfl⟩, hb5⟩
 have y5:=hid (y4.out.trans (hb5.mono y4.out.size))
 have hend:=noisy_end (by rw [HN.out, HN2.out]) h1 h2
 rw [HN.out] at hend
 obtain ⟨m, hm⟩ : ∃ m, xs.length = m:=⟨_, rfl⟩
 obtain ⟨k, hk⟩ : ∃ k, (amS (xs.map Prod.snd)).2.1 = k:=⟨_, rfl⟩
 rw [hm] at hend ⊢
 rw [hk]
 clear hb5 h1 h2 hm PF
 rcases hend with ⟨h1, h2⟩ | ⟨h1, h2⟩
 ·have HM:=hid h1
  have HE : Hid (R = ((k : Int), true)):=by
   show R = _
   rw [HR.out, h2, ← hk]; rfl
  clear h1 h2 hk
  go_wp2_with fail
  ·rename_i hx
   exact absurd hx (by have:=HM.out; omega)
  ·go_ret3
   exact ⟨by rw [HE.out]; rfl, y5.out⟩
 ·have HM:=hid h1
  have HE : Hid (R = (0, false)):=by
   show R = _
   rw [HR.out, h2]
  clear h1 h2 hk
  go_wp2_with fail
  ·go_ret3
   exact ⟨by rw [HE.out]; rfl, y5.out⟩
  all_goals
   rename_i hx
   exact absurd HM.out hx
open Go.Sort
theorem fd_order (p q : ByteArray × ByteArray) (w : World) : Calls Tryz.prog 38 #[.agg #[.string p.1, .string p.2], .agg #[.string q.1, .string q.2]] w fun e w' => e = .returned (.int .i64 (cmpK p q)) ∧ ∃ n os', w' = grow (w.drewN n) os':=by
 obtain ⟨p1, p2⟩:=p
 obtain ⟨q1, q2⟩:=q
 dsimp only
 have HC:=fun V => hid (s_Compare V p1 q1)
 unfold cmpK keyL
 dsimp only
 obtain ⟨r, hr⟩ : ∃ r : Int, (if p1.data.toList < q1.data.toList then (-1 : Int) else if q1.data.toList < p1.data.toList then 1 else 0) = r:=⟨_, rfl⟩
 rw [hr] at HC ⊢
 clear hr
 go_enter Tryz.func38, Tryz.ntmps38
 go_wp2_with fail
 refine (HC _).out.mono ?_; rintro e w1 ⟨rfl, rfl⟩
 go_wp2_with fail
 go_ret
 exact ⟨rfl, 0, _, by rw [alloc_eq_grow, alloc_eq_grow, grow_grow]; rfl⟩
theorem fd_Law_ok (w : World) (v : Value) (c : List Int) (a : ByteArray) (n : Nat) (hv : Row w v (zs c)) (ha : a.size ≤ 100000) (hq : qnE c a = 0) (hn : n ≤ 32) (hm : n * c.length ≤ 256) (hL : LayB w) :
 Calls Tryz.prog 9 #[v, .string a, .int .i64 (n : Nat)] w fun e w' => (∃ u, e = .returned (.tuple #[u, .int .i64 0]) ∧ MRow w' u (sortM (fkP (gV (bN (cW a)) (bN (qD a)) false n) n c))) ∧ Below w.heap.size w w':=by
 obtain ⟨k1, k2, k3, k4⟩:=qnE_ok hq
 have hND:=(gPE_ok k4).2
 have HQ:=hid (fd_question w v c a hv ha hL.l)
 rw [hq] at HQ
 have HNZ:=fun V hV => hid (fd_newNoise (H:=Unit) V a n ha k4 hn hV)
 have hg : ∀ v : Int, v < 0 → gV (bN (cW a)) (bN (qD a)) false n v = 0:=fun v hv => gV_one_neg n hv
 have hz : zS n (gV (bN (cW a)) (bN (qD a)) false n) ≤ 2 ^ n:=by have:=gV_all hND false n; omega
 obtain ⟨g, hgg⟩ : ∃ g, gV (bN (cW a)) (bN (qD a)) false n = g:=⟨_, rfl⟩
 rw [hgg] at HNZ hg hz ⊢
 have hT:=lw_texts (c:=c) hn hg hz (by omega)
 obtain ⟨PF, hPF⟩ : ∃ PF : Nat → Nat → Nat → ByteArray, (fun (i v k : Nat) => dyB (fkN g n (c.getD i 0) (v : Int) i c k) (n * bI i k)) = PF:=⟨_, rfl⟩
 obtain ⟨CT, hCT⟩ : ∃ CT : Int → ByteArray, (fun m => dyB (cmC g n m) n) = CT:=⟨_, rfl⟩
 obtain ⟨TF, hTF⟩ : ∃ TF : Nat → Nat → ByteArray, (fun i v => dyB (fkS g n c i v) (n * c.length)) = TF:=⟨_, rfl⟩
 obtain ⟨FT, hFT⟩ : ∃ FT : Nat → ByteArray, (fun i => dyB (fkT g n c i) (n * c.length)) = FT:=⟨_, rfl⟩
 obtain ⟨RF, hRF⟩ : ∃ RF : Nat → ByteArray, (fun i => dyB (fkR g n c i) (n * c.length)) = RF:=⟨_, rfl⟩
 rw [hPF, hCT, hTF, hFT, hRF] at hT
 clear hPF hCT hTF hFT hRF
 have HT:=hid hT
 have HND:=hid (fkW_nd g n c)
 have HFL:=hid (fun i => fkAll_length g n c i)
 have HFZ : Hid (fkAll g n c 0 = []):=rfl
 have HPP : Hid (fkP g n c = (fkW g n c).filter fun x => !(!notZ x)):=by
  show fkP g n c = _
  unfold fkP
  refine List.filter_congr fun x _ => ?_
  rw [Bool.not_not]
 have HPN:=hid (fkP_nd g n c)
 obtain ⟨FA, hFA⟩ : ∃ FA, fkAll g n c = FA:=⟨_, rfl⟩
 obtain ⟨FW, hFW⟩ : ∃ FW, fkW g n c = FW:=⟨_, rfl⟩
 obtain ⟨FP, hFP⟩ : ∃ FP, fkP g n c = FP:=⟨_, rfl⟩
 have HNX:=hid hT.next
 have HAL:=hid hT.all
 rw [hFA] at HNX HAL HFL HFZ
 rw [hFW] at HAL HND HPP
 rw [hFP] at HPP HPN ⊢
 have HV:=hid hv; have HL:=hid hL; have HN:=hid hn; have HR:=hid k3
 obtain ⟨s, cp, rfl, q1, q2, q3⟩:=hv.openZ
 obtain ⟨L, hLL⟩ : ∃ L, c.length = L:=⟨_, rfl⟩
 have HLL:=hid hLL
 rw [hLL] at hm k1 k2 q1 HV HQ HAL ⊢
 have Q3:=hid q3
 have s1 : decide ((n : Int) < 0) = false:=by simp
 have s2 : decide ((32 : Int) < (n : Int)) = false:=by simp; omega
 obtain ⟨M, hM⟩ : ∃ M : Int, (n : Int) * (L : Int) = M:=⟨_, rfl⟩
 have hM2 : M ≤ 256:=by
  rw [← hM]
  have : ((n * L : Nat) : Int) ≤ 256:=by omega
  rwa [Int.natCast_mul] at this
 have hM0 : 0 ≤ M:=by rw [← hM]; exact Int.mul_nonneg (by omega) (by omega)
 have wm : IntKind.i64.wrap ((n : Int) * (L : Int)) = M:=by rw [hM, IntWalk.i64_in _ ⟨by omega, by omega⟩]
 have s3 : decide (256 < M) = false:=by simp; omega
 obtain ⟨i0, hi, hz0, hz1, hz2⟩:=info_parts info_mass
 have HK1:=hid k1; have HK2:=hid k2
 clear hv ha hq hn hL hND hg hz hgg hT hFA hFW hFP k3 k4 hLL q3 hM2 hM0 hM hm
 go_enter Tryz.func9, Tryz.ntmps9
 go_wp2_with fail
 refine HQ.out.mono ?_; rintro e w0 ⟨rfl, hb0⟩
 have y0:=hid hb0; clear hb0 HQ
 go_wp2_with fail
 refine (HNZ _ (HL.out.call y0.out)).out.mono ?_; rintro e W1 ⟨⟨bx, bm, bp, rfl, hbm, hnoi⟩, hb1⟩
 have y1:=hid (bnext y0.out hb1)
 have HBM : Hid (w.heap.size ≤ bm ∧ bm < W1.heap.size):=⟨Nat.le_trans y0.out.size hbm, by
  rcases hnoi.m with h | ⟨_, _, h, -⟩
  ·exact h.lt
  ·exact h.lt⟩
 have I0 : Hid (LwI w W1 W1 bx bm bp g n (.slice none 0 0) 0 (FA 0)):=⟨hnoi, by rw [HFZ.out]; exact ⟨rfl, .inl ⟨rfl, rfl⟩⟩, y1.out, Nat.le_refl _⟩
 clear hb1 hbm hnoi HNZ s1 s2 s3 wm
 go_wp2_with fail
 go_loopw [10, 11, 12, 13, 14, 15, 16, 17, 43] (fun s10 s11 s12 s13 s14 s15 s16 s17 s43 wr => ∃ i : Nat, s43 = .int .i64 (i : Nat) ∧ s11 = .string (RF i) ∧ i ≤ L ∧ Hid (LwI w W1 wr bx bm bp g n s10 i (FA i))) (fun s10 s11 s12 s13 s14 s15 s16 s17 s43 wr => L - (intOf s43).toNat)
 case atStart => exact ⟨0, rfl, by rw [HT.out.one], Nat.zero_le _, I0⟩
 case round =>
  obtain ⟨i, rfl, rfl, hi', hI⟩:=hrel
  obtain ⟨ad, cd, rfl⟩:=owns_ex hI.out.own
  by_cases hlt : i < L
  ·have q0 : decide ((i : Int) < (L : Int)) = true:=by simp; omega
   have d0 : decide (i < L) = true:=by simp; omega
   have wi : IntKind.i64.wrap ((i : Int) + 1) = ((i + 1 : Nat) : Int):=by have:=HK2.out; rw [IntWalk.i64_in _ ⟨by omega, by omega⟩]; omega
   have IL:=hid hlt
   obtain ⟨ci, hci⟩ : ∃ x, c[i]? = some x:=⟨_, List.getElem?_eq_getElem (by rw [HLL.out]; exact hlt)⟩
   have hcd : c.getD i 0 = ci:=by rw [List.getD_eq_getElem?_getD, hci]; rfl
   obtain ⟨gc, oc, rfl, hgc, hcc⟩:=Q3.out i ci hci
   have HCC:=hid hcc; have HGC:=hid hgc; have HCD:=hid hcd
   have hrc:=HR.out ci (List.mem_of_getElem? hci)
   have HRC:=hid hrc
   have e0 : (0 : Int) ≤ (i : Int):=by omega
   have e1 : (i : Int) < (L : Int):=by omega
   have r0:=hI.out.noi.x.cell 0
   simp at r0
   clear hci hcc hgc hcd hrc hi' hlt
   have I1 : Hid (LwI w W1 wr bx bm bp g n (.slice ad i cd) i (FA i)):=hI
   have w31 : ((n : Nat) : Int) ≤ 32:=by have:=HN.out; omega
   go_wp2_with fail
   go_loopw [13, 14, 15, 16, 17, 51] (fun s13 s14 s15 s16 s17 s51 wq => ∃ v : Nat, s51 = .int .i64 (v : Nat) ∧ s13 = .string (TF i v) ∧ v ≤ n + 1 ∧ Hid (LwI w W1 wq bx bm bp g n (.slice ad i cd) i (FA i))) (fun s13 s14 s15 s16 s17 s51 wq => n + 1 - (intOf s51).toNat)
   case atStart => exact ⟨0, rfl, by rw [HT.out.zero], Nat.zero_le _, I1⟩
   case round =>
    clear I1 hI r0
    obtain ⟨v, rfl, rfl, hv', hI⟩:=hrel
    by_cases hlt : v < n + 1
    ·have q1 : decide ((v : Int) < ((n + 1 : Nat) : Int)) = true:=by simp; omega
     have q1' : decide ((v : Int) < (n : Int) + 1) = true:=by simp; omega
     have d1 : decide (v < n + 1) = true:=by simp; omega
     have wv : IntKind.i64.wrap ((v : Int) + 1) = ((v + 1 : Nat) : Int):=by rw [IntWalk.i64_in _ ⟨by omega, by omega⟩]; omega
     have VL:=hid hlt
     have hst:=HT.out.start i v (by omega)
     have r1 : wr.cell? ⟨bp, v, none⟩ = some (.string (PF i v 0)):=by
      rw [hI.out.noi.p.cell, List.getElem?_toArray]
      exact strs_get hst
     have f0 : (0 : Int) ≤ (v : Int):=by omega
     have f1 : (v : Int) < (n : Int) + 1:=by omega
     have f2 : (v : Int) ≤ 32:=by omega
     have HSAME:=hid (HT.out.same i v)
     have HTIM:=hid (fun (V : World) (k : Nat) (hk : k < L) (hne : k ≠ i) (hV : Lay V) => HT.out.times V i v k (by rw [HLL.out]; exact IL.out) (by have:=VL.out; omega) (by rw [HLL.out]; exact hk) hne hV)
     have HPLU:=hid (fun (V : World) (hV : Lay V) => HT.out.plus V i v (by rw [HLL.out]; exact IL.out) (by have:=VL.out; omega) hV)
     rw [HCD.out] at HTIM
     rw [HLL.out] at HPLU
     obtain ⟨P, hP⟩ : ∃ P, PF i v = P:=⟨_, rfl⟩
     obtain ⟨T0, hT0⟩ : ∃ P, TF i v = P:=⟨_, rfl⟩
     obtain ⟨T1, hT1⟩ : ∃ P, TF i (v + 1) = P:=⟨_, rfl⟩
     rw [hP] at HSAME HTIM HPLU r1
     rw [hT0, hT1] at HPLU
     have HT0:=hid hT0; have HT1:=hid hT1
     rw [hT0]
     have wcv : IntKind.i64.wrap (ci + (v : Int)) = ci + (v : Int):=by have:=HRC.out; rw [IntWalk.i64_in _ ⟨by omega, by omega⟩]
     clear hst hP hT0 hT1 hv' hlt
     go_wp2_with fail
     go_loopw [15, 16, 17, 58] (fun s15 s16 s17 s58 wq => ∃ k : Nat, s58 = .int .i64 (k : Nat) ∧ s15 = .string (P k) ∧ k ≤ L ∧ Hid (LwI w W1 wq bx bm bp g n (.slice ad i cd) i (FA i))) (fun s15 s16 s17 s58 wq => L - (intOf s58).toNat)
     case atStart => exact ⟨0, rfl, rfl, Nat.zero_le _, hI⟩
     case round =>
      clear hI r1
      obtain ⟨k, rfl, rfl, hk', hI⟩:=hrel
      by_cases hlt : k < L
      ·have q2 : decide ((k : Int) < (L : Int)) = true:=by simp; omega
       have d2 : decide (k < L) = true:=by simp; omega
       have wk : IntKind.i64.wrap ((k : Int) + 1) = ((k + 1 : Nat) : Int):=by have:=HK2.out; rw [IntWalk.i64_in _ ⟨by omega, by omega⟩]; omega
       have KL:=hid hlt
       obtain ⟨ck, hck⟩ : ∃ x, c[k]? = some x:=⟨_, List.getElem?_eq_getElem (by rw [HLL.out]; exact hlt)⟩
       have hkd : c.getD k 0 = ck:=by rw [List.getD_eq_getElem?_getD, hck]; rfl
       obtain ⟨g2, o2, e2, -, hc2⟩:=Q3.out k ck hck
       simp only [Option.some.injEq, Addr.mk.injEq, and_true] at e2
       obtain ⟨rfl, rfl⟩:=e2
       have hrk:=HR.out ck (List.mem_of_getElem? hck)
       have c1:=(hI.out.bel.cell (p:=⟨gc, oc + i, none⟩) HGC.out).trans HCC.out
       have c2:=(hI.out.bel.cell (p:=⟨gc, oc + k, none⟩) HGC.out).trans hc2
       obtain ⟨G, hG⟩ : ∃ G, ci + (v : Int) - ck = G:=⟨_, rfl⟩
       have hGb : -9000000000000000 ≤ G ∧ G ≤ 9000000000000000:=by have:=HRC.out; omega
       have wg : IntKind.i64.wrap (ci + (v : Int) - ck) = G:=by rw [hG, IntWalk.i64_in _ ⟨by omega, by omega⟩]
       have wg1 : IntKind.i64.wrap (G + 1) = G + 1:=by rw [IntWalk.i64_in _ ⟨by omega, by omega⟩]
       have g0 : (0 : Int) ≤ (k : Int):=by omega
       have g1 : (k : Int) < (L : Int):=by omega
       have HTK:=fun (hne : k ≠ i) (V : World) (hV : Lay V) => HTIM.out V k KL.out hne hV
       rw [hkd, hG] at HTK
       clear hck hkd hc2 hrk hG hGb hk' hlt
       rcases Nat.lt_trichotomy k i with hki | hki | hki
       ·have p1 : decide ((k : Int) < (i : Int)) = true:=by simp; omega
        have p2 : decide (k < i) = true:=by simp; omega
        have HTJ:=fun V hV => hid (HTK (Nat.ne_of_lt hki) V hV)
        rw [if_pos hki] at HTJ
        have HKI:=hid hki
        clear HTK hki
        go_wp2_with fail
        go_quiet (fail)
        go_wp2_with fail
        have I2:=hid (hI.out.call (below_drewN (Below.refl _ _) nq))
        refine (HT.out.below _ _ _ _ _ I2.out.noi (HL.out.call I2.out.bel).l).mono ?_; rintro e w3 ⟨rfl, hn3, hg3⟩
        have I3:=hid (I2.out.grow hn3 hg3 HBM.out.1 HBM.out.2)
        clear hn3 hg3 I2 c1 c2
        go_wp2_with fail
        refine (HTJ _ (HL.out.call I3.out.bel).l).out.mono ?_; rintro e w4 ⟨rfl, hb4⟩
        have I4:=hid (I3.out.call hb4)
        clear hb4 I3
        go_wp2_with fail
        go_roundw
        case rel => exact ⟨k + 1, by go_num, rfl, KL.out, I4⟩
        case measure => simp [intOf] <;> (have:=KL.out; omega)
       ·subst hki
        have p1 : decide ((k : Int) < (k : Int)) = false:=by simp
        clear HTK
        go_wp2_with fail
        go_quiet (fail)
        go_wp2_with fail
        have I2:=hid (hI.out.call (below_drewN (Below.refl _ _) nq))
        go_roundw
        case rel => exact ⟨k + 1, by go_num, by rw [HSAME.out], KL.out, I2⟩
        case measure => simp [intOf] <;> (have:=KL.out; omega)
       ·have p1 : decide ((k : Int) < (i : Int)) = false:=by simp; omega
        have p2 : decide (k < i) = false:=by simp; omega
        have p3 : decide ((i : Int) < (k : Int)) = true:=by simp; omega
        have p4 : decide (i < k) = true:=by simp; omega
        have HTJ:=fun V hV => hid (HTK (Nat.ne_of_gt hki) V hV)
        rw [if_neg (by omega)] at HTJ
        have HKI:=hid hki
        clear HTK hki
        go_wp2_with fail
        go_quiet (fail)
        go_wp2_with fail
        have I2:=hid (hI.out.call (below_drewN (Below.refl _ _) nq))
        refine (HT.out.below _ _ _ _ _ I2.out.noi (HL.out.call I2.out.bel).l).mono ?_; rintro e w3 ⟨rfl, hn3, hg3⟩
        have I3:=hid (I2.out.grow hn3 hg3 HBM.out.1 HBM.out.2)
        clear hn3 hg3 I2 c1 c2
        go_wp2_with fail
        refine (HTJ _ (HL.out.call I3.out.bel).l).out.mono ?_; rintro e w4 ⟨rfl, hb4⟩
        have I4:=hid (I3.out.call hb4)
        clear hb4 I3
        go_wp2_with fail
        go_roundw
        case rel => exact ⟨k + 1, by go_num, rfl, KL.out, I4⟩
        case measure => simp [intOf] <;> (have:=KL.out; omega)
      ·obtain rfl : k = L:=by omega
       have q2 : decide ((k : Int) < (k : Int)) = false:=by simp
       clear hlt hk'
       go_wp2_with fail
       refine (HPLU.out _ (HL.out.call hI.out.bel).l).mono ?_; rintro e w4 ⟨rfl, hb4⟩
       have I4:=hid (hI.out.call hb4)
       clear hb4
       go_wp2_with fail
       go_roundw
       case rel => exact ⟨v + 1, by go_num, by rw [HT1.out], VL.out, I4⟩
       case measure => simp [intOf] <;> (have:=VL.out; omega)
    ·obtain rfl : v = n + 1:=by omega
     have q1 : decide ((n : Int) + 1 < (n : Int) + 1) = false:=by simp
     have PI:=fun V hV => hid (s_Itoa V i (by have:=HK2.out; have:=IL.out; omega) hV)
     have PLS:=fun V hV => hid (HT.out.less V i (by rw [HLL.out]; exact IL.out) hV)
     have HNXi:=hid (HNX.out i)
     have hIL : i < 256:=by have:=HK2.out; have:=IL.out; omega
     rw [HT.out.tend]
     obtain ⟨I, hIi⟩ : ∃ s, numB i = s:=⟨_, rfl⟩
     obtain ⟨F, hF⟩ : ∃ s, FT i = s:=⟨_, rfl⟩
     rw [hIi] at PI HNXi
     rw [hF] at PLS HNXi ⊢
     have HIL:=hid hIL
     clear hlt hv' hIi hF hIL
     go_wp2_with fail
     refine (PI _ (HL.out.call hI.out.bel).l).out.mono ?_; rintro e w3 ⟨rfl, hb3⟩
     have I3:=hid (hI.out.call hb3)
     clear hb3
     have b3:=I3.out.siz
     have b4:=I3.out.bel.size
     go_wp2_with (at_builtin; refine wpList_append_own _ rfl _ _ 26 rfl W1.heap.size 39 i0 (.agg #[.string ⟨#[]⟩, .string ⟨#[]⟩]) 2 32 Tryz.underlying26 hi hz0 hz1 hz2 rfl (by decide) _ i _ rfl (I3.out.own.alloc _) ⟨w3.heap.size, 0, none⟩ 1 1 [.string I, .string F] rfl rfl (cell_two_new w3 (.string I) (.string F) 39) (by simp [Value.oneCell']) (by have:=HIL.out; unfold maxLen; omega) (by omega) (by simp; omega) ?_; intro v' w5 hown5 hgrow5 _)
     have A3 : Below w3.heap.size w3 (w3.alloc (.cells #[.string I, .string F] 39)):=(Below.refl _ _).alloc (Nat.le_refl _) _
     have I4:=I3.out.call A3
     have hown : W1.heap.size ≤ W1.heap.size:=Nat.le_refl _
     have hrow : ∀ k, (Value.slice ad i cd).ownBlock = some k → W1.heap.size ≤ k:=fun k e => (I3.out.own.lt k e).1
     have I5 : Hid (LwI w W1 w5 bx bm bp g n v' (i + 1) (FA (i + 1))):=by
      refine ⟨?_, ?_, ?_, ?_⟩
      ·exact I4.noi.grown hgrow5 (own_block I4.own)
      ·rw [HNXi.out, massC_append]; exact hown5
      ·refine I4.bel.trans ⟨hgrow5.os, hgrow5.tape, hgrow5.output, hgrow5.size, fun k hk => hgrow5.block k (by have:=I4.bel.size; omega) (fun e => ?_)⟩
       have:=hrow k e.symm
       have:=y1.out.size
       omega
      ·exact Nat.le_trans I4.siz hgrow5.size
     clear hown5 hgrow5 I3 A3 I4 hown hrow b3 b4
     obtain ⟨ad5, cd5, rfl⟩:=owns_ex I5.out.own
     go_wp2_with fail
     refine (PLS _ (HL.out.call I5.out.bel).l).out.mono ?_; rintro e w6 ⟨rfl, hb6⟩
     have I6:=hid (I5.out.call hb6)
     clear hb6 I5
     go_wp2_with fail
     go_roundw
     case rel => exact ⟨i + 1, by go_num, rfl, IL.out, I6⟩
     case measure => simp [intOf] <;> (have:=IL.out; omega)
  ·obtain rfl : i = L:=by omega
   have q1 : decide ((i : Int) < (i : Int)) = false:=by simp
   clear hlt hi'
   have b3:=hI.out.siz
   have b4:=hI.out.bel.size
   have hIL:=HK2.out
   obtain ⟨F, hF⟩ : ∃ s, RF i = s:=⟨_, rfl⟩
   rw [hF] at HAL ⊢
   clear hF
   go_wp2_with (at_builtin; refine wpList_append_own _ rfl _ _ 26 rfl W1.heap.size 39 i0 (.agg #[.string ⟨#[]⟩, .string ⟨#[]⟩]) 2 32 Tryz.underlying26 hi hz0 hz1 hz2 rfl (by decide) _ i _ rfl (hI.out.own.alloc _) ⟨wr.heap.size, 0, none⟩ 1 1 [.string ⟨#[108, 97, 116, 101]⟩, .string F] rfl rfl (cell_two_new wr (.string ⟨#[108, 97, 116, 101]⟩) (.string F) 39) (by simp [Value.oneCell']) (by unfold maxLen; omega) (by omega) (by simp; omega) ?_; intro v' w5 hown5 hgrow5 _)
   have A3 : Below wr.heap.size wr (wr.alloc (.cells #[.string ⟨#[108, 97, 116, 101]⟩, .string F] 39)):=(Below.refl _ _).alloc (Nat.le_refl _) _
   have I4:=hI.out.call A3
   have hrow : ∀ k, (Value.slice ad i cd).ownBlock = some k → W1.heap.size ≤ k:=fun k e => (hI.out.own.lt k e).1
   have B5 : Hid (Below w.heap.size w w5):=by
    refine I4.bel.trans ⟨hgrow5.os, hgrow5.tape, hgrow5.output, hgrow5.size, fun k hk => hgrow5.block k (by have:=I4.bel.size; omega) (fun e => ?_)⟩
    have:=hrow k e.symm
    have:=y1.out.size
    omega
   have S5 : Hid (W1.heap.size ≤ w5.heap.size):=Nat.le_trans I4.siz hgrow5.size
   have O5 : w5.ownsRow W1.heap.size 39 2 v' (i + 1) (massC FW):=by rw [HAL.out, massC_append]; exact hown5
   obtain ⟨gd, cap, rfl, hgB, hglt⟩:=O5.form (Nat.succ_pos i)
   have hFWl : FW.length = i + 1:=by have:=O5.1; rw [massC_length] at this; omega
   have PD:=hid (s_DelM w5 36 (fun x => !notZ x) gd cap W1.heap.size (i + 1) FW O5 hFWl (by omega) S5.out (enters_of Tryz.func36 (by kernel_rfl) rfl) (fun W x => fd_isZ W x))
   rw [← HPP.out] at PD
   have HFPl : Hid (FP.length ≤ i + 1):=by
    show _ ≤ _
    rw [HPP.out, ← hFWl]
    exact List.length_filter_le _ _
   have Y1:=hid (y1.out.size)
   clear hown5 hgrow5 A3 I4 hrow b3 b4 hI O5 hgB hglt hFWl
   go_wp2_with fail
   refine PD.out.mono ?_; rintro e w6 ⟨⟨m, hm, rfl, O6⟩, hb6⟩
   have B6:=hid (B5.out.trans (hb6.mono Y1.out))
   have S6:=hid (Nat.le_trans S5.out hb6.size)
   rcases O6.2 with ⟨e1, _⟩ | ⟨g', cap', cur, e1, hgb, hgh, h1, h2, h3, h4⟩
   ·simp at e1
   simp only [Value.slice.injEq, Option.some.injEq, Addr.mk.injEq, and_true, true_and] at e1
   obtain ⟨rfl, rfl⟩:=e1
   have hdl:=HFPl.out
   have hSM:=s_SortM 38 gd cap W1.heap.size FP.toArray w6 cur hgb hgh (by simp; omega) h2 h3 (by simp; rw [← hm]; exact h4) (by simp; omega) (by simpa using HPN.out) (enters_of Tryz.func38 (by kernel_rfl) rfl) (fun x y W => fd_order x y W)
   simp only [List.size_toArray] at hSM
   rw [← hm] at hSM
   have HSM:=hid hSM
   clear hSM h1 h2 h3 h4 hgh hdl O6 hb6 PD hm
   go_wp2_with fail
   refine HSM.out.mono ?_; rintro e w8 ⟨rfl, ho8, hb8⟩
   have B8:=hid (B6.out.trans (hb8.mono Y1.out))
   have M8:=hid (MRow.of_owns ho8)
   clear ho8 hb8
   go_wp2_with fail
   go_ret2
   exact ⟨⟨_, rfl, M8.out⟩, B8.out⟩
end Go.Proofs.YtckihjfkafdncaaGreatDoor
namespace Go.Proofs.YtckihjfkafdncaaGreatDoor
open Go.RowKit
open Go.Shelf
open Go.Lib (decDigits nDigits)
theorem q_PowN1 (w : World) (v : Value) (q : Rat) (n g1 : Nat) (z : Int) (hp : IsQ .u64 w v q) (sp : Sml 1000 q) (h0 : q ≠ 0) (hn1 : 1 ≤ n) (hn : n ≤ 1000000000) (hzn : z = -(n : Int)) (hL : Lay w) (c1 : w.cell? ⟨g1, 0, none⟩ = some (.int .i64 z)) :
 Calls Tryz.prog 103 #[v, .pointer (some ⟨g1, 0, none⟩)] w fun e w' => e = .returned (.tuple #[.string (outB (q⁻¹ ^ n)), .int .i64 (outE (q⁻¹ ^ n))]) ∧ Below w.heap.size w w':=by
 have FS:=fun V v hv => hid (f_Sign V v q hv)
 have FI:=fun V v hv => hid (f_Inv V v q hv h0)
 have sg:=sg_ne h0
 have spi:=sml_inv h0 sp
 obtain ⟨sx, hz⟩ : ∃ z, sgQ q = z:=⟨_, rfl⟩
 rw [hz] at FS sg
 obtain ⟨p, hpq⟩ : ∃ p, q⁻¹ = p:=⟨_, rfl⟩
 rw [hpq] at FI spi ⊢
 have F1:=fun V v hv hV => hid (l_Pow V v p.num.natAbs n hv (Nat.le_trans spi.n (by omega)) (by omega) hV)
 have F2:=fun V v hv hV => hid (l_Pow V v p.den n hv (Nat.le_trans spi.d (by omega)) (by omega) hV)
 obtain ⟨e1, e2, e3⟩:=pow_parts p n
 have HOV:=hid (fun h => pow_over (q:=p) (n:=n) h)
 have F3:=fun V v hv hV (h1 : nDigits (p.num.natAbs ^ n) ≤ 4000) (h2 : nDigits (p.den ^ n) ≤ 4000) => hid (f_Num V v (p ^ n) hv (by rw [e2]; exact Nat.le_trans (limbs_of_digits h1) (by omega)) (by rw [e3]; exact Nat.le_trans (limbs_of_digits h2) (by omega)) hV)
 obtain ⟨B, hB⟩ : ∃ B, outB (p ^ n) = B:=⟨_, rfl⟩
 obtain ⟨E, hE⟩ : ∃ E, outE (p ^ n) = E:=⟨_, rfl⟩
 rw [hB, hE] at F3 HOV ⊢
 clear hB hE
 have HL:=hid hL
 obtain ⟨N1, D1, rfl, hn1', hd1⟩:=hp.ex
 obtain ⟨a1, c1', rfl, _⟩:=hn1'.openI
 obtain ⟨a2, c2', rfl, _⟩:=hd1.openI
 obtain ⟨k1, hk1⟩ : ∃ k, (limbs q.num.natAbs).length = k:=⟨_, rfl⟩
 obtain ⟨k2, hk2⟩ : ∃ k, (limbs q.den).length = k:=⟨_, rfl⟩
 obtain ⟨mq, hmq⟩ : ∃ m, decide (q.num < 0) = m:=⟨_, rfl⟩
 rw [hk1, hk2, hmq] at hp ⊢
 have X1:=hid (Blk.new w #[.bool mq, .slice a1 k1 c1', .slice a2 k2 c2'] 133)
 have b1:=hid ((Below.refl w.heap.size w).alloc (Nat.le_refl _) (.cells #[.bool mq, .slice a1 k1 c1', .slice a2 k2 c2'] 133))
 have HP:=hid (hp.call b1.out)
 have r0:=X1.out.cell 0
 have r1:=X1.out.cell 1
 have r2:=X1.out.cell 2
 have C1:=(b1.out.cell (cell_lt c1)).trans c1
 simp at r0 r1 r2
 have q0 : decide (z < 0) = true:=decide_eq_true (by omega)
 obtain ⟨u, hu⟩ : ∃ u : Int, 18446744073709551616 - (n : Int) = u:=⟨_, rfl⟩
 have w0 : IntKind.u64.wrap z = u:=by simp [IntKind.wrap, IntKind.bits, IntKind.signed]; omega
 have w1 : IntKind.u64.wrap (-u) = (n : Int):=by simp [IntKind.wrap, IntKind.bits, IntKind.signed]; omega
 have E1:=hid e1; have E2:=hid e2; have E3:=hid e3; have HN:=hid hn
 clear hk1 hk2 hmq hn1' hd1 hp hL sp spi e1 e2 e3 c1 hn hn1 h0 hz hpq hzn hu
 go_enter Tryz.func103, Tryz.ntmps103
 go_wp2_with fail
 refine (FS _ _ HP.out).out.mono ?_; rintro e w2 ⟨rfl, hb2⟩
 have y2:=hid (bnext b1.out hb2); have X2:=hid (X1.out.call hb2); have C2:=(hb2.cell (cell_lt C1)).trans C1; have HP2:=hid (HP.out.call hb2)
 clear hb2 r0 r1 r2 C1
 have r0:=X2.out.cell 0
 have r1:=X2.out.cell 1
 have r2:=X2.out.cell 2
 simp at r0 r1 r2
 go_wp2_with fail
 refine (FI _ _ HP2.out).out.mono ?_; rintro e w3 ⟨⟨vi, rfl, hvi⟩, hb3⟩
 have y3:=hid (bnext y2.out hb3); have X3:=hid (X2.out.call hb3); have C3:=(hb3.cell (cell_lt C2)).trans C2
 obtain ⟨N3, D3, rfl, hn3, hd3⟩:=hvi.ex
 obtain ⟨a3, c3, rfl, _⟩:=hn3.openI
 obtain ⟨a4, c4, rfl, _⟩:=hd3.openI
 obtain ⟨k3, hk3⟩ : ∃ k, (limbs p.num.natAbs).length = k:=⟨_, rfl⟩
 obtain ⟨k4, hk4⟩ : ∃ k, (limbs p.den).length = k:=⟨_, rfl⟩
 obtain ⟨m1, hm1⟩ : ∃ m, decide (p.num < 0) = m:=⟨_, rfl⟩
 rw [hk3, hk4, hm1] at hvi ⊢
 rw [hk3] at hn3
 rw [hk4] at hd3
 have E1':=E1.out
 rw [hm1] at E1'
 have E1:=hid E1'
 have HN3:=hid hn3; have HD3:=hid hd3
 clear hb3 r0 r1 r2 C2 hk3 hk4 hm1 hvi hn3 hd3 E1'
 have r0:=X3.out.cell 0
 have r1:=X3.out.cell 1
 have r2:=X3.out.cell 2
 have f0:=X3.out.free 0
 have f1:=X3.out.free 1
 have f2:=X3.out.free 2
 simp at r0 r1 r2
 obtain ⟨s1, s2⟩:=set3 X3.out m1 a3 a4 k3 c3 k4 c4
 have N2:=hid (s1 _ _ _ HN3.out)
 have D2:=hid (s1 _ _ _ HD3.out)
 have X0:=hid s2
 have y0 : Hid (Below w.heap.size w (((w3.setCell ⟨w.heap.size, 0, none⟩ (.bool m1)).setCell ⟨w.heap.size, 1, none⟩ (.slice a3 k3 c3)).setCell ⟨w.heap.size, 2, none⟩ (.slice a4 k4 c4))):=((y3.out.setCell (Nat.le_refl _) _).setCell (Nat.le_refl _) _).setCell (Nat.le_refl _) _
 clear s1 s2
 go_wp2_with fail
 clear f0 f1 f2
 refine (F1 _ _ N2.out (HL.out.call y0.out)).out.mono ?_; rintro e w3 ⟨hr3, hb3⟩
 have y3:=hid (bnext y0.out hb3); have X3:=hid (X0.out.call hb3); have D3:=hid (D2.out.call hb3)
 clear hb3 r0 r1 r2
 have r0:=X3.out.cell 0
 have r1:=X3.out.cell 1
 have r2:=X3.out.cell 2
 simp at r0 r1 r2
 rcases hr3 with ⟨l3, v3, rfl, hv3⟩ | ⟨l3, rfl⟩
 ·obtain ⟨a3, c3, rfl, _⟩:=hv3.openI
  obtain ⟨k3, hk3⟩ : ∃ k, (limbs (p.num.natAbs ^ n)).length = k:=⟨_, rfl⟩
  rw [hk3] at hv3 ⊢
  have V3:=hid hv3; have L3:=hid l3
  clear hk3 hv3 l3
  go_wp2_with fail
  refine (F2 _ _ D3.out (HL.out.call y3.out)).out.mono ?_; rintro e w4 ⟨hr4, hb4⟩
  have y4:=hid (bnext y3.out hb4); have X4:=hid (X3.out.call hb4); have V4:=hid (V3.out.call hb4)
  clear hb4 r0 r1 r2
  have r0:=X4.out.cell 0
  have r1:=X4.out.cell 1
  have r2:=X4.out.cell 2
  simp at r0 r1 r2
  rcases hr4 with ⟨l4, v4, rfl, hv4⟩ | ⟨l4, rfl⟩
  ·obtain ⟨a4, c4, rfl, _⟩:=hv4.openI
   obtain ⟨k4, hk4⟩ : ∃ k, (limbs (p.den ^ n)).length = k:=⟨_, rfl⟩
   rw [hk4] at hv4 ⊢
   have W4:=hid hv4; have L4:=hid l4
   clear hk4 hv4 l4
   have M:=hid (show IsQ .u64 w4 (.agg #[.bool (m1 && decide (n % 2 = 1)), .slice a3 k3 c3, .slice a4 k4 c4]) (p ^ n) from ⟨_, _, by rw [E1.out], by rw [E2.out]; exact V4.out, by rw [E3.out]; exact W4.out⟩)
   obtain ⟨Q, hQ⟩ : ∃ Q, p ^ n = Q:=⟨_, rfl⟩
   rw [hQ] at F3 M
   clear hQ HOV F1 F2
   have F4:=F3 _ _ M.out (HL.out.call y4.out) L3.out L4.out
   cases m1
   ·simp only [Bool.false_and] at F4
    go_wp2_with fail
    refine F4.out.mono ?_; rintro e w5 ⟨rfl, hb5⟩
    have y5:=hid (bnext y4.out hb5); clear hb5
    go_wp2_with fail
    go_ret2
    exact ⟨rfl, y5.out⟩
   ·simp only [Bool.true_and] at F4
    have e9 : ((n : Int) % 2 == 1) = decide (n % 2 = 1):=by
     rw [Bool.eq_iff_iff, beq_iff_eq, decide_eq_true_eq]; omega
    rw [← e9] at F4
    clear e9
    go_wp2_with fail
    refine F4.out.mono ?_; rintro e w5 ⟨rfl, hb5⟩
    have y5:=hid (bnext y4.out hb5); clear hb5
    go_wp2_with fail
    go_ret2
    exact ⟨rfl, y5.out⟩
  ·have e7:=hid (HOV.out (.inr l4))
   clear l4
   go_wp2_with fail
   go_ret2
   exact ⟨by rw [e7.out.1, e7.out.2]; rfl, y4.out⟩
 ·have e7:=hid (HOV.out (.inl l3))
  clear l3
  go_wp2_with fail
  refine (F2 _ _ D3.out (HL.out.call y3.out)).out.mono ?_; rintro e w4 ⟨hr4, hb4⟩
  have y4:=hid (bnext y3.out hb4)
  rcases hr4 with ⟨l4, v4, rfl, hv4⟩ | ⟨l4, rfl⟩
  ·obtain ⟨a4, c4, rfl, _⟩:=hv4.openI
   obtain ⟨k4, hk4⟩ : ∃ k, (limbs (p.den ^ n)).length = k:=⟨_, rfl⟩
   rw [hk4]
   clear hk4 hv4 l4 hb4
   go_wp2_with fail
   go_ret2
   exact ⟨by rw [e7.out.1, e7.out.2]; rfl, y4.out⟩
  ·clear l4 hb4
   go_wp2_with fail
   go_ret2
   exact ⟨by rw [e7.out.1, e7.out.2]; rfl, y4.out⟩
def pnB (n : Nat) (s : ByteArray) : ByteArray:=op1B (fun q => q⁻¹ ^ n) s
def pnE (n : Nat) (s : ByteArray) : Int:=op1E (fun q => q⁻¹ ^ n) s
theorem q_PowN (w : World) (s : ByteArray) (n : Nat) (z : Int) (hs : s.size ≤ 1000000) (hq : qE s = 0) (h0 : vQ s ≠ 0) (hn : n ≤ 1000000000) (hzn : z = -(n : Int)) (hL : Lay w) :
 Calls Tryz.prog 51 #[.string s, .int .i64 z] w fun e w' => e = .returned (.tuple #[.string (pnB n s), .int .i64 (pnE n s)]) ∧ Below w.heap.size w w':=by
 by_cases hn0 : n = 0
 ·subst hn0
  obtain rfl : z = ((0 : Nat) : Int):=by omega
  refine (q_Pow w s 0 hs (by omega) hL).mono ?_
  rintro e w' ⟨rfl, hb⟩
  refine ⟨?_, hb⟩
  unfold pwB pwE pnB pnE op1B op1E
  simp only [Rat.pow_zero]
 have HL:=hid hL
 have b1:=hid ((Below.refl w.heap.size w).alloc (Nat.le_refl _) (.cells #[.int .i64 z] 3))
 have X1:=hid (Blk.new w #[.int .i64 z] 3)
 obtain ⟨g1, hg1⟩ : ∃ g, w.heap.size = g:=⟨_, rfl⟩
 obtain ⟨w1, hw1⟩ : ∃ w1, w.alloc (.cells #[.int .i64 z] 3) = w1:=⟨_, rfl⟩
 have L1:=hid (HL.out.call b1.out)
 have b1':=b1
 rw [hw1] at b1 X1 L1
 rw [hg1] at X1
 have W1:=hid (q_with w1 s 103 #[.pointer (some ⟨g1, 0, none⟩)] (outB ((vQ s)⁻¹ ^ n)) (outE ((vQ s)⁻¹ ^ n)) hs L1.out (enters_of Tryz.func103 (by kernel_rfl) rfl)
  (fun W v hq hb hv hLW => q_PowN1 W v (vQ s) n g1 z hv (sml_vQ hq) h0 (by omega) hn hzn hLW ((X1.out.call hb).cell 0)))
 have e1 : wB (outB ((vQ s)⁻¹ ^ n)) s = pnB n s:=rfl
 have e2 : wE (outE ((vQ s)⁻¹ ^ n)) s = pnE n s:=rfl
 rw [e1, e2] at W1
 obtain ⟨B, hB⟩ : ∃ B, pnB n s = B:=⟨_, rfl⟩
 obtain ⟨E, hE⟩ : ∃ E, pnE n s = E:=⟨_, rfl⟩
 rw [hB, hE] at W1 ⊢
 have HW:=hid hw1; have HG:=hid hg1
 clear hB hE hs hL hn e1 e2 hw1 hg1 b1' hq h0 hn0 hzn
 go_enter Tryz.func51, Tryz.ntmps51
 go_wp2_with fail
 have hw1:=HW.out; have hg1:=HG.out
 rw [hw1, hg1]
 refine W1.out.mono ?_; rintro e w2 ⟨rfl, hb2⟩
 have y2:=hid (bnext b1.out hb2)
 clear hb2 hw1 hg1
 go_wp2_with fail
 go_ret2
 exact ⟨rfl, y2.out⟩
theorem MRow.nilS (w : World) : MRow w (.slice none 0 0) []:=MRow.nil w
theorem fd_Law (w : World) (v : Value) (c : List Int) (a : ByteArray) (n : Int) (hv : Row w v (zs c)) (ha : a.size ≤ 100000) (hL : LayB w) :
 Calls Tryz.prog 9 #[v, .string a, .int .i64 n] w fun e w' => (∃ u, e = .returned (.tuple #[u, .int .i64 (flE c a n)]) ∧ MRow w' u (flR c a n)) ∧ Below w.heap.size w w':=by
 by_cases h0 : flE c a n = 0
 ·have hE:=h0
  unfold flE at h0
  split at h0
  ·rename_i h1; exact absurd h0 h1
  ·rename_i h1
   split at h0
   ·cases h0
   ·rename_i h2
    split at h0
    ·cases h0
    ·rename_i h3
     obtain ⟨m, rfl⟩ : ∃ m : Nat, n = (m : Nat):=⟨n.toNat, by omega⟩
     rw [hE]
     have e2 : flR c a (m : Nat) = sortM (fkP (gV (bN (cW a)) (bN (qD a)) false m) m c):=by unfold flR; rw [if_pos hE, Int.toNat_natCast]
     rw [e2]
     refine fd_Law_ok w v c a m hv ha (Classical.byContradiction h1) (by omega) ?_ hL
     have : ¬ (256 : Int) < ((m * c.length : Nat) : Int):=by rwa [Int.natCast_mul]
     omega
 ·have e2 : flR c a n = []:=if_neg h0
  rw [e2]
  have HQ:=hid (fd_question w v c a hv ha hL.l)
  obtain ⟨s, cp, rfl, q1, q2, q3⟩:=hv.openZ
  obtain ⟨L, hLL⟩ : ∃ L, c.length = L:=⟨_, rfl⟩
  unfold flE at h0 ⊢
  obtain ⟨z, hz⟩ : ∃ z, qnE c a = z:=⟨_, rfl⟩
  have hz0:=hz
  rw [hz] at HQ h0 ⊢
  rw [hLL] at HQ h0 q1 ⊢
  by_cases c0 : z = 0
  case neg =>
   rw [if_pos c0]
   have t0 : (z == 0) = false:=by rw [beq_eq_false_iff_ne]; exact c0
   clear hv q3 hLL hz hz0 h0 c0 ha hL
   go_enter Tryz.func9, Tryz.ntmps9
   go_wp2_with fail
   refine HQ.out.mono ?_; rintro e w0 ⟨rfl, hb0⟩
   go_wp2_with fail
   go_ret2
   exact ⟨⟨_, rfl, MRow.nilS _⟩, hb0⟩
  rw [c0] at HQ
  rw [if_neg (by rw [c0]; simp)] at h0 ⊢
  by_cases c1 : n < 0 ∨ 32 < n
  ·rw [if_pos c1]
   obtain ⟨p, hp⟩ : ∃ p, decide (n < 0) = p:=⟨_, rfl⟩
   obtain ⟨q, hq⟩ : ∃ q, decide (32 < n) = q:=⟨_, rfl⟩
   have hpq : (p || q) = true:=by rw [← hp, ← hq]; simpa using c1
   clear hv q3 hLL hz hz0 h0 c0 c1 ha hL
   cases p
   ·obtain rfl : q = true:=by simpa using hpq
    clear hpq
    go_enter Tryz.func9, Tryz.ntmps9
    go_wp2_with fail
    refine HQ.out.mono ?_; rintro e w0 ⟨rfl, hb0⟩
    go_wp2_with fail
    go_ret2
    exact ⟨⟨_, rfl, MRow.nilS _⟩, hb0⟩
   ·clear hpq hq
    go_enter Tryz.func9, Tryz.ntmps9
    go_wp2_with fail
    refine HQ.out.mono ?_; rintro e w0 ⟨rfl, hb0⟩
    go_wp2_with fail
    go_ret2
    exact ⟨⟨_, rfl, MRow.nilS _⟩, hb0⟩
  ·rw [if_neg c1] at h0 ⊢
   have hq:=qnE_ok (hz0.trans c0)
   rw [hLL] at hq
   obtain ⟨-, k2, -, -⟩:=hq
   obtain ⟨m, rfl⟩ : ∃ m : Nat, n = (m : Nat):=⟨n.toNat, by omega⟩
   by_cases c2 : 256 < ((m : Nat) : Int) * ((L : Nat) : Int)
   ·rw [if_pos c2]
    have t1 : decide ((m : Int) < 0) = false:=by simp
    have t2 : decide ((32 : Int) < (m : Int)) = false:=by simp; omega
    obtain ⟨M, hM⟩ : ∃ M : Int, (m : Int) * (L : Int) = M:=⟨_, rfl⟩
    have hM2 : M ≤ 100000:=by
     rw [← hM]
     have h5 : m * L ≤ 32 * 256:=Nat.mul_le_mul (by omega) k2
     have : ((m * L : Nat) : Int) ≤ 100000:=by omega
     rwa [Int.natCast_mul] at this
    rw [hM] at c2
    have wm : IntKind.i64.wrap ((m : Int) * (L : Int)) = M:=by rw [hM, IntWalk.i64_in _ ⟨by omega, by omega⟩]
    have t3 : decide (256 < M) = true:=decide_eq_true c2
    clear hv q3 hLL hz hz0 h0 c0 c1 c2 ha hL hM hM2 k2
    go_enter Tryz.func9, Tryz.ntmps9
    go_wp2_with fail
    refine HQ.out.mono ?_; rintro e w0 ⟨rfl, hb0⟩
    go_wp2_with fail
    go_ret2
    exact ⟨⟨_, rfl, MRow.nilS _⟩, hb0⟩
   ·rw [if_neg c2] at h0
    exact absurd rfl h0
theorem fd_Factor (w : World) (a : ByteArray) (reach : Int) (one : Bool) (ha : a.size ≤ 100000) (hL : Lay w) :
 Calls Tryz.prog 16 #[.string a, .int .i64 reach, .bool one] w fun e w' => e = .returned (.tuple #[.string (ffB a reach one), .int .i64 (ffE a reach one)]) ∧ Below w.heap.size w w':=by
 have HR:=hid (fd_ratio w a ha hL)
 unfold ffB ffE
 by_cases h0 : ffX a reach = 0
 ·rw [if_neg (by rw [h0]; simp), if_neg (by rw [h0]; simp)]
  have h0':=h0
  unfold ffX at h0'
  split at h0'
  ·rename_i h1; exact absurd h0' h1
  rename_i h1
  have h1 : ivrE a = 0:=Classical.byContradiction h1
  split at h0'
  ·cases h0'
  rename_i h2
  obtain ⟨g1, g2⟩:=ivrE_ok h1
  rw [g1] at HR
  obtain ⟨hq, -⟩:=iv_pos h1
  have hne:=iv_ne h1
  obtain ⟨r, rfl⟩ : ∃ r : Nat, reach = (r : Nat):=⟨reach.toNat, by omega⟩
  have HP:=fun V hV => hid (q_PowN V a (ffM (r : Nat) one) (-((ffM (r : Nat) one : Nat) : Int)) (by omega) hq hne (by unfold ffM; split <;> simp <;> omega) rfl hV)
  have e1 : pnB (ffM (r : Nat) one) a = pngB (ffM (r : Nat) one) a:=rfl
  have e2 : pnE (ffM (r : Nat) one) a = pngE (ffM (r : Nat) one) a:=rfl
  rw [e1, e2] at HP
  have hM : ffM (r : Nat) one = if one = true then r else 2 * r:=by unfold ffM; rw [Int.toNat_natCast]
  obtain ⟨B, hB⟩ : ∃ s, pngB (ffM (r : Nat) one) a = s:=⟨_, rfl⟩
  obtain ⟨E, hE⟩ : ∃ s, pngE (ffM (r : Nat) one) a = s:=⟨_, rfl⟩
  rw [hB, hE] at HP ⊢
  rw [hM] at HP
  have t0 : (a.toList == [48]) = false:=ne_lit g2
  have HL:=hid hL
  cases one
  ·simp only [Bool.false_eq_true, if_false] at HP
   have wr2 : IntKind.i64.wrap ((r : Int) * 2) = ((2 * r : Nat) : Int):=by rw [IntWalk.i64_in _ ⟨by omega, by omega⟩]; omega
   have hneg : IntKind.i64.wrap (-((2 * r : Nat) : Int)) = -((2 * r : Nat) : Int):=by rw [IntWalk.i64_in _ ⟨by omega, by omega⟩]
   obtain ⟨z, hz⟩ : ∃ z : Int, ((2 * r : Nat) : Int) = z:=⟨_, rfl⟩
   obtain ⟨R, hR⟩ : ∃ R : Int, ((r : Nat) : Int) = R:=⟨_, rfl⟩
   rw [hz] at HP wr2 hneg
   rw [hR] at wr2 h2 ⊢
   have t1 : decide (R < 0) = false:=decide_eq_false (by omega)
   have t2 : decide (10000 < R) = false:=decide_eq_false (by omega)
   clear ha hL h0 h0' h1 h2 g1 g2 hq hne e1 e2 hM hB hE hz hR
   go_enter Tryz.func16, Tryz.ntmps16
   go_wp2_with fail
   refine HR.out.mono ?_; rintro e w1 ⟨rfl, hb1⟩
   have y1:=hid hb1; clear hb1
   go_wp2_with fail
   refine (HP _ (HL.out.call y1.out)).out.mono ?_; rintro e w2 ⟨rfl, hb2⟩
   have y2:=hid (bnext y1.out hb2); clear hb2
   go_wp2_with fail
   go_ret2
   exact ⟨rfl, y2.out⟩
  ·simp only [if_true] at HP
   have hneg : IntKind.i64.wrap (-(r : Int)) = -(r : Int):=by rw [IntWalk.i64_in _ ⟨by omega, by omega⟩]
   obtain ⟨R, hR⟩ : ∃ R : Int, ((r : Nat) : Int) = R:=⟨_, rfl⟩
   rw [hR] at HP hneg h2 ⊢
   have t1 : decide (R < 0) = false:=decide_eq_false (by omega)
   have t2 : decide (10000 < R) = false:=decide_eq_false (by omega)
   clear ha hL h0 h0' h1 h2 g1 g2 hq hne e1 e2 hM hB hE hR
   go_enter Tryz.func16, Tryz.ntmps16
   go_wp2_with fail
   refine HR.out.mono ?_; rintro e w1 ⟨rfl, hb1⟩
   have y1:=hid hb1; clear hb1
   go_wp2_with fail
   refine (HP _ (HL.out.call y1.out)).out.mono ?_; rintro e w2 ⟨rfl, hb2⟩
   have y2:=hid (bnext y1.out hb2); clear hb2
   go_wp2_with fail
   go_ret2
   exact ⟨rfl, y2.out⟩
 ·rw [if_pos h0, if_pos h0]
  unfold ffX at h0 ⊢
  by_cases hiv : ivrE a = 0
  ·rw [if_neg (by rw [hiv]; simp)] at h0 ⊢
   obtain ⟨g1, g2⟩:=ivrE_ok hiv
   rw [g1] at HR
   have ta : (a.toList == [48]) = false:=ne_lit g2
   by_cases c1 : reach < 0 ∨ 10000 < reach
   ·rw [if_pos c1]
    obtain ⟨p1, h1⟩ : ∃ p, decide (reach < 0) = p:=⟨_, rfl⟩
    obtain ⟨p2, h2⟩ : ∃ p, decide (10000 < reach) = p:=⟨_, rfl⟩
    have hpq : (p1 || p2) = true:=by rw [← h1, ← h2]; simpa using c1
    clear h0 c1 ha hL g1 g2 hiv
    cases p1
    case true =>
     clear hpq h2
     go_enter Tryz.func16, Tryz.ntmps16
     go_wp2_with fail
     refine HR.out.mono ?_; rintro e w0 ⟨rfl, hb0⟩
     go_wp2_with fail
     go_ret2
     exact ⟨rfl, hb0⟩
    obtain rfl : p2 = true:=by simpa using hpq
    clear hpq
    go_enter Tryz.func16, Tryz.ntmps16
    go_wp2_with fail
    refine HR.out.mono ?_; rintro e w0 ⟨rfl, hb0⟩
    go_wp2_with fail
    go_ret2
    exact ⟨rfl, hb0⟩
   ·rw [if_neg c1] at h0
    exact absurd rfl h0
  ·rw [if_pos hiv]
   unfold ivrE at hiv ⊢
   obtain ⟨z, hz⟩ : ∃ z, gPE a = z:=⟨_, rfl⟩
   rw [hz] at HR hiv ⊢
   by_cases c0 : z = 0
   case neg =>
    rw [if_pos c0]
    have t0 : (z == 0) = false:=by rw [beq_eq_false_iff_ne]; exact c0
    clear hz h0 c0 ha hL hiv
    go_enter Tryz.func16, Tryz.ntmps16
    go_wp2_with fail
    refine HR.out.mono ?_; rintro e w0 ⟨rfl, hb0⟩
    go_wp2_with fail
    go_ret2
    exact ⟨rfl, hb0⟩
   subst c0
   rw [if_neg (by simp)] at hiv ⊢
   by_cases ca : a = ⟨#[48]⟩
   ·subst ca
    rw [if_pos rfl]
    clear hz h0 ha hL hiv
    go_enter Tryz.func16, Tryz.ntmps16
    go_wp2_with fail
    refine HR.out.mono ?_; rintro e w0 ⟨rfl, hb0⟩
    go_wp2_with fail
    go_ret2
    exact ⟨rfl, hb0⟩
   ·rw [if_neg ca] at hiv
    exact absurd rfl hiv
theorem k_PickU (x : Int) (n : Nat) (h0 : 0 < n) (hn : n ≤ 1000000) (h1 : -9223372036854775808 ≤ x) (h2 : x ≤ 9223372036854775807) :
 ∃ i : Nat, i < n ∧ ∀ w, Calls Tryz.prog 14 #[.int .i64 x, .int .i64 (n : Nat)] w fun e w' => e = .returned (.int .i64 (i : Nat)) ∧ w = w':=by
 have r1:=Int.tmod_lt_of_pos x (show (0 : Int) < n by omega)
 have r2:=Int.lt_tmod_of_pos x (show (0 : Int) < n by omega)
 obtain ⟨r, hr⟩ : ∃ r, x.tmod (n : Int) = r:=⟨_, rfl⟩
 rw [hr] at r1 r2
 have e0 : IntKind.i64.wrap r = r:=by rw [IntWalk.i64_in _ ⟨by omega, by omega⟩]
 have hz : ((n : Int) == 0) = false:=by rw [beq_eq_false_iff_ne]; omega
 by_cases hneg : r < 0
 ·have q0 : decide (r < 0) = true:=by simp; omega
  obtain ⟨i, hi⟩ : ∃ i : Nat, r + (n : Int) = i:=⟨(r + n).toNat, by omega⟩
  have e1 : IntKind.i64.wrap (r + (n : Int)) = r + (n : Int):=by rw [IntWalk.i64_in _ ⟨by omega, by omega⟩]
  refine ⟨i, by omega, fun w => ?_⟩
  rw [← hi]
  clear hi hneg
  go_enter Tryz.func14, Tryz.ntmps14
  go_wp2_with fail
  go_ret
  exact ⟨rfl, rfl⟩
 ·have q0 : decide (r < 0) = false:=by simp; omega
  obtain ⟨i, hi⟩ : ∃ i : Nat, r = i:=⟨r.toNat, by omega⟩
  refine ⟨i, by omega, fun w => ?_⟩
  rw [← hi]
  clear hi hneg
  go_enter Tryz.func14, Tryz.ntmps14
  go_wp2_with fail
  go_ret
  exact ⟨rfl, rfl⟩
theorem k_Pick (w : World) (x : Int) (n : Nat) (h0 : 0 < n) (hn : n ≤ 1000000) (h1 : -9223372036854775808 ≤ x) (h2 : x ≤ 9223372036854775807) :
 ∃ i : Nat, i < n ∧ Calls Tryz.prog 14 #[.int .i64 x, .int .i64 (n : Nat)] w fun e w' => e = .returned (.int .i64 (i : Nat)) ∧ w = w':=by
 obtain ⟨i, h3, h4⟩:=k_PickU x n h0 hn h1 h2
 exact ⟨i, h3, h4 w⟩
end Go.Proofs.YtckihjfkafdncaaGreatDoor
namespace Go.Proofs.YtckihjfkafdncaaGreatDoor
open Go.RowKit
open Go.Shelf
theorem mrow_lit (w : World) (L : List (ByteArray × ByteArray)) (n : Nat) (hn : L.length = n) (hL : n ≤ 1000) : MRow (w.alloc (.cells (massC L).toArray 39)) (.slice (some ⟨w.heap.size, 0, none⟩) n n) L:=by
 subst hn
 refine ⟨some ⟨w.heap.size, 0, none⟩, L.length, rfl, Nat.le_refl _, by omega, fun i x h => ⟨w.heap.size, 0, rfl, by simp, ?_, ?_⟩⟩
 ·rw [Nat.zero_add, (Blk.new w _ _).cell, List.getElem?_toArray]; exact (massC_get h).1
 ·rw [Nat.zero_add, (Blk.new w _ _).cell, List.getElem?_toArray]; exact (massC_get h).2
theorem rowZ_lit (w : World) (L : List Int) (n : Nat) (hn : L.length = n) (hL : n ≤ 1000) : Row (w.alloc (.cells (zs L).toArray 3)) (.slice (some ⟨w.heap.size, 0, none⟩) n n) (zs L) :=
 Row.of_blk (Blk.new w _ _) (by rw [zs_length]; exact hn) (by unfold maxLen; omega) (fun i x h => by rw [List.getElem?_toArray]; exact h) (Nat.le_refl _) (by unfold maxLen; omega)
open Go.Lib (decDigits nDigits)
def halfB : ByteArray:=⟨#[49, 47, 50]⟩
theorem pv_a : pkA [3, 5, 5] halfB [⟨#[49]⟩, ⟨#[49]⟩, ⟨#[49]⟩] = (1, true) ∧ pkE [3, 5, 5] halfB [⟨#[49]⟩, ⟨#[49]⟩, ⟨#[49]⟩] = 0:=by decide +kernel
theorem pv_b : flE [1, 1] halfB 2 = 0 ∧ flR [1, 1] halfB 2 = [(⟨#[48]⟩, ⟨#[55, 47, 49, 54]⟩), (⟨#[49]⟩, ⟨#[49, 47, 56]⟩), (⟨#[108, 97, 116, 101]⟩, ⟨#[55, 47, 49, 54]⟩)]:=by
 have h : flE [1, 1] halfB 2 = 0:=by decide +kernel
 refine ⟨h, ?_⟩
 unfold flR
 rw [if_pos h]
 have e : fkP (gV (bN (cW halfB)) (bN (qD halfB)) false (2 : Int).toNat) (2 : Int).toNat [1, 1] = [(⟨#[48]⟩, ⟨#[55, 47, 49, 54]⟩), (⟨#[49]⟩, ⟨#[49, 47, 56]⟩), (⟨#[108, 97, 116, 101]⟩, ⟨#[55, 47, 49, 54]⟩)]:=by decide +kernel
 rw [e]
 exact List.mergeSort_of_pairwise (by decide +kernel)
theorem rowZ_is (w : World) (L : List Int) (cs : Array Value) (n b : Nat) (hc : cs = (zs L).toArray) (hb : w.heap.size = b) (hn : L.length = n) (hL : n ≤ 1000) : Row (w.alloc (.cells cs 3)) (.slice (some ⟨b, 0, none⟩) n n) (zs L):=by
 subst hc hb
 exact rowZ_lit w L n hn hL
theorem rowB_is (w : World) (L : List ByteArray) (cs : Array Value) (n b : Nat) (hc : cs = (strs L).toArray) (hb : w.heap.size = b) (hn : L.length = n) (hL : n ≤ 1000) : Row (w.alloc (.cells cs 33)) (.slice (some ⟨b, 0, none⟩) n n) (strs L):=by
 subst hc hb
 exact Row.of_blk (Blk.new w _ _) (by rw [strs_length]; exact hn) (by unfold maxLen; omega) (fun i x h => by rw [List.getElem?_toArray]; exact h) (Nat.le_refl _) (by unfold maxLen; omega)
theorem w_lives25 (w : World) (hL : LayB w) :
 Calls Tryz.prog 8 #[] w fun e w' => e = .returned (.bool true) ∧ Below w.heap.size w w':=by
 have HL:=hid hL
 have PP:=fun V v u hv hu hV => hid (fd_Peak V v u [3, 5, 5] halfB [⟨#[49]⟩, ⟨#[49]⟩, ⟨#[49]⟩] hv hu (by decide) (by decide) hV)
 have PL:=fun V v hv hV => hid (fd_Law V v [1, 1] halfB 2 hv (by decide) hV)
 rw [pv_a.1, pv_a.2] at PP
 rw [pv_b.1, pv_b.2] at PL
 unfold halfB at PP PL
 have PS:=fun V u v hu hv => hid (k_SameM V u v [(⟨#[48]⟩, ⟨#[55, 47, 49, 54]⟩), (⟨#[49]⟩, ⟨#[49, 47, 56]⟩), (⟨#[108, 97, 116, 101]⟩, ⟨#[55, 47, 49, 54]⟩)] [(⟨#[48]⟩, ⟨#[55, 47, 49, 54]⟩), (⟨#[49]⟩, ⟨#[49, 47, 56]⟩), (⟨#[108, 97, 116, 101]⟩, ⟨#[55, 47, 49, 54]⟩)] hu hv)
 rw [decide_eq_true rfl] at PS
 clear hL
 have A1:=(Below.refl w.heap.size w).alloc (Nat.le_refl _) (.cells #[.int .i64 3, .int .i64 5, .int .i64 5] 3)
 have A2:=hid (A1.alloc A1.size (.cells #[.string ⟨#[49]⟩, .string ⟨#[49]⟩, .string ⟨#[49]⟩] 33))
 have R1:=hid ((rowZ_is w [3, 5, 5] _ 3 w.heap.size rfl rfl rfl (by omega)).call ((Below.refl _ _).alloc (Nat.le_refl _) (.cells #[.string ⟨#[49]⟩, .string ⟨#[49]⟩, .string ⟨#[49]⟩] 33)))
 have R2:=hid (rowB_is (w.alloc (.cells #[.int .i64 3, .int .i64 5, .int .i64 5] 3)) [⟨#[49]⟩, ⟨#[49]⟩, ⟨#[49]⟩] _ 3 (w.heap.size + 1) rfl (by simp) rfl (by omega))
 clear A1
 go_enter Tryz.func8, Tryz.ntmps8
 go_wp2_with fail
 refine (PP _ _ _ R1.out R2.out (HL.out.call A2.out).l).out.mono ?_; rintro e w1 ⟨rfl, hb1⟩
 have y1:=hid (bnext A2.out hb1)
 clear hb1
 go_wp2_with fail
 have A3:=hid ((Below.refl w1.heap.size w1).alloc (Nat.le_refl _) (.cells #[.int .i64 1, .int .i64 1] 3))
 have R3:=hid (rowZ_is w1 [1, 1] _ 2 w1.heap.size rfl rfl rfl (by omega))
 refine (PL _ _ R3.out (HL.out.call (bnext y1.out A3.out))).out.mono ?_; rintro e w2 ⟨⟨u, rfl, hu⟩, hb2⟩
 have y2:=hid (bnext y1.out (bnext A3.out hb2))
 have U2:=hid hu
 obtain ⟨a2, k2, rfl, -, -, -⟩:=hu.ex
 clear hb2 hu
 have A4:=hid ((Below.refl w2.heap.size w2).alloc (Nat.le_refl _) (.cells #[.string ⟨#[48]⟩, .string ⟨#[55, 47, 49, 54]⟩, .string ⟨#[49]⟩, .string ⟨#[49, 47, 56]⟩, .string ⟨#[108, 97, 116, 101]⟩, .string ⟨#[55, 47, 49, 54]⟩] 39))
 have R4:=hid (mrow_lit w2 [(⟨#[48]⟩, ⟨#[55, 47, 49, 54]⟩), (⟨#[49]⟩, ⟨#[49, 47, 56]⟩), (⟨#[108, 97, 116, 101]⟩, ⟨#[55, 47, 49, 54]⟩)] 3 rfl (by omega))
 go_wp2_with fail
 refine (PS _ _ _ (U2.out.call A4.out) R4.out).out.mono ?_; rintro e w3 ⟨rfl, hb3⟩
 go_wp2_with fail
 go_ret
 exact ⟨rfl, bnext y2.out (bnext A4.out hb3)⟩
theorem info_intO : (Tryz.prog.info? 3).map (fun i => (i.zero, i.size, i.bytes)) = some (some (.int .i64 0), 1, 8):=by kernel_rfl
theorem ffB_size (a : ByteArray) (r : Int) (one : Bool) : (ffB a r one).size ≤ 10000:=by
 unfold ffB
 split
 ·exact Nat.zero_le _
 ·unfold pngB op1B
  split
  ·exact outB_size _
  ·exact Nat.zero_le _
theorem opM {w : World} {v : Value} {L : List (ByteArray × ByteArray)} (h : MRow w v L) : ∃ a c, v = .slice a L.length c:=by
 obtain ⟨a, c, e, -⟩:=h.ex
 exact ⟨a, c, e⟩
theorem flR_bad {c : List Int} {a : ByteArray} {n : Int} (h : flE c a n ≠ 0) : (flR c a n).length = 0:=by
 unfold flR
 rw [if_neg h]; rfl
theorem pp_main (w : World) (v u : Value) (us cs : List Int) (same : Bool) (s : ByteArray) (B : Int) (hv : Row w v (zs us)) (hu : Row w u (zs cs)) (hi1 : ∀ x ∈ us, -9223372036854775808 ≤ x ∧ x ≤ 9223372036854775807) (hi2 : ∀ x ∈ cs, -9223372036854775808 ≤ x ∧ x ≤ 9223372036854775807) (hL : LayB w)
 (h0 : us.length ≠ 0) (h1 : us.length ≤ 4) (h2 : us.length ≤ cs.length) (h3 : s.size ≤ 12) (h4 : 0 ≤ B) (h5 : B ≤ 6) (h6 : s ≠ ⟨#[48]⟩) :
 Calls Tryz.prog 5 #[v, u, .bool same, .string s, .int .i64 B] w fun e w' => e = .returned (.bool true) ∧ Below w.heap.size w w':=by
 have HLV:=hid (w_lives25 w hL)
 have HV:=hid hv; have HU:=hid hu; have HL:=hid hL
 have PE:=fun V x l hV hLV => hid (fd_Law V x l s B hV (by omega) hLV)
 obtain ⟨i0, hi, hz0, hz1, hz2⟩:=info_parts info_intO
 obtain ⟨a, c, rfl, c1, c2, -⟩:=hv.openZ
 obtain ⟨a', c', rfl, c1', c2', -⟩:=hu.openZ
 obtain ⟨N, hN⟩ : ∃ N, us.length = N:=⟨_, rfl⟩
 obtain ⟨M, hM⟩ : ∃ N, cs.length = N:=⟨_, rfl⟩
 have HN:=hid hN; have HM:=hid hM; have I1:=hid hi1; have I2:=hid hi2
 rw [hN] at c1 h0 h1 h2 HV ⊢
 rw [hM] at c1' h2 HU ⊢
 have k0 : ((N : Int) == 0) = false:=by rw [beq_eq_false_iff_ne]; omega
 have k1 : decide ((4 : Int) < (N : Int)) = false:=decide_eq_false (by omega)
 have k2 : decide ((M : Int) < (N : Int)) = false:=decide_eq_false (by omega)
 have k2' : decide (M < N) = false:=decide_eq_false (by omega)
 have k3 : decide ((12 : Int) < (s.size : Int)) = false:=decide_eq_false (by omega)
 have k4 : decide (B < 0) = false:=decide_eq_false (by omega)
 have k5 : decide (6 < B) = false:=decide_eq_false (by omega)
 have k6 : (s.toList == [48]) = false:=ne_lit h6
 have HS:=hid h3; have H6:=hid h6; have H5:=hid h5; have H1:=hid h1; have H0:=hid h0
 clear hv hu hL hN hM h3 hi1 hi2 h6
 go_enter Tryz.func5, Tryz.ntmps5
 go_wp2_with fail
 refine HLV.out.mono ?_; rintro e w1 ⟨rfl, hb1⟩
 have y1:=hid hb1; clear hb1
 go_wp2_with fail
 go_loopw [11, 12, 13, 14] (fun s11 s12 s13 s14 wr => ∃ (i mm : Nat) (ts os : List Int), s14 = .int .i64 i ∧ i ≤ N ∧ s13 = .int .i64 mm ∧ mm ≤ 2 ∧ ts.length = i ∧ os.length = i ∧ Hid (DfU same mm ts os) ∧ Hid (TwoZ w.heap.size wr s11 s12 ts os) ∧ Hid (Below w.heap.size w wr)) (fun s11 s12 s13 s14 wr => N - (intOf s14).toNat)
 case atStart => exact ⟨0, 0, [], [], rfl, Nat.zero_le _, rfl, by omega, rfl, rfl, DfU.nil _ _, TwoZ.nil _ _, y1.out⟩
 case round =>
  obtain ⟨i, mm, ts, os, rfl, hiN, rfl, hmm, hts, hos, hD, hT, hB⟩:=hrel
  have wi : IntKind.i64.wrap ((i : Int) + 1) = ((i + 1 : Nat) : Int):=by rw [IntWalk.i64_in _ ⟨by omega, by omega⟩]; omega
  by_cases hlt : i < N
  ·obtain ⟨x, hx⟩ : ∃ x, us[i]? = some x:=⟨_, List.getElem?_eq_getElem (by rw [HN.out]; exact hlt)⟩
   obtain ⟨y, hy⟩ : ∃ x, cs[i]? = some x:=⟨_, List.getElem?_eq_getElem (by rw [HM.out]; omega)⟩
   obtain ⟨g, o, rfl, hg, hc⟩:=HV.out.at (zs_get hx)
   obtain ⟨g', o', rfl, hg', hc'⟩:=HU.out.at (zs_get hy)
   have hcx:=(hB.out.cell (p:=⟨g, o + i, none⟩) hg).trans hc
   have hcy:=(hB.out.cell (p:=⟨g', o' + i, none⟩) hg').trans hc'
   have bx:=I1.out x (List.mem_of_getElem? hx)
   have by':=I2.out y (List.mem_of_getElem? hy)
   obtain ⟨j, hj, PK⟩:=k_Pick wr y 5 (by omega) (by omega) by'.1 by'.2
   have PK:=hid PK
   have b1 : (0 : Int) ≤ (i : Int):=by omega
   have b2 : (i : Int) < (N : Int):=by omega
   have b3 : (i : Int) < (M : Int):=by omega
   have HTS:=hid hts; have HOS:=hid hos
   have bx1:=bx.1; have bx2:=bx.2
   clear hx hy hc' hg' bx by' hts hos
   go_wp2_with fail
   refine PK.out.mono ?_; rintro e w2 ⟨rfl, rfl⟩
   go_upto_if 74 with fail
   go_cut [15] (fun s15 wx => ∃ K : Int, s15 = .int .i64 K ∧ -2 ≤ K ∧ K ≤ 2 ∧ Hid (same = true → 0 ≤ K) ∧ Hid (wr = wx))
   case first =>
    cases same
    ·go_wp2_with fail
     all_goals
      go_meet
      exact ⟨_, rfl, by omega, by omega, (fun h => by cases h), rfl⟩
    ·go_wp2_with fail
     all_goals
      go_meet
      exact ⟨_, rfl, by omega, by omega, (fun _ => by omega), rfl⟩
   case rest =>
   obtain ⟨K, rfl, hk1, hk2, hk3, hW⟩:=hcut
   obtain rfl:=hW.out
   clear hW
   go_upto_region 13 with fail
   go_cut [13] (fun s13 wx => ∃ Y : Int, s13 = .int .i64 Y ∧ (mm : Int) ≤ Y ∧ Y ≤ 2 ∧ K ≤ Y ∧ -K ≤ Y ∧ Hid (wr = wx))
   case first =>
    go_wp2_with fail
    all_goals
     go_meet
     exact ⟨_, rfl, by omega, by omega, by omega, by omega, rfl⟩
   case rest =>
   obtain ⟨Y, rfl, hy1, hy2, hy3, hy4, hW⟩:=hcut
   obtain rfl:=hW.out
   clear hW
   obtain ⟨mn, rfl⟩ : ∃ mn : Nat, Y = mn:=⟨Y.toNat, by omega⟩
   -- REGION
   obtain ⟨T, hT0⟩ : ∃ T, x.tdiv 2 = T:=⟨_, rfl⟩
   have hTb:=tdiv_bd bx1 bx2
   rw [hT0] at hTb
   have hTb1:=hTb.1; have hTb2:=hTb.2
   have wd : IntKind.i64.wrap (x.tdiv 2) = T:=by rw [hT0, IntWalk.i64_in _ ⟨by omega, by omega⟩]
   have wk : IntKind.i64.wrap (T + K) = T + K:=IntWalk.i64_in _ ⟨by omega, by omega⟩
   have KK : Hid (∀ W, Below w.heap.size w W → W.cell? ⟨g, o + i, none⟩ = some (.int .i64 x)):=fun W hW => (hW.cell (p:=⟨g, o + i, none⟩) hg).trans hc
   have LE:=hid (show w.heap.size ≤ wr.heap.size from hB.out.size)
   have lt1:=hid (fun g h => (hT.out.o1.lt g h).2)
   have lt2:=hid (fun g h => (hT.out.o2.lt g h).2)
   clear hTb hcx hcy hc hg
   go_wp2_with fail
   refine held_plain [0, 1, 2, 3, 4, 5, 8, 9, 10, 11, 12, 13, 14, 15] 6 (fun w' => w'.cell? ⟨g, o + i, none⟩ = some (.int .i64 x)) (by kernel_rfl) (by kernel_rfl) (by kernel_rfl) (by kernel_rfl) (KK.out _ hB.out.drew) ?_
   iterate 14
    refine ⟨_, rfl, ?_⟩
    apply Exists.intro
    refine ⟨.inl ⟨by rfl, ?_⟩, ?_⟩
    ·(intro W' hW'; obtain q1:=hW'; go_simp; try (with_reducible rfl))
    (dsimp only [Act.put]; try simp only [List.setIfInBounds_toArray, List.set_cons_zero, List.set_cons_succ])
   refine held_two (i:=6) (j:=16) (by kernel_rfl) (by rfl) (by rfl) (by rfl) (by rfl) ?_ ?_
   ·go_wp2_with fail
    have d1 : Below wr.heap.size wr (wr.alloc (.cells #[.int .i64 T] 3)).drew:=((Below.refl _ _).alloc (Nat.le_refl _) _).drew
    have T1:=hid (hT.out.below d1)
    have b1:=hid (hB.out.trans (d1.mono hB.out.size))
    have c1:=hid (show Blk (wr.alloc (.cells #[.int .i64 T] 3)).drew wr.heap.size #[.int .i64 T] 3 from (Blk.new wr _ _).drew)
    clear d1
    refine ⟨KK.out _ b1.out, ?_⟩
    refine held_two (i:=7) (j:=16) (by kernel_rfl) (by rfl) (by rfl) (by rfl) (by rfl) ?_ ?_
    ·refine wpList_append_own_at _ rfl _ _ 24 rfl w.heap.size 3 i0 (.int .i64 0) 1 8 Tryz.underlying24 hi hz0 hz1 hz2 rfl (by decide) u11 ts.length (zs ts) rfl T1.out.o1 ⟨wr.heap.size, 0, none⟩ 1 1 [.int .i64 (T)] rfl rfl (news_blk c1.out) (by simp [Value.oneCell']) (by have:=HTS.out; have:=HOS.out; unfold maxLen; omega) (by have:=HTS.out; have:=HOS.out; omega) (by exact b1.out.size) ?_
     intro v1' w3 hown hgrow _ hat
     have T3:=hid (T1.out.app1 hown hgrow hat)
     have b3:=hid (owned_below T1.out.o1 b1.out hgrow)
     clear hown hgrow hat
     go_wp2_with fail
     refine ⟨KK.out _ b3.out, ?_⟩
     refine held_one (i:=16) (by kernel_rfl) (by rfl) (by rfl) ?_
     go_wp2_with fail
     have T4:=hid (T3.out.below ((Below.refl _ _).alloc (Nat.le_refl _) (.cells #[.int .i64 (T + K)] 3)))
     have b4:=hid (b3.out.alloc b3.out.size (.cells #[.int .i64 (T + K)] 3))
     have c4:=hid (Blk.new w3 #[.int .i64 (T + K)] 3)
     refine ⟨KK.out _ b4.out, ?_⟩
     refine held_one (i:=17) (by kernel_rfl) (by rfl) (by rfl) ?_
     refine wpList_append_own_at _ rfl _ _ 24 rfl w.heap.size 3 i0 (.int .i64 0) 1 8 Tryz.underlying24 hi hz0 hz1 hz2 rfl (by decide) u12 os.length (zs os) rfl T4.out.o2 ⟨w3.heap.size, 0, none⟩ 1 1 [.int .i64 (T + K)] rfl rfl (news_blk c4.out) (by simp [Value.oneCell']) (by have:=HTS.out; have:=HOS.out; unfold maxLen; omega) (by have:=HTS.out; have:=HOS.out; omega) (by exact b4.out.size) ?_
     intro v2' w5 hown hgrow _ hat
     have T5:=hid (T4.out.app2 hown hgrow hat)
     have b5:=hid (owned_below T4.out.o2 b4.out hgrow)
     clear hown hgrow hat
     go_wp2_with fail
     refine ⟨KK.out _ b5.out, ?_⟩
     refine held_more (is:=[18, 19]) (g:=0) (by kernel_rfl) rfl (KK.out _ b5.out) (by kernel_rfl) ?_
     iterate 2
      refine ⟨_, rfl, ?_⟩
      apply Exists.intro
      refine ⟨.inl ⟨by rfl, ?_⟩, ?_⟩
      ·(intro W' hW'; obtain q1:=hW'; go_simp; try (with_reducible rfl))
      (dsimp only [Act.put]; try simp only [List.setIfInBounds_toArray, List.set_cons_zero, List.set_cons_succ])
     refine wpAnyH_done (by kernel_rfl) ?_ _
     simp only [Only]
     go_wp2_with fail
     go_roundw
     case rel => exact ⟨i + 1, mn, ts ++ [T], os ++ [T + K], by go_num, by omega, rfl, by omega, by rw [List.length_append, HTS.out]; rfl, by rw [List.length_append, HOS.out]; rfl, hD.out.snoc (by rw [HTS.out, HOS.out]) (by omega) hy3 hy4 hk3.out, T5.out, b5.out⟩
     case measure => simp [intOf] <;> omega
    ·go_wp2_with fail
     have d2 : Below wr.heap.size wr ((wr.alloc (.cells #[.int .i64 T] 3)).alloc (.cells #[.int .i64 (T + K)] 3)).drew:=(((Below.refl _ _).alloc (Nat.le_refl _) _).alloc (by simp) _).drew
     have T2:=hid (hT.out.below d2)
     have b2:=hid (hB.out.trans (d2.mono hB.out.size))
     have c2:=hid (show Blk ((wr.alloc (.cells #[.int .i64 T] 3)).alloc (.cells #[.int .i64 (T + K)] 3)).drew wr.heap.size #[.int .i64 T] 3 from ((Blk.new wr _ _).alloc _).drew)
     have e2:=hid (show Blk ((wr.alloc (.cells #[.int .i64 T] 3)).alloc (.cells #[.int .i64 (T + K)] 3)).drew (wr.heap.size + 1) #[.int .i64 (T + K)] 3 from (Blk.made _ _ _ (by simp)).drew)
     clear d2
     refine ⟨KK.out _ b2.out, ?_⟩
     refine held_one (i:=7) (by kernel_rfl) (by rfl) (by rfl) ?_
     refine wpList_append_own_at _ rfl _ _ 24 rfl w.heap.size 3 i0 (.int .i64 0) 1 8 Tryz.underlying24 hi hz0 hz1 hz2 rfl (by decide) u11 ts.length (zs ts) rfl T2.out.o1 ⟨wr.heap.size, 0, none⟩ 1 1 [.int .i64 (T)] rfl rfl (news_blk c2.out) (by simp [Value.oneCell']) (by have:=HTS.out; have:=HOS.out; unfold maxLen; omega) (by have:=HTS.out; have:=HOS.out; omega) (by exact b2.out.size) ?_
     intro v1' w3 hown hgrow _ hat
     have T3:=hid (T2.out.app1 hown hgrow hat)
     have b3:=hid (owned_below T2.out.o1 b2.out hgrow)
     have e3:=hid (e2.out.grown hgrow (fun e => by have:=lt1.out _ e; omega))
     clear hown hgrow hat
     go_wp2_with fail
     refine ⟨KK.out _ b3.out, ?_⟩
     refine held_one (i:=17) (by kernel_rfl) (by rfl) (by rfl) ?_
     refine wpList_append_own_at _ rfl _ _ 24 rfl w.heap.size 3 i0 (.int .i64 0) 1 8 Tryz.underlying24 hi hz0 hz1 hz2 rfl (by decide) u12 os.length (zs os) rfl T3.out.o2 ⟨wr.heap.size + 1, 0, none⟩ 1 1 [.int .i64 (T + K)] rfl rfl (news_blk e3.out) (by simp [Value.oneCell']) (by have:=HTS.out; have:=HOS.out; unfold maxLen; omega) (by have:=HTS.out; have:=HOS.out; omega) (by exact b3.out.size) ?_
     intro v2' w5 hown hgrow _ hat
     have T5:=hid (T3.out.app2 hown hgrow hat)
     have b5:=hid (owned_below T3.out.o2 b3.out hgrow)
     clear hown hgrow hat
     go_wp2_with fail
     refine ⟨KK.out _ b5.out, ?_⟩
     refine held_more (is:=[18, 19]) (g:=0) (by kernel_rfl) rfl (KK.out _ b5.out) (by kernel_rfl) ?_
     iterate 2
      refine ⟨_, rfl, ?_⟩
      apply Exists.intro
      refine ⟨.inl ⟨by rfl, ?_⟩, ?_⟩
      ·(intro W' hW'; obtain q1:=hW'; go_simp; try (with_reducible rfl))
      (dsimp only [Act.put]; try simp only [List.setIfInBounds_toArray, List.set_cons_zero, List.set_cons_succ])
     refine wpAnyH_done (by kernel_rfl) ?_ _
     simp only [Only]
     go_wp2_with fail
     go_roundw
     case rel => exact ⟨i + 1, mn, ts ++ [T], os ++ [T + K], by go_num, by omega, rfl, by omega, by rw [List.length_append, HTS.out]; rfl, by rw [List.length_append, HOS.out]; rfl, hD.out.snoc (by rw [HTS.out, HOS.out]) (by omega) hy3 hy4 hk3.out, T5.out, b5.out⟩
     case measure => simp [intOf] <;> omega
   ·go_wp2_with fail
    have d1 : Below wr.heap.size wr (wr.alloc (.cells #[.int .i64 (T + K)] 3)).drew:=((Below.refl _ _).alloc (Nat.le_refl _) _).drew
    have b1:=hid (hB.out.trans (d1.mono hB.out.size))
    clear d1
    refine ⟨KK.out _ b1.out, ?_⟩
    refine held_one (i:=6) (by kernel_rfl) (by rfl) (by rfl) ?_
    go_wp2_with fail
    have d2 : Below wr.heap.size wr ((wr.alloc (.cells #[.int .i64 (T + K)] 3)).alloc (.cells #[.int .i64 T] 3)).drew:=(((Below.refl _ _).alloc (Nat.le_refl _) _).alloc (by simp) _).drew
    have T2:=hid (hT.out.below d2)
    have b2:=hid (hB.out.trans (d2.mono hB.out.size))
    have c2:=hid (show Blk ((wr.alloc (.cells #[.int .i64 (T + K)] 3)).alloc (.cells #[.int .i64 T] 3)).drew (wr.heap.size + 1) #[.int .i64 T] 3 from (Blk.made _ _ _ (by simp)).drew)
    have e2:=hid (show Blk ((wr.alloc (.cells #[.int .i64 (T + K)] 3)).alloc (.cells #[.int .i64 T] 3)).drew wr.heap.size #[.int .i64 (T + K)] 3 from ((Blk.new wr _ _).alloc _).drew)
    clear d2
    refine ⟨KK.out _ b2.out, ?_⟩
    refine held_one (i:=7) (by kernel_rfl) (by rfl) (by rfl) ?_
    refine wpList_append_own_at _ rfl _ _ 24 rfl w.heap.size 3 i0 (.int .i64 0) 1 8 Tryz.underlying24 hi hz0 hz1 hz2 rfl (by decide) u11 ts.length (zs ts) rfl T2.out.o1 ⟨wr.heap.size + 1, 0, none⟩ 1 1 [.int .i64 (T)] rfl rfl (news_blk c2.out) (by simp [Value.oneCell']) (by have:=HTS.out; have:=HOS.out; unfold maxLen; omega) (by have:=HTS.out; have:=HOS.out; omega) (by exact b2.out.size) ?_
    intro v1' w3 hown hgrow _ hat
    have T3:=hid (T2.out.app1 hown hgrow hat)
    have b3:=hid (owned_below T2.out.o1 b2.out hgrow)
    have e3:=hid (e2.out.grown hgrow (fun e => by have:=lt1.out _ e; omega))
    clear hown hgrow hat
    go_wp2_with fail
    refine ⟨KK.out _ b3.out, ?_⟩
    refine held_one (i:=17) (by kernel_rfl) (by rfl) (by rfl) ?_
    refine wpList_append_own_at _ rfl _ _ 24 rfl w.heap.size 3 i0 (.int .i64 0) 1 8 Tryz.underlying24 hi hz0 hz1 hz2 rfl (by decide) u12 os.length (zs os) rfl T3.out.o2 ⟨wr.heap.size, 0, none⟩ 1 1 [.int .i64 (T + K)] rfl rfl (news_blk e3.out) (by simp [Value.oneCell']) (by have:=HTS.out; have:=HOS.out; unfold maxLen; omega) (by have:=HTS.out; have:=HOS.out; omega) (by exact b3.out.size) ?_
    intro v2' w5 hown hgrow _ hat
    have T5:=hid (T3.out.app2 hown hgrow hat)
    have b5:=hid (owned_below T3.out.o2 b3.out hgrow)
    clear hown hgrow hat
    go_wp2_with fail
    refine ⟨KK.out _ b5.out, ?_⟩
    refine held_more (is:=[18, 19]) (g:=0) (by kernel_rfl) rfl (KK.out _ b5.out) (by kernel_rfl) ?_
    iterate 2
     refine ⟨_, rfl, ?_⟩
     apply Exists.intro
     refine ⟨.inl ⟨by rfl, ?_⟩, ?_⟩
     ·(intro W' hW'; obtain q1:=hW'; go_simp; try (with_reducible rfl))
     (dsimp only [Act.put]; try simp only [List.setIfInBounds_toArray, List.set_cons_zero, List.set_cons_succ])
    refine wpAnyH_done (by kernel_rfl) ?_ _
    simp only [Only]
    go_wp2_with fail
    go_roundw
    case rel => exact ⟨i + 1, mn, ts ++ [T], os ++ [T + K], by go_num, by omega, rfl, by omega, by rw [List.length_append, HTS.out]; rfl, by rw [List.length_append, HOS.out]; rfl, hD.out.snoc (by rw [HTS.out, HOS.out]) (by omega) hy3 hy4 hk3.out, T5.out, b5.out⟩
    case measure => simp [intOf] <;> omega
  ·skip
   obtain rfl : i = N:=by omega
   have q0 : decide ((i : Int) < (i : Int)) = false:=by simp
   obtain ⟨e1, r1, rfl⟩:=owns_ex hT.out.o1
   obtain ⟨e2, r2, rfl⟩:=owns_ex hT.out.o2
   have R1:=hid (Row.of_owns hT.out.o1)
   have R2:=hid (Row.of_owns hT.out.o2)
   have HTS:=hid hts; have HOS:=hid hos
   have P1:=fun V hV hLV => hid (PE V (.slice e1 ts.length r1) ts hV hLV)
   have P2:=fun V hV hLV => hid (PE V (.slice e2 os.length r2) os hV hLV)
   have X1 : Hid (flE ts s B ≠ 0 → (flR ts s B).length = 0):=fun h => flR_bad h
   have X2 : Hid (flE os s B ≠ 0 → (flR os s B).length = 0):=fun h => flR_bad h
   have GD:=hid fun (h1 : flE ts s B = 0) (h2 : flE os s B = 0) => pq_main (mm:=mm) (same:=same) h1 h2 (by rw [hts, hos]) (by rw [hts]; exact H1.out) HS.out H6.out H5.out (by omega) hD.out
   have SZ1:=hid (flR_size (c:=ts) (a:=s) (n:=B))
   have SZ2:=hid (flR_size (c:=os) (a:=s) (n:=B))
   rw [hts] at R1 P1 ⊢
   rw [hos] at R2 P2 ⊢
   obtain ⟨z1, hz1⟩ : ∃ z, flE ts s B = z:=⟨_, rfl⟩
   obtain ⟨z2, hz2⟩ : ∃ z, flE os s B = z:=⟨_, rfl⟩
   obtain ⟨L1, hL1⟩ : ∃ z, flR ts s B = z:=⟨_, rfl⟩
   obtain ⟨L2, hL2⟩ : ∃ z, flR os s B = z:=⟨_, rfl⟩
   rw [hz1, hL1] at P1 X1
   rw [hz2, hL2] at P2 X2
   rw [hz1, hz2, hL1, hL2] at GD
   rw [hL1] at SZ1
   rw [hL2] at SZ2
   by_cases hz : z1 = 0 ∧ z2 = 0
   ·obtain ⟨rfl, rfl⟩:=hz
    obtain ⟨g1, g2, g3, g4⟩:=GD.out rfl rfl
    have PF:=fun V hV => hid (fd_Factor V s mm same (by have:=HS.out; omega) hV)
    have FS:=ffB_size s mm same
    obtain ⟨F, hF⟩ : ∃ F, ffB s mm same = F:=⟨_, rfl⟩
    rw [g1, hF] at PF
    rw [hF] at FS g3 g4
    have VS:=valM_size (L:=L1) (k:=lateB) (B:=10000) SZ1.out (by omega)
    have Q1:=fun V x (h : MRow V x L1) => hid (w_value V x L1 lateB h)
    have Q2:=fun V x (h : MRow V x L2) => hid (w_value V x L2 lateB h)
    rw [← g2] at Q2
    obtain ⟨Y, hY⟩ : ∃ Y, valM L1 lateB = Y:=⟨_, rfl⟩
    rw [hY] at Q1 Q2 VS g3 g4
    have PM:=fun V => hid (r2_Mul V F Y (by omega) (by omega))
    have ZS:=fx_size (· * ·) F Y
    obtain ⟨Z, hZ⟩ : ∃ Z, op2B (· * ·) F Y = Z:=⟨_, rfl⟩
    obtain ⟨ez, hez⟩ : ∃ K, op2E (· * ·) F Y = K:=⟨_, rfl⟩
    rw [hZ] at PM ZS g3 g4
    rw [hez] at PM
    have B1:=fun V x y (h : MRow V x L1) (h' : MRow V y L2) => hid (w_beyond V x y L1 L2 F h h' (by omega) (fun q hq => by have:=SZ1.out q hq; omega) (fun q hq => by have:=SZ2.out q hq; omega))
    have B2:=fun V x y (h : MRow V x L2) (h' : MRow V y L1) => hid (w_beyond V x y L2 L1 F h h' (by omega) (fun q hq => by have:=SZ2.out q hq; omega) (fun q hq => by have:=SZ1.out q hq; omega))
    have bs1:=bydB_size F L1 L2
    have bs2:=bydB_size F L2 L1
    obtain ⟨U, hU⟩ : ∃ U, bydB F L1 L2 = U:=⟨_, rfl⟩
    obtain ⟨D, hD'⟩ : ∃ U, bydB F L2 L1 = U:=⟨_, rfl⟩
    rw [hU] at B1 bs1 g3
    rw [hD'] at B2 bs2 g4
    have C1:=fun V => hid (r2_Cmp V U Z (by omega) (by omega))
    have C2:=fun V => hid (r2_Cmp V D Z (by omega) (by omega))
    obtain ⟨ce1, hc1⟩ : ∃ z, cmE U Z = z:=⟨_, rfl⟩
    obtain ⟨ce2, hc2⟩ : ∃ z, cmE D Z = z:=⟨_, rfl⟩
    obtain ⟨cb1, hc3⟩ : ∃ z, cmB U Z = z:=⟨_, rfl⟩
    obtain ⟨cb2, hc4⟩ : ∃ z, cmB D Z = z:=⟨_, rfl⟩
    rw [hc1, hc3] at C1
    rw [hc2, hc4] at C2
    rw [hc3] at g3
    rw [hc4] at g4
    have t1 : decide (cb1 ≤ 0) = true:=decide_eq_true g3
    have t2 : decide (cb2 ≤ 0) = true:=decide_eq_true g4
    have eLate : lateB = (⟨#[108, 97, 116, 101]⟩ : ByteArray):=rfl
    rw [eLate] at Q1 Q2
    obtain ⟨n1, hn1⟩ : ∃ n, L1.length = n:=⟨_, rfl⟩
    obtain ⟨n2, hn2⟩ : ∃ n, L2.length = n:=⟨_, rfl⟩
    have HN1:=hid hn1; have HN2:=hid hn2
    clear hz1 hz2 hL1 hL2 hts hos hlt X1 X2 GD g1 g2 g3 g4 hF FS VS hY hZ hez ZS bs1 bs2 hU hD' hc1 hc2 hc3 hc4 eLate hn1 hn2
    go_wp2_with fail
    refine (P1 _ R1.out (HL.out.call hB.out)).out.mono ?_; rintro e w2 ⟨⟨x1, rfl, hx1⟩, hb2⟩
    have M1:=hid hx1
    obtain ⟨a1, d1, rfl⟩:=opM hx1
    have y2:=hid (bnext hB.out hb2); have S2:=hid (R2.out.call hb2)
    rw [HN1.out] at M1 ⊢
    clear hb2 hx1
    go_wp2_with fail
    refine (P2 _ S2.out (HL.out.call y2.out)).out.mono ?_; rintro e w3 ⟨⟨x2, rfl, hx2⟩, hb3⟩
    have M2:=hid hx2; have M13:=hid (M1.out.call hb3)
    obtain ⟨a2, d2, rfl⟩:=opM hx2
    have y3:=hid (bnext y2.out hb3)
    rw [HN2.out] at M2 ⊢
    clear hb3 hx2
    go_wp2_with fail
    refine (PF _ (HL.out.call y3.out).l).out.mono ?_; rintro e w4 ⟨rfl, hb4⟩
    have y4:=hid (bnext y3.out hb4); have M14:=hid (M13.out.call hb4); have M24:=hid (M2.out.call hb4)
    clear hb4
    go_wp2_with fail
    refine (Q1 _ _ M14.out).out.mono ?_; rintro e w5 ⟨rfl, rfl⟩
    go_wp2_with fail
    refine (PM _).out.mono ?_; rintro e w5 ⟨rfl, hb5⟩
    have y5:=hid (bnext y4.out hb5); have M15:=hid (M14.out.call hb5); have M25:=hid (M24.out.call hb5)
    clear hb5
    go_wp2_with fail
    refine (B1 _ _ _ M15.out M25.out).out.mono ?_; rintro e w6 ⟨rfl, hb6⟩
    have y6:=hid (bnext y5.out hb6); have M16:=hid (M15.out.call hb6); have M26:=hid (M25.out.call hb6)
    clear hb6
    go_wp2_with fail
    refine (C1 _).out.mono ?_; rintro e w7 ⟨rfl, hb7⟩
    have y7:=hid (bnext y6.out hb7); have M17:=hid (M16.out.call hb7); have M27:=hid (M26.out.call hb7)
    clear hb7
    go_wp2_with fail
    refine (B2 _ _ _ M27.out M17.out).out.mono ?_; rintro e w8 ⟨rfl, hb8⟩
    have y8:=hid (bnext y7.out hb8); have M18:=hid (M17.out.call hb8); have M28:=hid (M27.out.call hb8)
    clear hb8
    go_wp2_with fail
    refine (C2 _).out.mono ?_; rintro e w9 ⟨rfl, hb9⟩
    have y9:=hid (bnext y8.out hb9); have M19:=hid (M18.out.call hb9); have M29:=hid (M28.out.call hb9)
    clear hb9
    go_wp2_with fail
    refine (Q1 _ _ M19.out).out.mono ?_; rintro e w10 ⟨rfl, rfl⟩
    go_wp2_with fail
    refine (Q2 _ _ M29.out).out.mono ?_; rintro e w10 ⟨rfl, rfl⟩
    go_wp2_with fail
    go_ret
    exact ⟨rfl, y9.out⟩
   ·have key : (z1 ≠ 0 ∧ L1.length = 0 ∧ (z2 = 0 ∨ z2 ≠ 0 ∧ L2.length = 0)) ∨ (z1 = 0 ∧ z2 ≠ 0 ∧ L2.length = 0):=by
     by_cases h1 : z1 = 0
     ·exact .inr ⟨h1, fun h2 => hz ⟨h1, h2⟩, X2.out fun h2 => hz ⟨h1, h2⟩⟩
     ·refine .inl ⟨h1, X1.out h1, ?_⟩
      by_cases h2 : z2 = 0
      ·exact .inl h2
      ·exact .inr ⟨h2, X2.out h2⟩
    obtain ⟨n1, hn1⟩ : ∃ n, L1.length = n:=⟨_, rfl⟩
    obtain ⟨n2, hn2⟩ : ∃ n, L2.length = n:=⟨_, rfl⟩
    rw [hn1, hn2] at key
    have HN1:=hid hn1; have HN2:=hid hn2
    clear hz1 hz2 hL1 hL2 hts hos hlt X1 X2 GD hz hn1 hn2
    rcases key with ⟨h1, rfl, rfl | ⟨h2, rfl⟩⟩ | ⟨rfl, h2, rfl⟩
    ·have q1 : (z1 == 0) = false:=by simpa using h1
     have q2 : (z1 != 0) = true:=by simpa using h1
     clear h1
     go_wp2_with fail
     refine (P1 _ R1.out (HL.out.call hB.out)).out.mono ?_; rintro e w2 ⟨⟨x1, rfl, hx1⟩, hb2⟩
     obtain ⟨a1, d1, rfl⟩:=opM hx1
     have y2:=hid (bnext hB.out hb2); have S2:=hid (R2.out.call hb2)
     rw [HN1.out]
     clear hb2 hx1
     go_wp2_with fail
     refine (P2 _ S2.out (HL.out.call y2.out)).out.mono ?_; rintro e w3 ⟨⟨x2, rfl, hx2⟩, hb3⟩
     obtain ⟨a2, d2, rfl⟩:=opM hx2
     have y3:=hid (bnext y2.out hb3)
     clear hb3 hx2
     obtain ⟨n2, hn2⟩ : ∃ n, L2.length = n:=⟨_, rfl⟩
     rw [hn2]
     clear hn2
     go_wp2_with fail
     go_ret
     exact ⟨rfl, y3.out⟩
    ·have q1 : (z1 == 0) = false:=by simpa using h1
     have q2 : (z1 != 0) = true:=by simpa using h1
     have q3 : (z2 == 0) = false:=by simpa using h2
     have q4 : (z2 != 0) = true:=by simpa using h2
     clear h1 h2
     go_wp2_with fail
     refine (P1 _ R1.out (HL.out.call hB.out)).out.mono ?_; rintro e w2 ⟨⟨x1, rfl, hx1⟩, hb2⟩
     obtain ⟨a1, d1, rfl⟩:=opM hx1
     have y2:=hid (bnext hB.out hb2); have S2:=hid (R2.out.call hb2)
     rw [HN1.out]
     clear hb2 hx1
     go_wp2_with fail
     refine (P2 _ S2.out (HL.out.call y2.out)).out.mono ?_; rintro e w3 ⟨⟨x2, rfl, hx2⟩, hb3⟩
     obtain ⟨a2, d2, rfl⟩:=opM hx2
     have y3:=hid (bnext y2.out hb3)
     rw [HN2.out]
     clear hb3 hx2
     go_wp2_with fail
     go_ret
     exact ⟨rfl, y3.out⟩
    ·have q3 : (z2 == 0) = false:=by simpa using h2
     have q4 : (z2 != 0) = true:=by simpa using h2
     clear h2
     go_wp2_with fail
     refine (P1 _ R1.out (HL.out.call hB.out)).out.mono ?_; rintro e w2 ⟨⟨x1, rfl, hx1⟩, hb2⟩
     obtain ⟨a1, d1, rfl⟩:=opM hx1
     have y2:=hid (bnext hB.out hb2); have S2:=hid (R2.out.call hb2)
     clear hb2 hx1
     obtain ⟨n1, hn1⟩ : ∃ n, L1.length = n:=⟨_, rfl⟩
     rw [hn1]
     clear hn1
     go_wp2_with fail
     refine (P2 _ S2.out (HL.out.call y2.out)).out.mono ?_; rintro e w3 ⟨⟨x2, rfl, hx2⟩, hb3⟩
     obtain ⟨a2, d2, rfl⟩:=opM hx2
     have y3:=hid (bnext y2.out hb3)
     rw [HN2.out]
     clear hb3 hx2
     go_wp2_with fail
     go_ret
     exact ⟨rfl, y3.out⟩
theorem w_PeakPrivate (w : World) (v u : Value) (us cs : List Int) (same : Bool) (s : ByteArray) (B : Int) (hv : Row w v (zs us)) (hu : Row w u (zs cs)) (hs : s.size ≤ 9223372036854775807) (hi1 : ∀ x ∈ us, -9223372036854775808 ≤ x ∧ x ≤ 9223372036854775807) (hi2 : ∀ x ∈ cs, -9223372036854775808 ≤ x ∧ x ≤ 9223372036854775807) (hL : LayB w) :
 Calls Tryz.prog 5 #[v, u, .bool same, .string s, .int .i64 B] w fun e w' => e = .returned (.bool true) ∧ Below w.heap.size w w':=by
 by_cases h : us.length ≠ 0 ∧ us.length ≤ 4 ∧ us.length ≤ cs.length ∧ s.size ≤ 12 ∧ 0 ≤ B ∧ B ≤ 6 ∧ s ≠ ⟨#[48]⟩
 ·obtain ⟨h0, h1, h2, h3, h4, h5, h6⟩:=h
  exact pp_main w v u us cs same s B hv hu hi1 hi2 hL h0 h1 h2 h3 h4 h5 h6
 have HLV:=hid (w_lives25 w hL)
 obtain ⟨a, c, rfl, c1, c2, -⟩:=hv.openZ
 obtain ⟨a', c', rfl, c1', c2', -⟩:=hu.openZ
 obtain ⟨N, hN⟩ : ∃ N, us.length = N:=⟨_, rfl⟩
 obtain ⟨M, hM⟩ : ∃ N, cs.length = N:=⟨_, rfl⟩
 rw [hN] at c1 h ⊢
 rw [hM] at c1' h ⊢
 clear hv hu hL hN hM hi1 hi2
 by_cases c0x : N = 0
 ·have t0 : ((N : Int) == 0) = true:=by rw [beq_iff_eq]; omega
  clear h  c0x
  go_enter Tryz.func5, Tryz.ntmps5
  go_wp2_with fail
  refine HLV.out.mono ?_; rintro e w1 ⟨rfl, hb1⟩
  go_wp2_with fail
  go_ret
  exact ⟨rfl, hb1⟩
 have t0 : ((N : Int) == 0) = false:=by rw [beq_eq_false_iff_ne]; omega
 by_cases c1x : 4 < N
 ·have t1 : decide ((4 : Int) < (N : Int)) = true:=decide_eq_true (by omega)
  clear h  c0x c1x
  go_enter Tryz.func5, Tryz.ntmps5
  go_wp2_with fail
  refine HLV.out.mono ?_; rintro e w1 ⟨rfl, hb1⟩
  go_wp2_with fail
  go_ret
  exact ⟨rfl, hb1⟩
 have t1 : decide ((4 : Int) < (N : Int)) = false:=decide_eq_false (by omega)
 by_cases c2x : M < N
 ·have t2 : decide (M < N) = true:=decide_eq_true (by omega)
  clear h  c0x c1x c2x
  go_enter Tryz.func5, Tryz.ntmps5
  go_wp2_with fail
  refine HLV.out.mono ?_; rintro e w1 ⟨rfl, hb1⟩
  go_wp2_with fail
  go_ret
  exact ⟨rfl, hb1⟩
 have t2 : decide (M < N) = false:=decide_eq_false (by omega)
 by_cases c3x : 12 < s.size
 ·have t3 : decide ((12 : Int) < (s.size : Int)) = true:=decide_eq_true (by omega)
  clear h  c0x c1x c2x c3x
  go_enter Tryz.func5, Tryz.ntmps5
  go_wp2_with fail
  refine HLV.out.mono ?_; rintro e w1 ⟨rfl, hb1⟩
  go_wp2_with fail
  go_ret
  exact ⟨rfl, hb1⟩
 have t3 : decide ((12 : Int) < (s.size : Int)) = false:=decide_eq_false (by omega)
 by_cases c4x : B < 0
 ·have t4 : decide (B < 0) = true:=decide_eq_true (by omega)
  clear h  c0x c1x c2x c3x c4x
  go_enter Tryz.func5, Tryz.ntmps5
  go_wp2_with fail
  refine HLV.out.mono ?_; rintro e w1 ⟨rfl, hb1⟩
  go_wp2_with fail
  go_ret
  exact ⟨rfl, hb1⟩
 have t4 : decide (B < 0) = false:=decide_eq_false (by omega)
 by_cases c5x : 6 < B
 ·have t5 : decide (6 < B) = true:=decide_eq_true (by omega)
  clear h  c0x c1x c2x c3x c4x c5x
  go_enter Tryz.func5, Tryz.ntmps5
  go_wp2_with fail
  refine HLV.out.mono ?_; rintro e w1 ⟨rfl, hb1⟩
  go_wp2_with fail
  go_ret
  exact ⟨rfl, hb1⟩
 have t5 : decide (6 < B) = false:=decide_eq_false (by omega)
 by_cases c6x : s = ⟨#[48]⟩
 ·subst c6x
  clear h t3 c0x c1x c2x c3x c4x c5x hs
  go_enter Tryz.func5, Tryz.ntmps5
  go_wp2_with fail
  refine HLV.out.mono ?_; rintro e w1 ⟨rfl, hb1⟩
  go_wp2_with fail
  go_ret
  exact ⟨rfl, hb1⟩
 exact absurd ⟨c0x, by omega, by omega, by omega, by omega, by omega, c6x⟩ h
end Go.Proofs.YtckihjfkafdncaaGreatDoor
