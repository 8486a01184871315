/- Texts that the proof rests on, merged: Slv, Ss0, Tz3, Ss1, Sb5, R2o, Shf, Snn. -/
import Derived.Test.YtlmnpocifldpmaaGreatDoorKa10
import Derived.Maps.AppendAt
import Derived.IntWalk
import Derived.Deep.RegionHeld3
import Derived.Deep.DeepCutAuto
set_option linter.unusedVariables false
set_option linter.unusedSimpArgs false
set_option linter.unusedSectionVars false
set_option maxRecDepth 100000
set_option maxHeartbeats 8000000
namespace Go.Proofs.YtlmnpocifldpmaaGreatDoor
open Go.RowKit
open Go.Shelf
open Go.Lib (decDigits nDigits)
theorem rowZ_isS (w : World) (L : List Int) (cs : Array Value) (n b : Nat) (hc : cs = (zs L).toArray) (hb : w.heap.size = b) (hn : L.length = n) (hL : n ≤ 1000) : Row (w.alloc (.cells cs 3)) (.slice (some ⟨b, 0, none⟩) n n) (zs L) := by
 subst hc hb
 exact rowZ_lit w L n hn hL
theorem rowB_isS (w : World) (L : List ByteArray) (cs : Array Value) (n b : Nat) (hc : cs = (strs L).toArray) (hb : w.heap.size = b) (hn : L.length = n) (hL : n ≤ 1000) : Row (w.alloc (.cells cs 33)) (.slice (some ⟨b, 0, none⟩) n n) (strs L) := by
 subst hc hb
 exact Row.of_blk (Blk.new w _ _) (by rw [strs_length]; exact hn) (by unfold maxLen; omega) (fun i x h => by rw [List.getElem?_toArray]; exact h) (Nat.le_refl _) (by unfold maxLen; omega)
theorem w_lives24 (w : World) (hL : LayB w) :
 Calls Tryz.prog 9 #[] w fun e w' => e = .returned (.bool true) ∧ Below w.heap.size w w' := by
 have HL := hid hL
 have PP := fun V v u hv hu hV => hid (sp_First V v u [3, 8, 9] 5 h12 h12 [x11, x11, x11, x11] hv hu (by decide) (by decide) (by decide) hV)
 have PL := fun V v hv hV => hid (sp_Law V v [5] 5 h12 h12 2 hv (by decide) (by decide) hV)
 rw [sn_l.1, sn_l.2] at PP
 rw [sn_d.1, sn_d.2] at PL
 unfold h12 x11 at PP
 unfold h12 at PL
 have PS := fun V u v hu hv => hid (k_SameM V u v [(⟨#[48]⟩, ⟨#[49, 47, 49, 54]⟩), (⟨#[108, 97, 116, 101]⟩, ⟨#[49, 53, 47, 49, 54]⟩)] [(⟨#[48]⟩, ⟨#[49, 47, 49, 54]⟩), (⟨#[108, 97, 116, 101]⟩, ⟨#[49, 53, 47, 49, 54]⟩)] hu hv)
 rw [decide_eq_true rfl] at PS
 clear hL
 have A1 := (Below.refl w.heap.size w).alloc (Nat.le_refl _) (.cells #[.int .i64 3, .int .i64 8, .int .i64 9] 3)
 have A2 := hid (A1.alloc A1.size (.cells #[.string ⟨#[49, 49]⟩, .string ⟨#[49, 49]⟩, .string ⟨#[49, 49]⟩, .string ⟨#[49, 49]⟩] 33))
 have R1 := hid ((rowZ_isS w [3, 8, 9] _ 3 w.heap.size rfl rfl rfl (by omega)).call ((Below.refl _ _).alloc (Nat.le_refl _) (.cells #[.string ⟨#[49, 49]⟩, .string ⟨#[49, 49]⟩, .string ⟨#[49, 49]⟩, .string ⟨#[49, 49]⟩] 33)))
 have R2 := hid (rowB_isS (w.alloc (.cells #[.int .i64 3, .int .i64 8, .int .i64 9] 3)) [⟨#[49, 49]⟩, ⟨#[49, 49]⟩, ⟨#[49, 49]⟩, ⟨#[49, 49]⟩] _ 4 (w.heap.size + 1) rfl (by simp) rfl (by omega))
 clear A1
 go_enter Tryz.func9, Tryz.ntmps9
 go_wp2_with fail
 refine (PP _ _ _ R1.out R2.out (HL.out.call A2.out).l).out.mono ?_; rintro e w1 ⟨rfl, hb1⟩
 have y1 := hid (bnext A2.out hb1)
 clear hb1
 go_wp2_with fail
 have A3 := hid ((Below.refl w1.heap.size w1).alloc (Nat.le_refl _) (.cells #[.int .i64 5] 3))
 have R3 := hid (rowZ_isS w1 [5] _ 1 w1.heap.size rfl rfl rfl (by omega))
 refine (PL _ _ R3.out (HL.out.call (bnext y1.out A3.out))).out.mono ?_; rintro e w2 ⟨⟨u, rfl, hu⟩, hb2⟩
 have y2 := hid (bnext y1.out (bnext A3.out hb2))
 have U2 := hid hu
 obtain ⟨a2, k2, rfl, -, -, -⟩ := hu.ex
 clear hb2 hu
 have A4 := hid ((Below.refl w2.heap.size w2).alloc (Nat.le_refl _) (.cells #[.string ⟨#[48]⟩, .string ⟨#[49, 47, 49, 54]⟩, .string ⟨#[108, 97, 116, 101]⟩, .string ⟨#[49, 53, 47, 49, 54]⟩] 39))
 have R4 := hid (mrow_lit w2 [(⟨#[48]⟩, ⟨#[49, 47, 49, 54]⟩), (⟨#[108, 97, 116, 101]⟩, ⟨#[49, 53, 47, 49, 54]⟩)] 2 rfl (by omega))
 go_wp2_with fail
 refine (PS _ _ _ (U2.out.call A4.out) R4.out).out.mono ?_; rintro e w3 ⟨rfl, hb3⟩
 go_wp2_with fail
 go_ret
 exact ⟨rfl, bnext y2.out (bnext A4.out hb3)⟩
end Go.Proofs.YtlmnpocifldpmaaGreatDoor
namespace Go.Proofs.YtlmnpocifldpmaaGreatDoor
open Go.RowKit
open Go.Lib (decDigits nDigits)
theorem wild_no {x : Int} (h : -4000000 ≤ x ∧ x ≤ 4000000) : wildB x = false := by
 unfold wildB
 simp
 omega
theorem wild_none {l : List Int} (h : ∀ x ∈ l, -4000000 ≤ x ∧ x ≤ 4000000) : l.any wildB = false := by
 rw [List.any_eq_false]
 intro x hx
 rw [wild_no (h x hx)]
 simp
theorem fsE_len {c d : List Int} {t u : Int} {a r : ByteArray} {b : List ByteArray} (hl : c.length = d.length) (h1 : ∀ x ∈ c, -4000000 ≤ x ∧ x ≤ 4000000) (h2 : ∀ x ∈ d, -4000000 ≤ x ∧ x ≤ 4000000) (ht : -4000000 ≤ t ∧ t ≤ 4000000) (hu : -4000000 ≤ u ∧ u ≤ 4000000) : fsE c t a r b = fsE d u a r b := by
 unfold fsE sqnE ctE zE
 rw [hl, wild_none h1, wild_none h2, wild_no ht, wild_no hu]
structure SsOk (c d e : List Int) (thr s : Int) : Prop where
 rng : ∀ x ∈ c, -1000000 < x ∧ x < 1000000
 hs : -1000000 < s ∧ s < 1000000
 ht : -1000000 < thr ∧ thr < 1000000
 hd : d = c.map (· + s)
 he : e = c.map fun _ => 0
theorem fsA_bad {c : List Int} {t : Int} {a r : ByteArray} {b : List ByteArray} (h : fsE c t a r b ≠ 0) : fsA c t a r b = (0, false) := if_neg h
theorem fsV_two (n : Nat) (o : Option Nat) : (fsV n o).2 = o.isSome := by cases o <;> rfl
theorem ss_all {c d e : List Int} {thr s : Int} (h : SsOk c d e thr s) (a r : ByteArray) (b : List ByteArray) :
 fsE d (thr + s) a r b = fsE c thr a r b ∧ fsE e thr a r b = fsE c thr a r b ∧ fsA d (thr + s) a r b = fsA c thr a r b ∧ (fsA e thr a r b).2 = (fsA c thr a r b).2 ∧
 (fsE c thr a r b ≠ 0 → (fsA c thr a r b).1 = 0 ∧ (fsA c thr a r b).2 = false) ∧ ((fsA c thr a r b).2 = true → -1 ≤ (fsA c thr a r b).1 ∧ (fsA c thr a r b).1 < (c.length : Int)) := by
 have ht := h.ht; have hs := h.hs
 have hr1 : ∀ x ∈ c, -4000000 ≤ x ∧ x ≤ 4000000 := fun x hx => by have := h.rng x hx; omega
 have hdl : d.length = c.length := by rw [h.hd, List.length_map]
 have hel : e.length = c.length := by rw [h.he, List.length_map]
 have e1 : fsE d (thr + s) a r b = fsE c thr a r b := fsE_len hdl (fun x hx => by
  rw [h.hd] at hx
  obtain ⟨y, hy, rfl⟩ := List.mem_map.1 hx
  have := h.rng y hy; omega) hr1 (by omega) (by omega)
 have e2 : fsE e thr a r b = fsE c thr a r b := fsE_len hel (fun x hx => by
  rw [h.he] at hx
  obtain ⟨y, hy, rfl⟩ := List.mem_map.1 hx
  omega) hr1 (by omega) (by omega)
 refine ⟨e1, e2, ?_⟩
 by_cases h0 : fsE c thr a r b = 0
 case neg =>
  rw [fsA_bad h0, fsA_bad (by rw [e1]; exact h0), fsA_bad (by rw [e2]; exact h0)]
  exact ⟨rfl, rfl, fun _ => ⟨rfl, rfl⟩, fun k => by cases k⟩
 have hq : sqnE c thr a r = 0 := by
  unfold fsE at h0
  split at h0
  ·rename_i h1; exact absurd h0 h1
  ·rename_i h1; exact Classical.byContradiction h1
 have hw : wdE b ((c.length + 1 : Nat) : Int) = 0 := by
  unfold fsE at h0
  rw [if_neg (by simpa using hq)] at h0
  exact h0
 have hbl : b.length = c.length + 1 := by
  unfold wdE at hw
  split at hw
  ·omega
  ·cases hw
 unfold fsA
 rw [if_pos h0, if_pos (e1.trans h0), if_pos (e2.trans h0), fsV_two, fsV_two, hdl, h.hd, sqO_shift, sqO_some a r thr thr e c b hel]
 refine ⟨rfl, rfl, fun k => absurd h0 k, fun k => ?_⟩
 cases hO : sqO a r thr c b with
 | none => rw [hO] at k; cases k
 | some i =>
  have := sqO_le hbl hO
  unfold fsV
  dsimp only
  split <;> omega
end Go.Proofs.YtlmnpocifldpmaaGreatDoor
namespace Go.Proofs.YtlmnpocifldpmaaGreatDoor
open Go.RowKit
open Go.Shelf
theorem TwoZ.both {B : Nat} {W W' : World} {v1 v2 : Value} {ts os : List Int} {row : Option Nat} (h : TwoZ B W v1 v2 ts os) (hg : W.grownBy W' row) (n1 : ∀ g, v1.ownBlock = some g → row ≠ some g) (n2 : ∀ g, v2.ownBlock = some g → row ≠ some g) : TwoZ B W' v1 v2 ts os :=
 ⟨ownsRow_keep h.o1 fun g hg' => hg.block g (h.o1.lt g hg').2 (fun e => n1 g hg' e.symm), ownsRow_keep h.o2 fun g hg' => hg.block g (h.o2.lt g hg').2 (fun e => n2 g hg' e.symm), h.ne⟩
structure ThreeZ (B : Nat) (W : World) (v1 v2 v3 : Value) (ts os us : List Int) : Prop where
 a : TwoZ B W v1 v2 ts os
 b : TwoZ B W v1 v3 ts us
 c : TwoZ B W v2 v3 os us
theorem ThreeZ.nil (B : Nat) (W : World) : ThreeZ B W (.slice none 0 0) (.slice none 0 0) (.slice none 0 0) [] [] [] := ⟨TwoZ.nil _ _, TwoZ.nil _ _, TwoZ.nil _ _⟩
theorem ThreeZ.below {B : Nat} {W W' : World} {v1 v2 v3 : Value} {ts os us : List Int} (h : ThreeZ B W v1 v2 v3 ts os us) (hb : Below W.heap.size W W') : ThreeZ B W' v1 v2 v3 ts os us := ⟨h.a.below hb, h.b.below hb, h.c.below hb⟩
theorem ThreeZ.app1 {B : Nat} {W W' : World} {v1 v1' v2 v3 : Value} {ts os us : List Int} {x : Int} (h : ThreeZ B W v1 v2 v3 ts os us) (hown : W'.ownsRow B 3 1 v1' (ts.length + 1) (zs ts ++ [.int .i64 x])) (hg : W.grownBy W' v1.ownBlock) (hat : v1'.ownBlock = v1.ownBlock ∨ v1'.ownBlock = some W.heap.size) : ThreeZ B W' v1' v2 v3 (ts ++ [x]) os us :=
 ⟨h.a.app1 hown hg hat, h.b.app1 hown hg hat, h.c.both hg (fun g h2 e => h.a.ne g e h2) (fun g h3 e => h.b.ne g e h3)⟩
theorem ThreeZ.app2 {B : Nat} {W W' : World} {v1 v2 v2' v3 : Value} {ts os us : List Int} {x : Int} (h : ThreeZ B W v1 v2 v3 ts os us) (hown : W'.ownsRow B 3 1 v2' (os.length + 1) (zs os ++ [.int .i64 x])) (hg : W.grownBy W' v2.ownBlock) (hat : v2'.ownBlock = v2.ownBlock ∨ v2'.ownBlock = some W.heap.size) : ThreeZ B W' v1 v2' v3 ts (os ++ [x]) us :=
 ⟨h.a.app2 hown hg hat, h.b.both hg (fun g h1 e => h.a.ne g h1 e) (fun g h3 e => h.c.ne g e h3), h.c.app1 hown hg hat⟩
theorem ThreeZ.app3 {B : Nat} {W W' : World} {v1 v2 v3 v3' : Value} {ts os us : List Int} {x : Int} (h : ThreeZ B W v1 v2 v3 ts os us) (hown : W'.ownsRow B 3 1 v3' (us.length + 1) (zs us ++ [.int .i64 x])) (hg : W.grownBy W' v3.ownBlock) (hat : v3'.ownBlock = v3.ownBlock ∨ v3'.ownBlock = some W.heap.size) : ThreeZ B W' v1 v2 v3' ts os (us ++ [x]) :=
 ⟨h.a.both hg (fun g h1 e => h.b.ne g h1 e) (fun g h2 e => h.c.ne g h2 e), h.b.app2 hown hg hat, h.c.app2 hown hg hat⟩
open Go.Lib (decDigits nDigits)
def ssC (l : List Int) : List Int := l.map (fun x => x.tmod 1000000)
theorem ssC_take {l : List Int} {i : Nat} {x : Int} (h : l[i]? = some x) : ssC (l.take (i + 1)) = ssC (l.take i) ++ [x.tmod 1000000] := by
 unfold ssC
 rw [List.take_add_one, h, Option.toList_some, List.map_append]; rfl
theorem tmod_rgS (x : Int) : -1000000 < x.tmod 1000000 ∧ x.tmod 1000000 < 1000000 :=
 ⟨Int.lt_tmod_of_pos x (by omega), Int.tmod_lt_of_pos x (by omega)⟩
theorem w_SparseShift (w : World) (v u : Value) (c : List Int) (th : Int) (a rr : ByteArray) (b : List ByteArray) (sh : Int) (hv : Row w v (zs c)) (hu : Row w u (strs b)) (hc : c.length ≤ maxLen) (ha : a.size ≤ maxLen) (hrr : rr.size ≤ maxLen) (hb : ∀ x ∈ b, x.size ≤ maxLen) (hL : LayB w) :
 Calls Tryz.prog 4 #[v, .int .i64 th, .string a, .string rr, u, .int .i64 sh] w fun e w' => e = .returned (.bool true) ∧ Below w.heap.size w w' := by
 have HLV := hid (w_lives24 w hL)
 unfold maxLen at hc ha hrr hb
 obtain ⟨s, cp, rfl, q1, q2, q3⟩ := hv.openZ
 obtain ⟨t, cq, rfl, p1, p2, p3⟩ := hu.openS
 obtain ⟨L, hLL⟩ : ∃ n, c.length = n := ⟨_, rfl⟩
 obtain ⟨N, hN⟩ : ∃ n, b.length = n := ⟨_, rfl⟩
 have HV := hid hv; have HU := hid hu; have Q3 := hid q3; have P3 := hid p3; have HLL := hid hLL; have HNN := hid hN; have HL := hid hL; have HB := hid hb
 rw [hLL] at HV q1 hc ⊢
 rw [hN] at HU p1 ⊢
 clear hv hu q3 p3 hLL hN hL hb
 by_cases c1 : 40 < L
 ·have t1 : decide ((40 : Int) < (L : Int)) = true := decide_eq_true (by omega)
  clear c1 hc ha hrr
  go_enter Tryz.func4, Tryz.ntmps4
  go_wp2_with fail
  refine HLV.out.mono ?_; rintro e w1 ⟨rfl, hb1⟩
  go_wp2_with fail
  go_ret
  exact ⟨rfl, hb1⟩
 have t1 : decide ((40 : Int) < (L : Int)) = false := decide_eq_false (by omega)
 by_cases c2 : 20 < a.size
 ·have t2 : decide ((20 : Int) < (a.size : Int)) = true := decide_eq_true (by omega)
  clear c1 c2 hc ha hrr
  go_enter Tryz.func4, Tryz.ntmps4
  go_wp2_with fail
  refine HLV.out.mono ?_; rintro e w1 ⟨rfl, hb1⟩
  go_wp2_with fail
  go_ret
  exact ⟨rfl, hb1⟩
 have t2 : decide ((20 : Int) < (a.size : Int)) = false := decide_eq_false (by omega)
 by_cases c2r : 20 < rr.size
 ·have t2r : decide ((20 : Int) < (rr.size : Int)) = true := decide_eq_true (by omega)
  clear c1 c2 c2r hc ha hrr
  go_enter Tryz.func4, Tryz.ntmps4
  go_wp2_with fail
  refine HLV.out.mono ?_; rintro e w1 ⟨rfl, hb1⟩
  go_wp2_with fail
  go_ret
  exact ⟨rfl, hb1⟩
 have t2r : decide ((20 : Int) < (rr.size : Int)) = false := decide_eq_false (by omega)
 by_cases c3 : 50 < N
 ·have t3 : decide ((50 : Int) < (N : Int)) = true := decide_eq_true (by omega)
  clear c1 c2 c2r c3 hc ha hrr
  go_enter Tryz.func4, Tryz.ntmps4
  go_wp2_with fail
  refine HLV.out.mono ?_; rintro e w1 ⟨rfl, hb1⟩
  go_wp2_with fail
  go_ret
  exact ⟨rfl, hb1⟩
 have t3 : decide ((50 : Int) < (N : Int)) = false := decide_eq_false (by omega)
 obtain ⟨i0, hi, hz0, hz1, hz2⟩ := info_parts info_intO
 have HA := hid (show a.size ≤ 100000 by omega)
 have HR := hid (show rr.size ≤ 100000 by omega)
 have HN40 := hid (show N ≤ 50 by omega); have HL40 := hid (show L ≤ 40 by omega)
 clear c1 c2 c2r c3 hc ha hrr
 go_enter Tryz.func4, Tryz.ntmps4
 go_wp2_with fail
 refine HLV.out.mono ?_; rintro e w1 ⟨rfl, hb1⟩
 have y1 := hid hb1; clear hb1
 go_wp2_with fail
 obtain ⟨w1', hw1'⟩ : ∃ x : World, x = w1 := ⟨_, rfl⟩
 go_loop [13] (fun s13 => ∃ i : Nat, s13 = .int .i64 (i : Nat) ∧ i ≤ N ∧ Hid (∀ (j : Nat) (x : ByteArray), j < i → b[j]? = some x → x.size ≤ 60)) (fun s13 => N - (intOf s13).toNat)
 case atStart => exact ⟨0, rfl, Nat.zero_le _, fun j x hj => absurd hj (by omega)⟩
 case round =>
  clear hw1'
  obtain ⟨i, rfl, hi', hI⟩ := hrel
  by_cases hlt : i < N
  ·obtain ⟨x, hx⟩ : ∃ x, b[i]? = some x := ⟨_, List.getElem?_eq_getElem (by rw [HNN.out]; exact hlt)⟩
   obtain ⟨g, o, rfl, hg, hc⟩ := P3.out i x hx
   have c1 := (y1.out.cell (p := ⟨g, o + i, none⟩) hg).trans hc
   have HX := hid hx
   have f0 : (0 : Int) ≤ (i : Int) := by omega
   have f1 : (i : Int) < (N : Int) := by omega
   have wi : IntKind.i64.wrap ((i : Int) + 1) = ((i + 1 : Nat) : Int) := by have := HN40.out; rw [IntWalk.i64_in _ ⟨by omega, by omega⟩]; omega
   by_cases h6 : 60 < x.size
   ·have t6 : decide ((60 : Int) < (x.size : Int)) = true := decide_eq_true (by omega)
    clear hx hc hg h6 hi' hlt
    go_wp2_with fail
    go_ret
    exact ⟨rfl, y1.out⟩
   ·have t6 : decide ((60 : Int) < (x.size : Int)) = false := decide_eq_false (by omega)
    have HLE := hid (show x.size ≤ 60 by omega)
    have IL := hid hlt
    clear hx hc hg h6 hi' hlt
    go_wp2_with fail
    go_round
    case rel => exact ⟨i + 1, by go_num, IL.out, fun j y hj hy => by
     rcases Nat.lt_or_ge j i with h | h
     ·exact hI.out j y h hy
     ·obtain rfl : j = i := by omega
      rw [HX.out] at hy; cases hy; exact HLE.out⟩
    case measure => simp [intOf] <;> (have := IL.out; omega)
  ·obtain rfl : i = N := by omega
   have q1 : decide ((i : Int) < (i : Int)) = false := by simp
   have hB60 : ∀ x ∈ b, x.size ≤ 60 := fun x hx => by
    obtain ⟨j, hj⟩ := List.getElem?_of_mem hx
    exact hI.out j x (by rw [← HNN.out]; exact (List.getElem?_eq_some_iff.1 hj).1) hj
   have HB60 := hid hB60
   have hsr := tmod_rgS sh
   obtain ⟨S, hS⟩ : ∃ S, sh.tmod 1000000 = S := ⟨_, rfl⟩
   rw [hS] at hsr
   have HSR := hid hsr; have HS := hid hS
   have htr := tmod_rgS th
   obtain ⟨T, hT⟩ : ∃ S, th.tmod 1000000 = S := ⟨_, rfl⟩
   rw [hT] at htr
   have HTR0 := hid htr; have HTT := hid hT
   clear hlt hi' hI hB60 hsr hS htr hT
   go_wp2_with fail
   rw [HS.out, HTT.out]
   go_loopw [14, 15, 16, 17, 18] (fun s14 s15 s16 s17 s18 wr => ∃ k : Nat, s17 = .int .i64 (k : Nat) ∧ k ≤ L ∧ Hid (ThreeZ w.heap.size wr s14 s15 s16 (ssC (c.take k)) ((ssC (c.take k)).map (· + S)) ((ssC (c.take k)).map fun _ => 0)) ∧ Hid (Below w.heap.size w wr)) (fun s14 s15 s16 s17 s18 wr => L - (intOf s17).toNat)
   case atStart => exact ⟨0, rfl, Nat.zero_le _, ThreeZ.nil _ _, y1⟩
   case round =>
    obtain ⟨k, rfl, hk', hT, hB⟩ := hrel
    by_cases hlt : k < L
    ·obtain ⟨x, hx⟩ : ∃ x, c[k]? = some x := ⟨_, List.getElem?_eq_getElem (by rw [HLL.out]; exact hlt)⟩
     obtain ⟨g, o, rfl, hg, hc⟩ := Q3.out k x hx
     have c1 := (hB.out.cell (p := ⟨g, o + k, none⟩) hg).trans hc
     have htk := hid (ssC_take hx)
     have hxr := tmod_rgS x
     have f0 : (0 : Int) ≤ (k : Int) := by omega
     have f1 : (k : Int) < (L : Int) := by omega
     have wk : IntKind.i64.wrap ((k : Int) + 1) = ((k + 1 : Nat) : Int) := by have := HL40.out; rw [IntWalk.i64_in _ ⟨by omega, by omega⟩]; omega
     have wxs : IntKind.i64.wrap (x.tmod 1000000 + S) = x.tmod 1000000 + S := by have := HSR.out; rw [IntWalk.i64_in _ ⟨by omega, by omega⟩]
     have hts : (ssC (c.take k)).length = k := by unfold ssC; rw [List.length_map, List.length_take, HLL.out]; omega
     have IL := hid hlt
     obtain ⟨ts, hts2⟩ : ∃ ts, ssC (c.take k) = ts := ⟨_, rfl⟩
     rw [hts2] at hT hts htk
     have hos : (ts.map (· + S)).length = k := by rw [List.length_map]; exact hts
     have hus : (ts.map fun _ => (0 : Int)).length = k := by rw [List.length_map]; exact hts
     obtain ⟨os, hos2⟩ : ∃ os, ts.map (· + S) = os := ⟨_, rfl⟩
     obtain ⟨us, hus2⟩ : ∃ os, (ts.map fun _ => (0 : Int)) = os := ⟨_, rfl⟩
     rw [hos2, hus2] at hT
     rw [hos2] at hos
     rw [hus2] at hus
     have HTS := hid hts; have HOS := hid hos; have HOS2 := hid hos2; have HUS := hid hus; have HUS2 := hid hus2
     have d1 : Below wr.heap.size wr (wr.alloc (.cells #[.int .i64 (x.tmod 1000000)] 3)) := (Below.refl _ _).alloc (Nat.le_refl _) _
     have T1 := hid (hT.out.below d1)
     have b1 := hid (hB.out.trans (d1.mono hB.out.size))
     have k1 := hid (Blk.new wr #[.int .i64 (x.tmod 1000000)] 3)
     clear hx hc hg hxr hts hts2 hos hos2 hus hus2 d1 hlt hk'
     go_wp2_with (first
      | (at_builtin; refine wpList_append_own_at _ rfl _ _ 24 rfl w.heap.size 3 i0 (.int .i64 0) 1 8 Tryz.underlying24 hi hz0 hz1 hz2 rfl (by decide) _ us.length (zs us) rfl (T5.out.below ((Below.refl _ _).alloc (Nat.le_refl _) (.cells #[.int .i64 0] 3))).b.o2 ⟨w5.heap.size, 0, none⟩ 1 1 [.int .i64 0] rfl rfl (news_blk (Blk.new w5 #[.int .i64 0] 3)) (by simp [Value.oneCell']) (by have := HUS.out; have := HL40.out; have := IL.out; unfold maxLen; omega) (by have := HUS.out; have := HL40.out; have := IL.out; omega) (by have := b5.out.size; simp; omega) ?_
         intro v3' w7 hown hgrow _ hat
         have T7 := hid ((T5.out.below ((Below.refl _ _).alloc (Nat.le_refl _) (.cells #[.int .i64 0] 3))).app3 hown hgrow hat)
         have b7 := hid (owned_below (T5.out.below ((Below.refl _ _).alloc (Nat.le_refl _) (.cells #[.int .i64 0] 3))).b.o2 (b5.out.alloc b5.out.size (.cells #[.int .i64 0] 3)) hgrow)
         clear hown hgrow hat)
      | (at_builtin; refine wpList_append_own_at _ rfl _ _ 24 rfl w.heap.size 3 i0 (.int .i64 0) 1 8 Tryz.underlying24 hi hz0 hz1 hz2 rfl (by decide) _ os.length (zs os) rfl (T3.out.below ((Below.refl _ _).alloc (Nat.le_refl _) (.cells #[.int .i64 (x.tmod 1000000 + S)] 3))).a.o2 ⟨w3.heap.size, 0, none⟩ 1 1 [.int .i64 (x.tmod 1000000 + S)] rfl rfl (news_blk (Blk.new w3 #[.int .i64 (x.tmod 1000000 + S)] 3)) (by simp [Value.oneCell']) (by have := HOS.out; have := HL40.out; have := IL.out; unfold maxLen; omega) (by have := HOS.out; have := HL40.out; have := IL.out; omega) (by have := b3.out.size; simp; omega) ?_
         intro v2' w5 hown hgrow _ hat
         have T5 := hid ((T3.out.below ((Below.refl _ _).alloc (Nat.le_refl _) (.cells #[.int .i64 (x.tmod 1000000 + S)] 3))).app2 hown hgrow hat)
         have b5 := hid (owned_below (T3.out.below ((Below.refl _ _).alloc (Nat.le_refl _) (.cells #[.int .i64 (x.tmod 1000000 + S)] 3))).a.o2 (b3.out.alloc b3.out.size (.cells #[.int .i64 (x.tmod 1000000 + S)] 3)) hgrow)
         clear hown hgrow hat)
      | (at_builtin; refine wpList_append_own_at _ rfl _ _ 24 rfl w.heap.size 3 i0 (.int .i64 0) 1 8 Tryz.underlying24 hi hz0 hz1 hz2 rfl (by decide) _ ts.length (zs ts) rfl T1.out.a.o1 ⟨wr.heap.size, 0, none⟩ 1 1 [.int .i64 (x.tmod 1000000)] rfl rfl (news_blk k1.out) (by simp [Value.oneCell']) (by have := HTS.out; have := HL40.out; have := IL.out; unfold maxLen; omega) (by have := HTS.out; have := HL40.out; have := IL.out; omega) (by exact b1.out.size) ?_
         intro v1' w3 hown hgrow _ hat
         have T3 := hid (T1.out.app1 hown hgrow hat)
         have b3 := hid (owned_below T1.out.a.o1 b1.out hgrow)
         clear hown hgrow hat))
     go_roundw
     case rel => exact ⟨k + 1, by go_num, IL.out, hid (by rw [htk.out, List.map_append, List.map_append, HOS2.out, HUS2.out]; exact T7.out), b7⟩
     case measure => simp [intOf] <;> (have := IL.out; omega)
    ·obtain rfl : k = L := by omega
     have q1 : decide ((k : Int) < (k : Int)) = false := by simp
     have hTk : c.take k = c := List.take_of_length_le (by rw [HLL.out]; exact Nat.le_refl _)
     rw [hTk] at hT
     obtain ⟨ts, hts2⟩ : ∃ ts, ssC c = ts := ⟨_, rfl⟩
     rw [hts2] at hT
     have htl : ts.length = k := by rw [← hts2]; unfold ssC; rw [List.length_map]; exact HLL.out
     have htr : ∀ x ∈ ts, -1000000 < x ∧ x < 1000000 := fun x hx => by
      rw [← hts2] at hx
      obtain ⟨y, -, rfl⟩ := List.mem_map.1 hx
      exact tmod_rgS y
     have R1 := hid (Row.of_owns hT.out.a.o1); have R2 := hid (Row.of_owns hT.out.a.o2); have R3 := hid (Row.of_owns hT.out.b.o2)
     obtain ⟨z1, z2, z3, z4, z5, z6⟩ := ss_all (c := ts) (thr := T) (s := S) ⟨htr, HSR.out, HTR0.out, rfl, rfl⟩ a rr b
     obtain ⟨a1, k1, rfl⟩ := owns_ex hT.out.a.o1
     obtain ⟨a2, k2, rfl⟩ := owns_ex hT.out.a.o2
     obtain ⟨a3, k3, rfl⟩ := owns_ex hT.out.b.o2
     rw [htl] at z6
     have hb8 : ∀ x ∈ b, x.size ≤ 100000000 := fun x hx => by have := HB60.out x hx; omega
     have P1 := fun V v u hv hu hV => hid (sp_First V v u ts T a rr b hv hu HA.out HR.out hb8 hV)
     have P2 := fun V v u hv hu hV => hid (sp_First V v u (ts.map (· + S)) (T + S) a rr b hv hu HA.out HR.out hb8 hV)
     have P3 := fun V v u hv hu hV => hid (sp_First V v u (ts.map fun _ => 0) T a rr b hv hu HA.out HR.out hb8 hV)
     rw [z1, z3] at P2
     rw [z2, z4] at P3
     rw [List.length_map, htl] at R2 R3 ⊢
     rw [List.length_map, htl]
     rw [htl] at R1
     obtain ⟨X, hX⟩ : ∃ z, (fsA ts T a rr b).1 = z := ⟨_, rfl⟩
     obtain ⟨I, hI⟩ : ∃ z, (fsA ts T a rr b).2 = z := ⟨_, rfl⟩
     obtain ⟨E, hE⟩ : ∃ z, fsE ts T a rr b = z := ⟨_, rfl⟩
     obtain ⟨U, hU⟩ : ∃ z, (fsA (ts.map fun _ => 0) T a rr b).1 = z := ⟨_, rfl⟩
     rw [hX, hI, hE] at P1 P2
     rw [hI, hE, hU] at P3
     rw [hX, hI, hE] at z5
     rw [hX, hI] at z6
     have wts : IntKind.i64.wrap (T + S) = T + S := by have := HSR.out; have := HTR0.out; rw [IntWalk.i64_in _ ⟨by omega, by omega⟩]
     have Z5 := hid z5; have Z6 := hid z6
     clear hTk hT hts2 htl htr hlt hk' z1 z2 z3 z4 z5 z6 hb8 hX hI hE hU
     go_wp2_with fail
     refine (P1 _ _ _ R1.out (HU.out.call hB.out) (HL.out.call hB.out).l).out.mono ?_; rintro e x1 ⟨rfl, hb1⟩
     have Y3 := hid (bnext hB.out hb1)
     have R2 := hid (R2.out.call hb1); have R3 := hid (R3.out.call hb1)
     clear hb1
     go_wp2_with fail
     refine (P2 _ _ _ R2.out (HU.out.call Y3.out) (HL.out.call Y3.out).l).out.mono ?_; rintro e x2 ⟨rfl, hb1⟩
     have Y4 := hid (bnext Y3.out hb1)
     have R3 := hid (R3.out.call hb1)
     clear hb1
     go_wp2_with fail
     refine (P3 _ _ _ R3.out (HU.out.call Y4.out) (HL.out.call Y4.out).l).out.mono ?_; rintro e x3 ⟨rfl, hb1⟩
     have Y5 := hid (bnext Y4.out hb1)
     clear hb1
     by_cases hE0 : E = 0
     ·subst hE0
      cases I
      ·go_wp2_with fail
       go_ret
       exact ⟨rfl, Y5.out⟩
      ·obtain ⟨k3, k4⟩ := Z6.out rfl
       have t8 : decide (-1 ≤ X) = true := decide_eq_true k3
       have t7 : decide (X < (k : Int)) = true := decide_eq_true k4
       clear k3 k4
       go_wp2_with fail
       go_ret
       exact ⟨rfl, Y5.out⟩
     ·have t9 : (E == 0) = false := by rw [beq_eq_false_iff_ne]; exact hE0
      obtain ⟨rfl, rfl⟩ := Z5.out hE0
      clear hE0
      go_wp2_with fail
      go_ret
      exact ⟨rfl, Y5.out⟩
theorem pngB_size (n : Nat) (s : ByteArray) : (pngB n s).size ≤ 10000 := by
 unfold pngB op1B
 split
 ·exact outB_size _
 ·exact Nat.zero_le _
theorem sp_Factor (w : World) (a r : ByteArray) (reach : Int) (one : Bool) (ha : a.size ≤ 100000) (hr : r.size ≤ 100000) (hL : Lay w) :
 Calls Tryz.prog 19 #[.string a, .string r, .int .i64 reach, .bool one] w fun e w' => e = .returned (.tuple #[.string (sffB a r reach one), .int .i64 (sffE a r reach one)]) ∧ Below w.heap.size w w' := by
 have HA := hid (sp_inverse w a ha hL)
 have HB := fun V hV => hid (sp_inverse V r hr hV)
 have CO := fun V v h => hid (s_OrE V v [ivrE a, ivrE r] h)
 rw [orZ_two] at CO
 have HL := hid hL
 unfold sffB sffE
 by_cases h0 : sffX a r reach = 0
 ·rw [h0]
  simp only [ne_eq, not_true_eq_false, if_false]
  have h0' := h0
  unfold sffX at h0'
  split at h0'
  ·rename_i h1; exact absurd h0' h1
  rename_i h1
  have h1 : ivrE a = 0 := Classical.byContradiction h1
  split at h0'
  ·rename_i h2; exact absurd h0' h2
  rename_i h2
  have h2 : ivrE r = 0 := Classical.byContradiction h2
  split at h0'
  ·cases h0'
  rename_i h3
  rw [if_neg (by simpa using h1)] at CO
  rw [h1] at HA CO
  rw [h2] at HB CO
  obtain ⟨hq1, -⟩ := iv_pos h1
  obtain ⟨hq2, -⟩ := iv_pos h2
  obtain ⟨m, rfl⟩ : ∃ m : Nat, reach = (m : Nat) := ⟨reach.toNat, by omega⟩
  have H1 := fun V hV => hid (q_PowN V a m (-(m : Int)) (by omega) hq1 (iv_ne h1) (by omega) rfl hV)
  have H2 := fun V hV => hid (q_PowN V r (ffM (m : Nat) one) (-((ffM (m : Nat) one : Nat) : Int)) (by omega) hq2 (iv_ne h2) (by unfold ffM; split <;> simp <;> omega) rfl hV)
  have e1 : pnB m a = pngB m a := rfl
  have e2 : pnE m a = pngE m a := rfl
  have e3 : pnB (ffM (m : Nat) one) r = pngB (ffM (m : Nat) one) r := rfl
  have e4 : pnE (ffM (m : Nat) one) r = pngE (ffM (m : Nat) one) r := rfl
  rw [e1, e2] at H1
  rw [e3, e4] at H2
  have CY := fun V v h => hid (s_OrE V v [pngE m a, pngE (ffM (m : Nat) one) r] h)
  rw [orZ_two] at CY
  have H3 := fun V hV => hid (q_Mul V (pngB m a) (pngB (ffM (m : Nat) one) r) (Nat.le_trans (pngB_size _ _) (by omega)) (Nat.le_trans (pngB_size _ _) (by omega)) hV)
  unfold sffY
  rw [Int.toNat_natCast]
  obtain ⟨M, hM⟩ : ∃ M, ffM (m : Nat) one = M := ⟨_, rfl⟩
  have hM' : M = if one = true then m else 2 * m := by rw [← hM]; unfold ffM; rw [Int.toNat_natCast]
  rw [hM] at H2 H3 CY ⊢
  obtain ⟨X, hX⟩ : ∃ s, pngB m a = s := ⟨_, rfl⟩
  obtain ⟨Y, hY⟩ : ∃ s, pngB M r = s := ⟨_, rfl⟩
  obtain ⟨xe, hxe⟩ : ∃ s, pngE m a = s := ⟨_, rfl⟩
  obtain ⟨ye, hye⟩ : ∃ s, pngE M r = s := ⟨_, rfl⟩
  rw [hX, hxe] at H1
  rw [hY, hye] at H2
  rw [hX, hY] at H3 ⊢
  rw [hxe, hye] at CY ⊢
  obtain ⟨Z, hZ⟩ : ∃ s, op2B (· * ·) X Y = s := ⟨_, rfl⟩
  obtain ⟨ze, hze⟩ : ∃ s, op2E (· * ·) X Y = s := ⟨_, rfl⟩
  rw [hZ, hze] at H3 ⊢
  obtain ⟨q, hqq⟩ : ∃ q, (if xe ≠ 0 then xe else ye) = q := ⟨_, rfl⟩
  rw [hqq] at CY ⊢
  have hneg1 : IntKind.i64.wrap (-(m : Int)) = -(m : Int) := by rw [IntWalk.i64_in _ ⟨by omega, by omega⟩]
  have hneg2 : IntKind.i64.wrap (-(M : Int)) = -(M : Int) := by rw [hM']; split <;> rw [IntWalk.i64_in _ ⟨by omega, by omega⟩]
  have t1 : decide ((m : Int) < 0) = false := decide_eq_false (by omega)
  have t2 : decide ((10000 : Int) < (m : Int)) = false := decide_eq_false (by omega)
  have t3 : decide (10000 < m) = false := decide_eq_false (by omega)
  have hm4 : m ≤ 10000 := by omega
  clear ha hr hL h0 h0' h1 h2 h3 hq1 hq2 e1 e2 e3 e4 hM hX hY hxe hye hZ hze hqq
  cases one
  case false =>
   simp only [Bool.false_eq_true, if_false] at hM'
   have wr2 : IntKind.i64.wrap (2 * (m : Int)) = (M : Int) := by rw [IntWalk.i64_in _ ⟨by omega, by omega⟩]; omega
   clear hM' hm4
   by_cases cq : q = 0
   ·subst cq
    rw [if_neg (by simp), if_neg (by simp)]
    go_enter Tryz.func19, Tryz.ntmps19
    go_wp2_with fail
    refine HA.out.mono ?_; rintro e w1 ⟨rfl, hb1⟩
    have y1 := hid hb1; clear hb1
    go_wp2_with fail
    refine (HB _ (HL.out.call y1.out)).out.mono ?_; rintro e w2 ⟨rfl, hb2⟩
    have y2 := hid (bnext y1.out hb2); clear hb2
    go_wp2_with fail
    refine (CO _ _ (row_two _ _ _ _)).out.mono ?_; rintro e w3 ⟨rfl, rfl⟩
    have y3 := hid (y2.out.alloc y2.out.size (.cells #[.int .i64 0, .int .i64 0] 27))
    go_wp2_with fail
    refine (H1 _ (HL.out.call y3.out)).out.mono ?_; rintro e w4 ⟨rfl, hb4⟩
    have y4 := hid (bnext y3.out hb4); clear hb4
    go_wp2_with fail
    refine (H2 _ (HL.out.call y4.out)).out.mono ?_; rintro e w5 ⟨rfl, hb5⟩
    have y5 := hid (bnext y4.out hb5); clear hb5
    go_wp2_with fail
    refine (CY _ _ (row_two _ _ _ _)).out.mono ?_; rintro e w6 ⟨rfl, rfl⟩
    have y6 := hid (y5.out.alloc y5.out.size (.cells #[.int .i64 xe, .int .i64 ye] 27))
    go_wp2_with fail
    refine (H3 _ (HL.out.call y6.out)).out.mono ?_; rintro e w7 ⟨rfl, hb7⟩
    have y7 := hid (bnext y6.out hb7); clear hb7
    go_wp2_with fail
    go_ret2
    exact ⟨rfl, y7.out⟩
   ·rw [if_pos cq, if_pos cq]
    have t0 : (q == 0) = false := by rw [beq_eq_false_iff_ne]; exact cq
    have t0' : (q != 0) = true := by simpa using cq
    clear cq
    go_enter Tryz.func19, Tryz.ntmps19
    go_wp2_with fail
    refine HA.out.mono ?_; rintro e w1 ⟨rfl, hb1⟩
    have y1 := hid hb1; clear hb1
    go_wp2_with fail
    refine (HB _ (HL.out.call y1.out)).out.mono ?_; rintro e w2 ⟨rfl, hb2⟩
    have y2 := hid (bnext y1.out hb2); clear hb2
    go_wp2_with fail
    refine (CO _ _ (row_two _ _ _ _)).out.mono ?_; rintro e w3 ⟨rfl, rfl⟩
    have y3 := hid (y2.out.alloc y2.out.size (.cells #[.int .i64 0, .int .i64 0] 27))
    go_wp2_with fail
    refine (H1 _ (HL.out.call y3.out)).out.mono ?_; rintro e w4 ⟨rfl, hb4⟩
    have y4 := hid (bnext y3.out hb4); clear hb4
    go_wp2_with fail
    refine (H2 _ (HL.out.call y4.out)).out.mono ?_; rintro e w5 ⟨rfl, hb5⟩
    have y5 := hid (bnext y4.out hb5); clear hb5
    go_wp2_with fail
    refine (CY _ _ (row_two _ _ _ _)).out.mono ?_; rintro e w6 ⟨rfl, rfl⟩
    have y6 := hid (y5.out.alloc y5.out.size (.cells #[.int .i64 xe, .int .i64 ye] 27))
    go_wp2_with fail
    go_ret2
    exact ⟨rfl, y6.out⟩
  case true =>
   simp only [if_true] at hM'
   subst hM'
   clear hm4 hneg2
   by_cases cq : q = 0
   ·subst cq
    rw [if_neg (by simp), if_neg (by simp)]
    go_enter Tryz.func19, Tryz.ntmps19
    go_wp2_with fail
    refine HA.out.mono ?_; rintro e w1 ⟨rfl, hb1⟩
    have y1 := hid hb1; clear hb1
    go_wp2_with fail
    refine (HB _ (HL.out.call y1.out)).out.mono ?_; rintro e w2 ⟨rfl, hb2⟩
    have y2 := hid (bnext y1.out hb2); clear hb2
    go_wp2_with fail
    refine (CO _ _ (row_two _ _ _ _)).out.mono ?_; rintro e w3 ⟨rfl, rfl⟩
    have y3 := hid (y2.out.alloc y2.out.size (.cells #[.int .i64 0, .int .i64 0] 27))
    go_wp2_with fail
    refine (H1 _ (HL.out.call y3.out)).out.mono ?_; rintro e w4 ⟨rfl, hb4⟩
    have y4 := hid (bnext y3.out hb4); clear hb4
    go_wp2_with fail
    refine (H2 _ (HL.out.call y4.out)).out.mono ?_; rintro e w5 ⟨rfl, hb5⟩
    have y5 := hid (bnext y4.out hb5); clear hb5
    go_wp2_with fail
    refine (CY _ _ (row_two _ _ _ _)).out.mono ?_; rintro e w6 ⟨rfl, rfl⟩
    have y6 := hid (y5.out.alloc y5.out.size (.cells #[.int .i64 xe, .int .i64 ye] 27))
    go_wp2_with fail
    refine (H3 _ (HL.out.call y6.out)).out.mono ?_; rintro e w7 ⟨rfl, hb7⟩
    have y7 := hid (bnext y6.out hb7); clear hb7
    go_wp2_with fail
    go_ret2
    exact ⟨rfl, y7.out⟩
   ·rw [if_pos cq, if_pos cq]
    have t0 : (q == 0) = false := by rw [beq_eq_false_iff_ne]; exact cq
    have t0' : (q != 0) = true := by simpa using cq
    clear cq
    go_enter Tryz.func19, Tryz.ntmps19
    go_wp2_with fail
    refine HA.out.mono ?_; rintro e w1 ⟨rfl, hb1⟩
    have y1 := hid hb1; clear hb1
    go_wp2_with fail
    refine (HB _ (HL.out.call y1.out)).out.mono ?_; rintro e w2 ⟨rfl, hb2⟩
    have y2 := hid (bnext y1.out hb2); clear hb2
    go_wp2_with fail
    refine (CO _ _ (row_two _ _ _ _)).out.mono ?_; rintro e w3 ⟨rfl, rfl⟩
    have y3 := hid (y2.out.alloc y2.out.size (.cells #[.int .i64 0, .int .i64 0] 27))
    go_wp2_with fail
    refine (H1 _ (HL.out.call y3.out)).out.mono ?_; rintro e w4 ⟨rfl, hb4⟩
    have y4 := hid (bnext y3.out hb4); clear hb4
    go_wp2_with fail
    refine (H2 _ (HL.out.call y4.out)).out.mono ?_; rintro e w5 ⟨rfl, hb5⟩
    have y5 := hid (bnext y4.out hb5); clear hb5
    go_wp2_with fail
    refine (CY _ _ (row_two _ _ _ _)).out.mono ?_; rintro e w6 ⟨rfl, rfl⟩
    have y6 := hid (y5.out.alloc y5.out.size (.cells #[.int .i64 xe, .int .i64 ye] 27))
    go_wp2_with fail
    go_ret2
    exact ⟨rfl, y6.out⟩
 ·rw [if_pos h0, if_pos h0]
  unfold sffX at h0 ⊢
  obtain ⟨x0, hx⟩ : ∃ z, ivrE a = z := ⟨_, rfl⟩
  obtain ⟨z0, hz⟩ : ∃ z, ivrE r = z := ⟨_, rfl⟩
  rw [hx] at HA CO h0 ⊢
  simp only [hz] at HB
  rw [hz] at CO h0 ⊢
  by_cases c0 : x0 = 0
  case neg =>
   rw [if_pos c0] at CO ⊢
   have t0 : (x0 == 0) = false := by rw [beq_eq_false_iff_ne]; exact c0
   clear hx hz h0 c0 ha hr hL
   go_enter Tryz.func19, Tryz.ntmps19
   go_wp2_with fail
   refine HA.out.mono ?_; rintro e w1 ⟨rfl, hb1⟩
   have y1 := hid hb1; clear hb1
   go_wp2_with fail
   refine (HB _ (HL.out.call y1.out)).out.mono ?_; rintro e w2 ⟨rfl, hb2⟩
   have y2 := hid (bnext y1.out hb2); clear hb2
   go_wp2_with fail
   refine (CO _ _ (row_two _ _ _ _)).out.mono ?_; rintro e w3 ⟨rfl, rfl⟩
   have y3 := hid (y2.out.alloc y2.out.size (.cells #[.int .i64 x0, .int .i64 z0] 27))
   go_wp2_with fail
   go_ret2
   exact ⟨rfl, y3.out⟩
  subst c0
  rw [if_neg (by simp)] at h0 CO ⊢
  by_cases c2 : z0 = 0
  case neg =>
   rw [if_pos c2]
   have t0 : (z0 == 0) = false := by rw [beq_eq_false_iff_ne]; exact c2
   clear hx hz h0 c2 ha hr hL
   go_enter Tryz.func19, Tryz.ntmps19
   go_wp2_with fail
   refine HA.out.mono ?_; rintro e w1 ⟨rfl, hb1⟩
   have y1 := hid hb1; clear hb1
   go_wp2_with fail
   refine (HB _ (HL.out.call y1.out)).out.mono ?_; rintro e w2 ⟨rfl, hb2⟩
   have y2 := hid (bnext y1.out hb2); clear hb2
   go_wp2_with fail
   refine (CO _ _ (row_two _ _ _ _)).out.mono ?_; rintro e w3 ⟨rfl, rfl⟩
   have y3 := hid (y2.out.alloc y2.out.size (.cells #[.int .i64 0, .int .i64 z0] 27))
   go_wp2_with fail
   go_ret2
   exact ⟨rfl, y3.out⟩
  subst c2
  rw [if_neg (by simp)] at h0 ⊢
  by_cases c1 : reach < 0 ∨ 10000 < reach
  ·rw [if_pos c1]
   obtain ⟨p1, h1⟩ : ∃ p, decide (reach < 0) = p := ⟨_, rfl⟩
   obtain ⟨p2, h2⟩ : ∃ p, decide (10000 < reach) = p := ⟨_, rfl⟩
   have hpq : (p1 || p2) = true := by rw [← h1, ← h2]; simpa using c1
   clear hx hz h0 c1 ha hr hL
   cases p1
   case true =>
    clear hpq h2
    go_enter Tryz.func19, Tryz.ntmps19
    go_wp2_with fail
    refine HA.out.mono ?_; rintro e w1 ⟨rfl, hb1⟩
    have y1 := hid hb1; clear hb1
    go_wp2_with fail
    refine (HB _ (HL.out.call y1.out)).out.mono ?_; rintro e w2 ⟨rfl, hb2⟩
    have y2 := hid (bnext y1.out hb2); clear hb2
    go_wp2_with fail
    refine (CO _ _ (row_two _ _ _ _)).out.mono ?_; rintro e w3 ⟨rfl, rfl⟩
    have y3 := hid (y2.out.alloc y2.out.size (.cells #[.int .i64 0, .int .i64 0] 27))
    go_wp2_with fail
    go_ret2
    exact ⟨rfl, y3.out⟩
   obtain rfl : p2 = true := by simpa using hpq
   clear hpq
   go_enter Tryz.func19, Tryz.ntmps19
   go_wp2_with fail
   refine HA.out.mono ?_; rintro e w1 ⟨rfl, hb1⟩
   have y1 := hid hb1; clear hb1
   go_wp2_with fail
   refine (HB _ (HL.out.call y1.out)).out.mono ?_; rintro e w2 ⟨rfl, hb2⟩
   have y2 := hid (bnext y1.out hb2); clear hb2
   go_wp2_with fail
   refine (CO _ _ (row_two _ _ _ _)).out.mono ?_; rintro e w3 ⟨rfl, rfl⟩
   have y3 := hid (y2.out.alloc y2.out.size (.cells #[.int .i64 0, .int .i64 0] 27))
   go_wp2_with fail
   go_ret2
   exact ⟨rfl, y3.out⟩
  ·rw [if_neg c1] at h0
   exact absurd rfl h0
end Go.Proofs.YtlmnpocifldpmaaGreatDoor
namespace Go.Proofs.YtlmnpocifldpmaaGreatDoor
open Go.RowKit
open Go.Lib (decDigits nDigits)
def Qv (v : Value) : Prop := ∃ (m : Bool) (a : Option Addr) (n c : Nat) (a' : Option Addr) (n' c' : Nat), v = .agg #[.bool m, .slice a n c, .slice a' n' c']
theorem IsQ.qv {k : IntKind} {w : World} {v : Value} {q : Rat} (h : IsQ k w v q) : Qv v := by
 obtain ⟨N, D, rfl, h1, h2⟩ := h.ex
 obtain ⟨a1, c1, rfl, _⟩ := h1.openI
 obtain ⟨a2, c2, rfl, _⟩ := h2.openI
 exact ⟨_, _, _, _, _, _, _, rfl⟩
theorem Dig.limbs {K L : Nat} {q : Rat} (h : Dig K q) (h0 : 0 < K) (hl : K ≤ 9 * L) : (limbs q.num.natAbs).length ≤ L ∧ (limbs q.den).length ≤ L :=
 ⟨limbs_digits (Nat.le_trans (nDigits_le h0 h.n) hl), limbs_digits (Nat.le_trans (nDigits_le h0 h.d) hl)⟩
open Go.Shelf
theorem isQ_putU {w : World} {b : Nat} {m0 : Bool} {a0 b0 : Option Addr} {n0 c0 n1 c1 : Nat} {t : TypeId} (hb : Blk w b #[.bool m0, .slice a0 n0 c0, .slice b0 n1 c1] t) (m : Bool) (a a' : Option Addr) (n c n' c' : Nat) {v : Value} {q : Rat} (h : IsQ .u64 w v q) :
 IsQ .u64 (((w.setCell ⟨b, 0, none⟩ (.bool m)).setCell ⟨b, 1, none⟩ (.slice a n c)).setCell ⟨b, 2, none⟩ (.slice a' n' c')) v q := by
 obtain ⟨N, D, rfl, h1, h2⟩ := h.ex
 have hs := (set3 hb m a a' n c n' c').1
 exact ⟨N, D, rfl, hs _ _ _ h1, hs _ _ _ h2⟩
theorem f_Must (w : World) (s : ByteArray) (hs : s.size ≤ 1000000) (hq : qE s = 0) (hL : Lay w) :
 Calls Tryz.prog 53 #[.string s] w fun e w' => RetQ .u64 (vQ s) e w' ∧ Below w.heap.size w w' := by
 have HP := fun V hV => hid (f_Parse V s hs hV)
 rw [hq] at HP
 have HQ := hid hq; have HL := hid hL
 have A0 := hid ((Below.refl w.heap.size w).alloc (Nat.le_refl _) (.cells #[.bool false, .slice none 0 0, .slice none 0 0] 94))
 have X0 := hid (Blk.new w #[.bool false, .slice none 0 0, .slice none 0 0] 94)
 clear hs hq hL
 go_enter Tryz.func53, Tryz.ntmps53
 go_wp2_with fail
 refine (HP _ (HL.out.call A0.out)).out.mono ?_; rintro e w1 ⟨⟨v1, rfl, hv1, -⟩, hb1⟩
 have iq := isQ_of HQ.out (hv1 rfl)
 obtain ⟨m1, a1, n1, c1, a2, n2, c2, rfl⟩ := iq.qv
 have X1 := hid (X0.out.call hb1)
 have y1 := hid (bnext A0.out hb1)
 have A1 := hid ((Below.refl w1.heap.size w1).alloc (Nat.le_refl _) (.cells #[.bool m1, .slice a1 n1 c1, .slice a2 n2 c2] 94))
 have Z1 := hid (Blk.new w1 #[.bool m1, .slice a1 n1 c1, .slice a2 n2 c2] 94)
 have X2 := hid (X1.out.call A1.out)
 have y2 := hid (bnext y1.out A1.out)
 have Q2 := hid (iq.call A1.out)
 clear hb1 hv1 X1 y1 iq
 have d0 := X2.out.cell 0
 have d1 := X2.out.cell 1
 have d2 := X2.out.cell 2
 have e0 := X2.out.free 0
 have e1 := X2.out.free 1
 have e2 := X2.out.free 2
 have g0 := Z1.out.cell 0
 have g1 := Z1.out.cell 1
 have g2 := Z1.out.cell 2
 simp at d0 d1 d2 g0 g1 g2
 go_wp2_with fail
 obtain ⟨s1, s2⟩ := set3 X2.out m1 a1 a2 n1 c1 n2 c2
 have f0 := s2.cell 0
 have f1 := s2.cell 1
 have f2 := s2.cell 2
 simp at f0 f1 f2
 refine bodyPost_ret (v := .agg #[.bool m1, .slice a1 n1 c1, .slice a2 n2 c2]) (by simp [results, Tryz.results53, go_sem, f0, f1, f2]) rfl ⟨⟨_, rfl, isQ_putU X2.out m1 a1 a2 n1 c1 n2 c2 Q2.out⟩, ?_⟩
 exact ((y2.out.setCell (Nat.le_refl _) _).setCell (Nat.le_refl _) _).setCell (Nat.le_refl _) _
theorem f_Of1 (w : World) (v : Value) (hv : IsN .u64 w v 1) : Calls Tryz.prog 125 #[v] w fun e w' => RetQ .u64 1 e w' ∧ Below w.heap.size w w' := by
 have V0 := hid hv
 have A0 := hid ((Below.refl w.heap.size w).alloc (Nat.le_refl _) (.cells #[.bool false, .slice none 0 0, .slice none 0 0] 94))
 have X0 := hid (Blk.new w #[.bool false, .slice none 0 0, .slice none 0 0] 94)
 obtain ⟨a1, c1, rfl, _⟩ := hv.openI
 obtain ⟨k1, hk1⟩ : ∃ k, (limbs 1).length = k := ⟨_, rfl⟩
 rw [hk1] at V0 ⊢
 clear hv
 go_enter Tryz.func125, Tryz.ntmps125
 go_wp2_with fail
 refine (l_Of _ 1 (by omega)).mono ?_; rintro e w1 ⟨⟨v1, rfl, hv1⟩, hb1⟩
 obtain ⟨a3, c3, rfl, _⟩ := hv1.openI
 rw [hk1] at hv1 ⊢
 have HV := hid hv1
 have V1 := hid ((V0.out.call A0.out).call hb1)
 have HB := hid (X0.out.call hb1)
 have d0 := HB.out.cell 0
 have d1 := HB.out.cell 1
 have d2 := HB.out.cell 2
 have e0 := HB.out.free 0
 have e1 := HB.out.free 1
 have e2 := HB.out.free 2
 have HBB := hid (bnext A0.out hb1)
 clear hb1 hv1
 simp at d0 d1 d2
 go_wp2_with fail
 obtain ⟨s1, s2⟩ := set3 HB.out false a1 a3 k1 c1 k1 c3
 have f0 := s2.cell 0
 have f1 := s2.cell 1
 have f2 := s2.cell 2
 simp at f0 f1 f2
 refine bodyPost_ret (v := .agg #[.bool false, .slice a1 k1 c1, .slice a3 k1 c3]) (by simp [results, Tryz.results125, go_sem, f0, f1, f2]) rfl ⟨⟨_, rfl, ⟨.slice a1 k1 c1, .slice a3 k1 c3, rfl, s1 _ _ _ V1.out, s1 _ _ _ HV.out⟩⟩, ?_⟩
 exact ((HBB.out.setCell (Nat.le_refl _) _).setCell (Nat.le_refl _) _).setCell (Nat.le_refl _) _
theorem f_One (w : World) : Calls Tryz.prog 56 #[] w fun e w' => RetQ .u64 1 e w' ∧ Below w.heap.size w w' := by
 have A0 := hid ((Below.refl w.heap.size w).alloc (Nat.le_refl _) (.cells #[.bool false, .slice none 0 0, .slice none 0 0] 94))
 have X0 := hid (Blk.new w #[.bool false, .slice none 0 0, .slice none 0 0] 94)
 go_enter Tryz.func56, Tryz.ntmps56
 go_wp2_with fail
 refine (l_Of _ 1 (by omega)).mono ?_; rintro e w1 ⟨⟨v1, rfl, hv1⟩, hb1⟩
 have V1 := hid hv1
 have y1 := hid (bnext A0.out hb1)
 have X1 := hid (X0.out.call hb1)
 obtain ⟨a1, c1, rfl, _⟩ := hv1.openI
 clear hb1 hv1 A0 X0
 go_wp2_with fail
 refine (f_Of1 _ _ V1.out).mono ?_; rintro e w2 ⟨⟨v2, rfl, hv2⟩, hb2⟩
 obtain ⟨m2, a2, n2, c2, b2, d2', e2', rfl⟩ := hv2.qv
 have Q2 := hid hv2
 have y2 := hid (bnext y1.out hb2)
 have X2 := hid (X1.out.call hb2)
 clear hb2 hv2
 have d0 := X2.out.cell 0
 have d1 := X2.out.cell 1
 have d2 := X2.out.cell 2
 have e0 := X2.out.free 0
 have e1 := X2.out.free 1
 have e2 := X2.out.free 2
 simp at d0 d1 d2
 go_wp2_with fail
 obtain ⟨s1, s2⟩ := set3 X2.out m2 a2 b2 n2 c2 d2' e2'
 have f0 := s2.cell 0
 have f1 := s2.cell 1
 have f2 := s2.cell 2
 simp at f0 f1 f2
 refine bodyPost_ret (v := .agg #[.bool m2, .slice a2 n2 c2, .slice b2 d2' e2']) (by simp [results, Tryz.results56, go_sem, f0, f1, f2]) rfl ⟨⟨_, rfl, isQ_putU X2.out m2 a2 b2 n2 c2 d2' e2' Q2.out⟩, ?_⟩
 exact ((y2.out.setCell (Nat.le_refl _) _).setCell (Nat.le_refl _) _).setCell (Nat.le_refl _) _
theorem dig_fits {q : Rat} (h : ¬ ovQ q) : Dig 4000 q := by
 unfold ovQ at h
 have e1 : nDigits q.num.natAbs ≤ 4000 := by omega
 have e2 : nDigits q.den ≤ 4000 := by omega
 obtain ⟨K, hK⟩ : ∃ K, K = 4000 := ⟨_, rfl⟩
 rw [← hK] at e1 e2 ⊢
 exact ⟨Nat.lt_of_lt_of_le (Go.Lib.lt_pow_nDigits _) (Nat.pow_le_pow_right (by decide) e1), Nat.lt_of_lt_of_le (Go.Lib.lt_pow_nDigits _) (Nat.pow_le_pow_right (by decide) e2)⟩
theorem sp_Half (w : World) (s : ByteArray) (hs : s.size ≤ 1000000) (hL : Lay w) :
 Calls Tryz.prog 15 #[.string s] w fun e w' => e = .returned (.tuple #[.string (hlB s), .int .i64 (hlE s)]) ∧ Below w.heap.size w w' := by
 have HC := hid (q_Cmp w s t1 hs (by decide) hL)
 unfold t1 at HC
 by_cases hq : qE s = 0
 ·have hcE : cmE s ⟨#[49]⟩ = 0 := by unfold cmE; rw [if_pos hq]; exact qE_t1
  have hcB : cmB s ⟨#[49]⟩ = ordQ (vQ s) 1 := by unfold cmB; rw [if_pos ⟨hq, qE_t1⟩]; exact congrArg _ vQ_t1
  rw [hcE, hcB] at HC
  by_cases hlt : ordQ (vQ s) 1 < 0
  ·have eE : hlE s = 2 := by unfold hlE; rw [if_neg (by simpa using hq), if_pos hlt]
   have eB : hlB s = ⟨#[]⟩ := hl_err (by rw [eE]; decide)
   rw [eE, eB]
   obtain ⟨z, hz⟩ : ∃ z, ordQ (vQ s) 1 = z := ⟨_, rfl⟩
   rw [hz] at HC hlt
   have t0 : decide (z < 0) = true := decide_eq_true hlt
   clear hs hL hq hcE hcB hlt eE eB hz
   go_enter Tryz.func15, Tryz.ntmps15
   go_wp2_with fail
   refine HC.out.mono ?_; rintro e w1 ⟨rfl, hb1⟩
   have y1 := hid hb1; clear hb1
   go_wp2_with fail
   go_ret2
   exact ⟨rfl, y1.out⟩
  ·have h1 : 1 ≤ vQ s := ordQ_lt1 hlt
   have eE : hlE s = outE (hfQ (vQ s)) := by unfold hlE; rw [if_neg (by simpa using hq), if_neg hlt]
   have eB : hlB s = outB (hfQ (vQ s)) := by unfold hlB; rw [if_pos ⟨hq, hlt⟩]
   rw [eE, eB]
   have d0 := dig_fits (vQ_fits hq)
   have d2 : Dig 8001 (vQ s + vQ s) := dig_add d0 d0
   have d3 : Dig 4002 (vQ s + 1) := dig_add d0 dig_one
   have hne : vQ s + 1 ≠ 0 := by grind
   have d4 : Dig 12003 (hfQ (vQ s)) := by unfold hfQ; rw [Rat.div_def]; exact dig_mul d2 (dig_inv hne d3)
   have b0 := d0.limbs (L := 100000) (by omega) (by omega)
   have b1 := (dig_one).limbs (L := 100000) (by omega) (by omega)
   have b2 := d2.limbs (L := 100000) (by omega) (by omega)
   have b3 := d3.limbs (L := 100000) (by omega) (by omega)
   have b4 := d4.limbs (L := 100000) (by omega) (by omega)
   have HM := fun V hV => hid (f_Must V s hs hq hV)
   have HA := fun V v u hv hu => hid (f_Add V v u (vQ s) (vQ s) hv hu b0.1 b0.2 b0.1 b0.2)
   have HO := fun V => hid (f_One V)
   have HB := fun V v u hv hu => hid (f_Add V v u (vQ s) 1 hv hu b0.1 b0.2 b1.1 b1.2)
   have HD := fun V v u hv hu => hid (f_Div V v u (vQ s + vQ s) (vQ s + 1) hv hu hne b2.1 b2.2 b3.1 b3.2)
   have HN := fun V v hv hV => hid (f_Num V v (hfQ (vQ s)) hv (Nat.le_trans b4.1 (by omega)) (Nat.le_trans b4.2 (by omega)) hV)
   have hhf : (vQ s + vQ s) / (vQ s + 1) = hfQ (vQ s) := rfl
   rw [hhf] at HD
   have HL := hid hL
   obtain ⟨z, hz⟩ : ∃ z, ordQ (vQ s) 1 = z := ⟨_, rfl⟩
   rw [hz] at HC hlt
   have t0 : decide (z < 0) = false := decide_eq_false hlt
   obtain ⟨q, hqq⟩ : ∃ q, vQ s = q := ⟨_, rfl⟩
   rw [hqq] at HM HA HB HD HN ⊢
   obtain ⟨OB, hOB⟩ : ∃ x, outB (hfQ q) = x := ⟨_, rfl⟩
   obtain ⟨OE, hOE⟩ : ∃ x, outE (hfQ q) = x := ⟨_, rfl⟩
   rw [hOB, hOE] at HN ⊢
   clear hs hL hq hcE hcB hlt h1 eE eB d0 d2 d3 d4 hne b0 b1 b2 b3 b4 hhf hz hqq hOB hOE
   go_enter Tryz.func15, Tryz.ntmps15
   go_wp2_with fail
   refine HC.out.mono ?_; rintro e w1 ⟨rfl, hb1⟩
   have y1 := hid hb1; clear hb1
   go_wp2_with fail
   refine (HM _ (HL.out.call y1.out)).out.mono ?_; rintro e w2 ⟨⟨v2, rfl, hv2⟩, hb2⟩
   obtain ⟨m2, a2, n2, c2, b2, d2, e2, rfl⟩ := hv2.qv
   have A2 := hid ((Below.refl w2.heap.size w2).alloc (Nat.le_refl _) (.cells #[.bool m2, .slice a2 n2 c2, .slice b2 d2 e2] 94))
   have X2 := hid (Blk.new w2 #[.bool m2, .slice a2 n2 c2, .slice b2 d2 e2] 94)
   have y2 := hid (bnext (bnext y1.out hb2) A2.out)
   have Q2 := hid (hv2.call A2.out)
   clear hb2 hv2 y1
   go_wp2_with fail
   obtain ⟨W, hW⟩ : ∃ W, w2.alloc (.cells #[.bool m2, .slice a2 n2 c2, .slice b2 d2 e2] 94) = W := ⟨_, rfl⟩
   obtain ⟨g, hg⟩ : ∃ g, w2.heap.size = g := ⟨_, rfl⟩
   rw [hW] at y2 X2 Q2 ⊢
   rw [hg] at X2 ⊢
   have KK : Hid (∀ V, Below W.heap.size W V → V.cell? ⟨g, 0, none⟩ = some (.bool m2) ∧ V.cell? ⟨g, 1, none⟩ = some (.slice a2 n2 c2) ∧ V.cell? ⟨g, 2, none⟩ = some (.slice b2 d2 e2)) := fun V hV =>
    ⟨(X2.out.call hV).cell 0, (X2.out.call hV).cell 1, (X2.out.call hV).cell 2⟩
   clear A2 X2 hW hg
   refine held_plain [0, 1, 3] 9 (fun V => V.cell? ⟨g, 0, none⟩ = some (.bool m2) ∧ V.cell? ⟨g, 1, none⟩ = some (.slice a2 n2 c2) ∧ V.cell? ⟨g, 2, none⟩ = some (.slice b2 d2 e2)) (by kernel_rfl) (by kernel_rfl) (by kernel_rfl) (by kernel_rfl) (KK.out _ (Below.refl _ _).drew) ?_
   iterate 3
    refine ⟨_, rfl, ?_⟩
    apply Exists.intro
    refine ⟨.inl ⟨by rfl, ?_⟩, ?_⟩
    ·(intro W' hW'; obtain ⟨q7, q8, q9⟩ := hW'; go_simp; try (with_reducible rfl))
    (dsimp only [Act.put]; try simp only [List.setIfInBounds_toArray, List.set_cons_zero, List.set_cons_succ])
   refine held_one (i := 2) (by kernel_rfl) (by rfl) (by rfl) ?_
   go_wp2_with fail
   refine (HA _ _ _ (Q2.out.call (Below.refl _ _).drew) (Q2.out.call (Below.refl _ _).drew)).out.mono ?_; rintro e v1 ⟨⟨u1', rfl, hv⟩, hb⟩
   obtain ⟨m1', a1', n1', c1', b1', d1', e1', rfl⟩ := hv.qv
   have z1 := hid (show Below W.heap.size W v1 from (Below.refl _ _).drew.trans hb)
   have C1 := hid hv
   clear hb hv
   go_wp2_with fail
   refine ⟨KK.out _ z1.out, ?_⟩
   refine held_one (i := 4) (by kernel_rfl) (by rfl) (by rfl) ?_
   go_wp2_with fail
   refine (HO _).out.mono ?_; rintro e v2 ⟨⟨u2', rfl, hv⟩, hb⟩
   obtain ⟨m2', a2', n2', c2', b2', d2', e2', rfl⟩ := hv.qv
   have z2 := hid (bnext z1.out hb)
   have C2 := hid (C1.out.call hb)
   have O2 := hid hv
   clear hb hv
   go_wp2_with fail
   refine ⟨KK.out _ z2.out, ?_⟩
   refine held_one (i := 5) (by kernel_rfl) (by rfl) (by rfl) ?_
   go_wp2_with fail
   refine (HB _ _ _ (Q2.out.call z2.out) O2.out).out.mono ?_; rintro e v3 ⟨⟨u3', rfl, hv⟩, hb⟩
   obtain ⟨m3', a3', n3', c3', b3', d3', e3', rfl⟩ := hv.qv
   have z3 := hid (bnext z2.out hb)
   have C3 := hid (C2.out.call hb)
   have O3 := hid (O2.out.call hb)
   have S3 := hid hv
   clear hb hv
   go_wp2_with fail
   refine ⟨KK.out _ z3.out, ?_⟩
   refine held_one (i := 6) (by kernel_rfl) (by rfl) (by rfl) ?_
   go_wp2_with fail
   refine (HD _ _ _ C3.out S3.out).out.mono ?_; rintro e v4 ⟨⟨u4', rfl, hv⟩, hb⟩
   obtain ⟨m4', a4', n4', c4', b4', d4', e4', rfl⟩ := hv.qv
   have z4 := hid (bnext z3.out hb)
   have C4 := hid (C3.out.call hb)
   have O4 := hid (O3.out.call hb)
   have S4 := hid (S3.out.call hb)
   have D4 := hid hv
   clear hb hv
   go_wp2_with fail
   refine ⟨KK.out _ z4.out, ?_⟩
   refine held_one (i := 7) (by kernel_rfl) (by rfl) (by rfl) ?_
   go_wp2_with fail
   refine (HN _ _ D4.out (HL.out.call (bnext y2.out z4.out))).out.mono ?_; rintro e v5 ⟨rfl, hb⟩
   have z5 := hid (bnext z4.out hb); clear hb
   go_wp2_with fail
   refine ⟨KK.out _ z5.out, ?_⟩
   refine held_more (is := [8, 9, 10, 11]) (g := 0) (by kernel_rfl) rfl (KK.out _ z5.out) (by kernel_rfl) ?_
   iterate 4
    refine ⟨_, rfl, ?_⟩
    apply Exists.intro
    refine ⟨.inl ⟨by rfl, ?_⟩, ?_⟩
    ·(intro W' hW'; obtain ⟨q7, q8, q9⟩ := hW'; go_simp; try (with_reducible rfl))
    (dsimp only [Act.put]; try simp only [List.setIfInBounds_toArray, List.set_cons_zero, List.set_cons_succ])
   refine wpAnyH_done (by kernel_rfl) ?_ _
   simp only [Only]
   go_wp2_with fail
   go_ret2
   exact ⟨rfl, bnext y2.out z5.out⟩
 ·have hcE : cmE s ⟨#[49]⟩ = qE s := by unfold cmE; rw [if_neg hq]
  have eE : hlE s = qE s := by unfold hlE; rw [if_pos hq]
  have eB : hlB s = ⟨#[]⟩ := hl_err (by rw [eE]; exact hq)
  rw [hcE] at HC
  rw [eE, eB]
  obtain ⟨z, hz⟩ : ∃ z, cmB s ⟨#[49]⟩ = z := ⟨_, rfl⟩
  obtain ⟨x, hx⟩ : ∃ z, qE s = z := ⟨_, rfl⟩
  rw [hz, hx] at HC
  rw [hx] at hq ⊢
  have t0 : (x != 0) = true := by simpa using hq
  clear hs hL hq hcE eE eB hz hx
  go_enter Tryz.func15, Tryz.ntmps15
  go_wp2_with fail
  refine HC.out.mono ?_; rintro e w1 ⟨rfl, hb1⟩
  have y1 := hid hb1; clear hb1
  go_wp2_with fail
  go_ret2
  exact ⟨rfl, y1.out⟩
theorem rowZ_madeS (w : World) (n b : Nat) (hb : w.heap.size = b) (hL : n ≤ 1000) : Row (w.alloc (.cells (madeCells #[.int .i64 0] n) 3)) (.slice (some ⟨b, 0, none⟩) n n) (zs (List.replicate n 0)) := by
 subst hb
 refine Row.of_blk (Blk.new w _ _) (by simp) (by unfold maxLen; omega) (fun i x h => ?_) (Nat.le_refl _) (by unfold maxLen; omega)
 have hi := (List.getElem?_eq_some_iff.1 h).1
 simp at hi
 rw [← h]
 unfold madeCells zs
 simp [hi, Nat.mod_one]
theorem row_noneZS (w : World) : Row w (.slice none 0 0) (zs []) := ⟨none, 0, rfl, Nat.le_refl _, by unfold maxLen; omega, fun i x h => by simp [zs] at h⟩
theorem row_noneSS (w : World) : Row w (.slice none 0 0) (strs []) := ⟨none, 0, rfl, Nat.le_refl _, by unfold maxLen; omega, fun i x h => by simp [strs] at h⟩
theorem w_SparseNames (w : World) (hL : LayB w) :
 Calls Tryz.prog 7 #[] w fun e w' => e = .returned (.bool true) ∧ Below w.heap.size w w' := by
 have HLV := hid (w_lives24 w hL)
 have HL := hid hL
 have Pa := fun V v u hv hu hV => hid (sp_First V v u [3] 5 h12 h12 [⟨#[49, 49]⟩, ⟨#[49, 49]⟩] hv hu (by decide) (by decide) (by decide) hV)
 have ea := sn_a
 unfold x11 at ea
 rw [ea.1, ea.2] at Pa
 have Pb := fun V v u hv hu hV => hid (sp_First V v u [3] 5 h12 h12 [⟨#[49]⟩, ⟨#[49, 49]⟩] hv hu (by decide) (by decide) (by decide) hV)
 have eb := sn_b
 unfold x11 at eb
 rw [eb.1, eb.2] at Pb
 have Pg := fun V v u hv hu hV => hid (sp_First V v u [3] 5 h12 h12 [⟨#[49, 49]⟩] hv hu (by decide) (by decide) (by decide) hV)
 have eg := sn_g
 unfold x11 at eg
 rw [eg.1, eg.2] at Pg
 have Ph := fun V v u hv hu hV => hid (sp_First V v u [] 5 h12 h12 [⟨#[49, 49]⟩] hv hu (by decide) (by decide) (by decide) hV)
 have eh := sn_h
 unfold x11 at eh
 rw [eh.1, eh.2] at Ph
 have Pc := fun V v u hv hu hV => hid (sp_First V v u [4] 5 h12 h12 [⟨#[49, 48, 49]⟩, ⟨#[49, 49]⟩] hv hu (by decide) (by decide) (by decide) hV)
 have ec := sn_c
 unfold x11 at ec
 rw [ec.1, ec.2] at Pc
 have Pt := fun V v u hv hu hV => hid (sp_First V v u (List.replicate 257 0) 0 h12 h12 [] hv hu (by decide) (by decide) (by decide) hV)
 rw [sn_t.1, sn_t.2] at Pt
 have Pj := fun V hV => hid (sp_Factor V h12 ⟨#[50, 47, 51]⟩ 1 true (by decide) (by decide) hV)
 rw [sn_j.1, sn_j.2] at Pj
 have Pk := fun V hV => hid (sp_Factor V h12 ⟨#[50, 47, 51]⟩ 1 false (by decide) (by decide) hV)
 rw [sn_k.1, sn_k.2] at Pk
 have Pn := fun V hV => hid (sp_Factor V ⟨#[48]⟩ h12 1 true (by decide) (by decide) hV)
 rw [sn_n.1, sn_n.2] at Pn
 have Pr := fun V hV => hid (sp_Factor V h12 h12 (-1) true (by decide) (by decide) hV)
 rw [sn_r.1, sn_r.2] at Pr
 have Pm := fun V hV => hid (sp_Late V h12 h12 4 1 (by decide) (by decide) hV)
 rw [sn_m.1, sn_m.2] at Pm
 have Pp := fun V hV => hid (sp_Late V h12 ⟨#[49]⟩ 4 1 (by decide) (by decide) hV)
 rw [sn_p.1, sn_p.2] at Pp
 have Ps := fun V hV => hid (sp_Late V h12 h12 4 257 (by decide) (by decide) hV)
 rw [sn_s.1, sn_s.2] at Ps
 have Pl := fun V hV => hid (sp_Half V ⟨#[52]⟩ (by decide) hV)
 rw [sn_hl.1, sn_hl.2] at Pl
 have Po := fun V hV => hid (sp_Half V h12 (by decide) hV)
 rw [sn_o.1, sn_o.2] at Po
 have Pq := fun V v hv hV => hid (sp_Law V v (List.replicate 32 0) 0 h12 h12 8 hv (by decide) (by decide) hV)
 rw [sn_q.1, sn_q.2] at Pq
 unfold h12 at Pa Pb Pg Ph Pc Pt Pj Pk Pn Pr Pm Pp Ps Po Pq
 have hm32 : ∀ W : World, (Instr.makeSlice 24 (.int .i64 32) (.int .i64 32)).run Tryz.prog W = .ok (.slice (some ⟨W.heap.size, 0, none⟩) 32 32) (W.alloc (.cells (madeCells #[.int .i64 0] 32) 3)) := make_ints 32 (by omega)
 have hm257 : ∀ W : World, (Instr.makeSlice 24 (.int .i64 257) (.int .i64 257)).run Tryz.prog W = .ok (.slice (some ⟨W.heap.size, 0, none⟩) 257 257) (W.alloc (.cells (madeCells #[.int .i64 0] 257) 3)) := make_ints 257 (by omega)
 clear hL ea eb eg eh ec
 go_enter Tryz.func7, Tryz.ntmps7
 go_wp2_with fail
 refine HLV.out.mono ?_; rintro e w0 ⟨rfl, hb0⟩
 have y0 := hid hb0; clear hb0
 go_wp2_with fail
 have A1 := hid ((Below.refl w0.heap.size w0).alloc (Nat.le_refl _) (.cells #[.int .i64 3] 3))
 have C1 := hid (A1.out.alloc A1.out.size (.cells #[.string ⟨#[49, 49]⟩, .string ⟨#[49, 49]⟩] 33))
 have R1 := hid ((rowZ_isS w0 [3] _ 1 w0.heap.size rfl rfl rfl (by omega)).call ((Below.refl _ _).alloc (Nat.le_refl _) (.cells #[.string ⟨#[49, 49]⟩, .string ⟨#[49, 49]⟩] 33)))
 have S1 := hid (rowB_isS (w0.alloc (.cells #[.int .i64 3] 3)) [⟨#[49, 49]⟩, ⟨#[49, 49]⟩] _ 2 (w0.heap.size + 1) rfl (by simp) rfl (by omega))
 refine (Pa _ _ _ R1.out S1.out (HL.out.call (bnext y0.out C1.out)).l).out.mono ?_; rintro e w1 ⟨rfl, hb1⟩
 have y1 := hid (bnext y0.out (bnext C1.out hb1)); clear hb1
 go_wp2_with fail
 have A2 := hid ((Below.refl w1.heap.size w1).alloc (Nat.le_refl _) (.cells #[.int .i64 3] 3))
 have C2 := hid (A2.out.alloc A2.out.size (.cells #[.string ⟨#[49]⟩, .string ⟨#[49, 49]⟩] 33))
 have R2 := hid ((rowZ_isS w1 [3] _ 1 w1.heap.size rfl rfl rfl (by omega)).call ((Below.refl _ _).alloc (Nat.le_refl _) (.cells #[.string ⟨#[49]⟩, .string ⟨#[49, 49]⟩] 33)))
 have S2 := hid (rowB_isS (w1.alloc (.cells #[.int .i64 3] 3)) [⟨#[49]⟩, ⟨#[49, 49]⟩] _ 2 (w1.heap.size + 1) rfl (by simp) rfl (by omega))
 refine (Pb _ _ _ R2.out S2.out (HL.out.call (bnext y1.out C2.out)).l).out.mono ?_; rintro e w2 ⟨rfl, hb2⟩
 have y2 := hid (bnext y1.out (bnext C2.out hb2)); clear hb2
 go_wp2_with fail
 have A3 := hid ((Below.refl w2.heap.size w2).alloc (Nat.le_refl _) (.cells #[.int .i64 3] 3))
 have C3 := hid (A3.out.alloc A3.out.size (.cells #[.string ⟨#[49, 49]⟩] 33))
 have R3 := hid ((rowZ_isS w2 [3] _ 1 w2.heap.size rfl rfl rfl (by omega)).call ((Below.refl _ _).alloc (Nat.le_refl _) (.cells #[.string ⟨#[49, 49]⟩] 33)))
 have S3 := hid (rowB_isS (w2.alloc (.cells #[.int .i64 3] 3)) [⟨#[49, 49]⟩] _ 1 (w2.heap.size + 1) rfl (by simp) rfl (by omega))
 refine (Pg _ _ _ R3.out S3.out (HL.out.call (bnext y2.out C3.out)).l).out.mono ?_; rintro e w3 ⟨rfl, hb3⟩
 have y3 := hid (bnext y2.out (bnext C3.out hb3)); clear hb3
 go_wp2_with fail
 have A4 := hid ((Below.refl w3.heap.size w3).alloc (Nat.le_refl _) (.cells #[.string ⟨#[49, 49]⟩] 33))
 have S4 := hid (rowB_isS w3 [⟨#[49, 49]⟩] _ 1 w3.heap.size rfl rfl rfl (by omega))
 refine (Ph _ _ _ (row_noneZS _) S4.out (HL.out.call (bnext y3.out A4.out)).l).out.mono ?_; rintro e w4 ⟨rfl, hb4⟩
 have y4 := hid (bnext y3.out (bnext A4.out hb4)); clear hb4
 go_wp2_with fail
 have A5 := hid ((Below.refl w4.heap.size w4).alloc (Nat.le_refl _) (.cells #[.int .i64 4] 3))
 have C5 := hid (A5.out.alloc A5.out.size (.cells #[.string ⟨#[49, 48, 49]⟩, .string ⟨#[49, 49]⟩] 33))
 have R5 := hid ((rowZ_isS w4 [4] _ 1 w4.heap.size rfl rfl rfl (by omega)).call ((Below.refl _ _).alloc (Nat.le_refl _) (.cells #[.string ⟨#[49, 48, 49]⟩, .string ⟨#[49, 49]⟩] 33)))
 have S5 := hid (rowB_isS (w4.alloc (.cells #[.int .i64 4] 3)) [⟨#[49, 48, 49]⟩, ⟨#[49, 49]⟩] _ 2 (w4.heap.size + 1) rfl (by simp) rfl (by omega))
 refine (Pc _ _ _ R5.out S5.out (HL.out.call (bnext y4.out C5.out)).l).out.mono ?_; rintro e w5 ⟨rfl, hb5⟩
 have y5 := hid (bnext y4.out (bnext C5.out hb5)); clear hb5
 go_wp2_with fail
 refine (Pj _ (HL.out.call y5.out).l).out.mono ?_; rintro e w6 ⟨rfl, hb6⟩
 have y6 := hid (bnext y5.out hb6); clear hb6
 go_wp2_with fail
 refine (Pk _ (HL.out.call y6.out).l).out.mono ?_; rintro e w7 ⟨rfl, hb7⟩
 have y7 := hid (bnext y6.out hb7); clear hb7
 go_wp2_with fail
 refine (Pl _ (HL.out.call y7.out).l).out.mono ?_; rintro e w8 ⟨rfl, hb8⟩
 have y8 := hid (bnext y7.out hb8); clear hb8
 go_wp2_with fail
 refine (Pm _ (HL.out.call y8.out).l).out.mono ?_; rintro e w9 ⟨rfl, hb9⟩
 have y9 := hid (bnext y8.out hb9); clear hb9
 go_wp2_with fail
 refine (Pn _ (HL.out.call y9.out).l).out.mono ?_; rintro e w10 ⟨rfl, hb10⟩
 have y10 := hid (bnext y9.out hb10); clear hb10
 go_wp2_with fail
 refine (Po _ (HL.out.call y10.out).l).out.mono ?_; rintro e w11 ⟨rfl, hb11⟩
 have y11 := hid (bnext y10.out hb11); clear hb11
 go_wp2_with fail
 refine (Pp _ (HL.out.call y11.out).l).out.mono ?_; rintro e w12 ⟨rfl, hb12⟩
 have y12 := hid (bnext y11.out hb12); clear hb12
 go_wp2_with fail
 have A13 := hid ((Below.refl w12.heap.size w12).alloc (Nat.le_refl _) (.cells (madeCells #[.int .i64 0] 32) 3))
 refine (Pq _ _ (rowZ_madeS w12 32 _ rfl (by omega)) (HL.out.call (bnext y12.out A13.out))).out.mono ?_; rintro e w13 ⟨⟨uq, rfl, hq⟩, hb13⟩
 have y13 := hid (bnext y12.out (bnext A13.out hb13)); clear hb13
 obtain ⟨aq, cq, rfl, -⟩ := hq.ex; clear hq
 simp only [List.length_nil]
 go_wp2_with fail
 refine (Pr _ (HL.out.call y13.out).l).out.mono ?_; rintro e w14 ⟨rfl, hb14⟩
 have y14 := hid (bnext y13.out hb14); clear hb14
 go_wp2_with fail
 refine (Ps _ (HL.out.call y14.out).l).out.mono ?_; rintro e w15 ⟨rfl, hb15⟩
 have y15 := hid (bnext y14.out hb15); clear hb15
 go_wp2_with fail
 have A16 := hid ((Below.refl w15.heap.size w15).alloc (Nat.le_refl _) (.cells (madeCells #[.int .i64 0] 257) 3))
 refine (Pt _ _ _ (rowZ_madeS w15 257 _ rfl (by omega)) (row_noneSS _) (HL.out.call (bnext y15.out A16.out)).l).out.mono ?_; rintro e w16 ⟨rfl, hb16⟩
 have y16 := hid (bnext y15.out (bnext A16.out hb16)); clear hb16
 go_wp2_with fail
 go_ret
 exact ⟨rfl, y16.out⟩
end Go.Proofs.YtlmnpocifldpmaaGreatDoor
