/- Texts that the proof rests on, merged: G4, G5, Coin2, Coins, Ser, Cv3, Tot2, Cv6, Pl4, ShK, It, Pl5, Pl6, Pn1, Dig, Pn3, Pn4, Cv7, Be0, SeqB, Bl1, Bl2, Bl0, Bl4. -/
import Derived.Test.YtpheklgnmbpobaaGreatDoorKr5
import Derived.Sort.KeysCollected
import Derived.Shelf.SlIter.Nil
import Derived.Shelf.SortM.Plain
import Derived.Shelf.SortM.SortNone
import Derived.Ground.GgzProg
import Derived.Ground.SlgmProg
import Derived.Test.YtpheklgnmbpobaaGreatDoorProg
import Derived.Maps.StringElems
import Derived.Lib.ItoaMem
import Derived.Deep.LoopGhost
import Derived.Maps.AppendAt
import Derived.Deep.DeepCutAuto
namespace Go.Proofs.YtpheklgnmbpobaaGreatDoor
open Go.RowKit Go.Shelf
set_option linter.unusedVariables false
set_option maxRecDepth 100000 in
set_option maxHeartbeats 4000000 in
theorem fp_int (w : World) (s W B D : ByteArray) (M fb : Bool) (HL : Hid (Lay w)) (HC : Cuts s W B D false M true fb)
    (hl1 : ¬ 4000 < D.size) (hd1 : allDig D.data.toList) :
    Calls Tryz.prog 131 #[.string s] w fun e w' => RetF 0 M (bN D) 1 e w' ∧ Below w.heap.size w w' := by
  have HK := hid HC
  clear HC
  have t0 := hid (Blk.new w #[.bool false, .slice none 0 0, .slice none 0 0] 129)
  have t1 := hid ((Below.refl w.heap.size w).alloc (Nat.le_refl _) (.cells #[.bool false, .slice none 0 0, .slice none 0 0] 129))
  have t2 := hid (HL.out.call t1.out)
  have q0 : decide ((4000 : Int) < (D.size : Int)) = false := by simp; omega
  have P1 := fun W => hid (l_Parse W D hd1 (by omega))
  have P2 := fun W => hid (l_Parse W ⟨#[49]⟩ (by intro b hb; simp at hb; subst hb; rfl) (Nat.succ_le_succ (Nat.zero_le _)))
  clear hd1 hl1
  go_enter Tryz.func131, Tryz.ntmps131
  go_wp2_with (first
    | (go_at_call 85; refine (HK.out.cut _ t2.out).mono ?_; rintro e w1 ⟨rfl, hb1⟩
       have x1 := hid (t0.out.call hb1)
       have y1 := hid (bnext t1.out hb1)
       clear hb1)
    | (go_at_call 99; refine (HK.out.int _).mono ?_; rintro e w2 ⟨rfl, hb2⟩
       have x2 := hid (x1.out.call hb2)
       have y2 := hid (bnext y1.out hb2)
       clear hb2)
    | fail)
  refine (P1 _).out.mono ?_; rintro e w4 ⟨⟨v4, rfl, hv4⟩, hb4⟩
  have x4 := hid (x2.out.call hb4)
  have y4 := hid (bnext y2.out hb4)
  have N4 := hid hv4
  clear hb4 hv4
  obtain ⟨a4, c4, rfl, _⟩ := N4.out.openI
  obtain ⟨k1, hk1⟩ : ∃ k, (limbs (dv D.data.toList)).length = k := ⟨_, rfl⟩
  rw [hk1] at N4 ⊢
  clear P1
  go_wp2_with fail
  refine (P2 _).out.mono ?_; rintro e w5 ⟨⟨v5, rfl, hv5⟩, hb5⟩
  have x5 := hid (x4.out.call hb5)
  have y5 := hid (bnext y4.out hb5)
  have N5 := hid (N4.out.call hb5)
  have D5 := hid (show IsN .u64 w5 v5 1 from hv5)
  clear hb5 hv5
  obtain ⟨a5, c5, rfl, _⟩ := D5.out.openI
  obtain ⟨k2, hk2⟩ : ∃ k, (limbs 1).length = k := ⟨_, rfl⟩
  rw [hk2] at D5 ⊢
  clear P2
  have z6 := hid (Blk.new w5 #[.bool M, .slice a4 k1 c4, .slice a5 k2 c5] 129)
  have b5 := hid ((Below.refl w5.heap.size w5).alloc (Nat.le_refl _) (.cells #[.bool M, .slice a4 k1 c4, .slice a5 k2 c5] 129))
  have x6 := hid (x5.out.call b5.out)
  have y6 := hid (bnext y5.out b5.out)
  have N6 := hid (N5.out.call b5.out)
  have D6 := hid (D5.out.call b5.out)
  have d0 := x6.out.cell 0
  have d1 := x6.out.cell 1
  have d2 := x6.out.cell 2
  have e0 := x6.out.free 0
  have e1 := x6.out.free 1
  have e2 := x6.out.free 2
  have g0 := z6.out.cell 0
  have g1 := z6.out.cell 1
  have g2 := z6.out.cell 2
  simp at d0 d1 d2 g0 g1 g2
  go_wp2_with fail
  obtain ⟨s1, s2⟩ := set3 x6.out M a4 a5 k1 c4 k2 c5
  have f0 := s2.cell 0
  have f1 := s2.cell 1
  have f2 := s2.cell 2
  simp at f0 f1 f2
  refine bodyPost_ret (v := .tuple #[.agg #[.bool M, .slice a4 k1 c4, .slice a5 k2 c5], .int .i64 0]) (by simp [results, Tryz.results131, go_sem, f0, f1, f2]) rfl ⟨⟨_, rfl, fun _ => ⟨_, _, rfl, s1 _ _ _ N6.out, s1 _ _ _ D6.out⟩, fun h => absurd rfl h⟩, ?_⟩
  exact ((y6.out.setCell (Nat.le_refl _) _).setCell (Nat.le_refl _) _).setCell (Nat.le_refl _) _
theorem f_Parse (w : World) (s : ByteArray) (hs : s.size ≤ 1000000) (hL : Lay w) :
    Calls Tryz.prog 131 #[.string s] w fun e w' => RetF (qE s) (iM (cW s)) (bN (iD (cW s))) (bN (qD s)) e w' ∧ Below w.heap.size w w' := by
  have HC := cuts_of s hs
  have HL := hid hL
  by_cases hq : qB s = true
  · have hi := qB_whole hq
    rw [hi] at HC
    have hdD := fB_dig (iB_form hi)
    have hcS : cS s = false ∨ (cS s = true ∧ ¬ iD (cW s) = ⟨#[48]⟩ ∧ ¬ cB s = ⟨#[48]⟩ ∧ ¬ cB s = ⟨#[49]⟩ ∧ fB (cB s) = true) := by
      have hq' := hq
      unfold qB at hq'
      simp only [Bool.and_eq_true, Bool.or_eq_true, Bool.not_eq_true', decide_eq_true_eq] at hq'
      rcases hq'.2 with h | h
      · exact .inl h
      · cases hc : cS s
        · exact .inl rfl
        · exact .inr ⟨rfl, h.1.1.1, h.1.2, h.2, h.1.1.2⟩
    by_cases hl : qL s = true
    · have e : qE s = 5 := by simp [qE, hq, hl]
      rw [e]
      unfold qL at hl
      simp only [Bool.or_eq_true, decide_eq_true_eq] at hl
      refine (fp_long w s _ _ _ _ _ _ HL HC hcS ?_).mono ?_
      · by_cases h4 : 4000 < (iD (cW s)).size
        · exact .inl h4
        · refine .inr ⟨h4, ?_⟩
          rcases hcS with hc | ⟨hc, -⟩
          · rw [qD_false hc] at hl
            exact absurd (hl.resolve_left h4) (by decide)
          · rw [qD_true hc] at hl
            exact ⟨hc, hl.resolve_left h4⟩
      · rintro e w' ⟨rfl, hb⟩
        exact ⟨RetF.err (by decide), hb⟩
    · have hl' : qL s = false := by simpa using hl
      have hl1 : ¬ 4000 < (iD (cW s)).size ∧ ¬ 4000 < (qD s).size := by
        unfold qL at hl'
        simpa using hl'
      rcases hcS with hc | ⟨hc, h1, h2, h3, h4⟩
      · rw [hc] at HC
        have e : qE s = 0 := by simp [qE, hq, hl', qG, hc]
        rw [e, qD_false hc]
        exact fp_int w s _ _ _ _ _ HL HC hl1.1 hdD
      · rw [hc, h4] at HC
        have hl2 := hl1.2
        rw [qD_true hc] at hl2
        have e : qE s = if Nat.gcd (bN (iD (cW s))) (bN (cB s)) = 1 then 0 else 3 := by
          simp only [qE, hq, hl', qG, hc, qD_true hc]
          by_cases hg : Nat.gcd (bN (iD (cW s))) (bN (cB s)) = 1 <;> simp [hg]
        rw [e, qD_true hc]
        exact fp_frac w s _ _ _ _ HL HC h1 h2 h3 hl1.1 hl2 hdD (fB_dig h4)
  · have hq' : qB s = false := by simpa using hq
    have e : qE s = 3 := by simp [qE, hq']
    rw [e]
    refine (fp_bad w s _ _ _ _ _ _ _ HL HC hq').mono ?_
    rintro e w' ⟨rfl, hb⟩
    exact ⟨RetF.err (by decide), hb⟩
end Go.Proofs.YtpheklgnmbpobaaGreatDoor
namespace Go.Proofs.YtpheklgnmbpobaaGreatDoor
open Go.RowKit Go.Shelf
set_option linter.unusedVariables false
theorem RetF.parts {x : Int} {m : Bool} {n d : Nat} {e : Ending} {w' : World} (h : RetF x m n d e w') : ∃ (b : Bool) (a1 a2 : Option Addr) (n1 c1 n2 c2 : Nat), e = .returned (.tuple #[.agg #[.bool b, .slice a1 n1 c1, .slice a2 n2 c2], .int .i64 x]) := by
  obtain ⟨v, rfl, h1, h2⟩ := h
  by_cases hx : x = 0
  · obtain ⟨N, D, rfl, hN, hD⟩ := h1 hx
    obtain ⟨a1, c1, rfl, _⟩ := hN.openI
    obtain ⟨a2, c2, rfl, _⟩ := hD.openI
    exact ⟨_, _, _, _, _, _, _, rfl⟩
  · rw [h2 hx]
    exact ⟨_, _, _, _, _, _, _, rfl⟩
set_option maxRecDepth 100000 in
set_option maxHeartbeats 1000000 in
theorem q_Check (w : World) (s : ByteArray) (hs : s.size ≤ 1000000) (hL : Lay w) :
    Calls Tryz.prog 84 #[.string s] w fun e w' => e = .returned (.int .i64 (qE s)) ∧ Below w.heap.size w w' := by
  have HC := hid (f_Parse w s hs hL)
  go_enter Tryz.func84, Tryz.ntmps84
  go_wp2_with fail
  refine HC.out.mono ?_
  rintro e w1 ⟨hr, hb⟩
  obtain ⟨b, a1, a2, n1, c1, n2, c2, rfl⟩ := hr.parts
  have HB := hid hb
  clear hr hb
  go_wp2_with fail
  go_ret
  exact ⟨rfl, HB.out.alloc HB.out.size _⟩
def pW (s : ByteArray) : ByteArray := if qE s = 0 then cW s else ⟨#[]⟩
def pD (s : ByteArray) : ByteArray := if qE s = 0 then qD s else ⟨#[]⟩
set_option maxRecDepth 100000 in
set_option maxHeartbeats 1000000 in
theorem q_Parts (w : World) (s : ByteArray) (hs : s.size ≤ 1000000) (hL : Lay w) :
    Calls Tryz.prog 35 #[.string s] w fun e w' => e = .returned (.tuple #[.string (pW s), .string (pD s), .int .i64 (qE s)]) ∧ Below w.heap.size w w' := by
  have HC := hid (q_Check w s hs hL)
  have HU := hid (cuts_of s hs)
  have HL := hid hL
  clear hL
  by_cases he : qE s = 0
  · have e1 : pW s = cW s := if_pos he
    have e2 : pD s = qD s := if_pos he
    rw [e1, e2, he]
    rw [he] at HC
    clear e1 e2
    obtain ⟨W, hW⟩ : ∃ W, cW s = W := ⟨_, rfl⟩
    obtain ⟨B, hB⟩ : ∃ B, cB s = B := ⟨_, rfl⟩
    rw [hW, hB] at HU
    rw [hW]
    cases hc : cS s
    · rw [qD_false hc]
      rw [hc] at HU
      clear hW hB hc he
      go_enter Tryz.func35, Tryz.ntmps35
      go_wp2_with (first
        | (go_at_call 84; refine HC.out.mono ?_; rintro e w1 ⟨rfl, hb1⟩
           have y1 := hid hb1; clear hb1)
        | (go_at_call 85; refine (HU.out.cut _ (HL.out.call y1.out)).mono ?_; rintro e w2 ⟨rfl, hb2⟩
           have y2 := hid (bnext y1.out hb2); clear hb2)
        | fail)
      go_ret3
      exact ⟨rfl, y2.out⟩
    · rw [qD_true hc, hB]
      rw [hc] at HU
      clear hW hB hc he
      go_enter Tryz.func35, Tryz.ntmps35
      go_wp2_with (first
        | (go_at_call 84; refine HC.out.mono ?_; rintro e w1 ⟨rfl, hb1⟩
           have y1 := hid hb1; clear hb1)
        | (go_at_call 85; refine (HU.out.cut _ (HL.out.call y1.out)).mono ?_; rintro e w2 ⟨rfl, hb2⟩
           have y2 := hid (bnext y1.out hb2); clear hb2)
        | fail)
      go_ret3
      exact ⟨rfl, y2.out⟩
  · have e1 : pW s = ⟨#[]⟩ := if_neg he
    have e2 : pD s = ⟨#[]⟩ := if_neg he
    rw [e1, e2]
    have q0 : (qE s != 0) = true := by simpa using he
    obtain ⟨x, hx⟩ : ∃ x, qE s = x := ⟨_, rfl⟩
    rw [hx] at HC q0 ⊢
    clear hx he e1 e2
    have q1 : (x == 0) = false := by simpa using q0
    have q2 : ¬ x = 0 := by simpa using q0
    go_enter Tryz.func35, Tryz.ntmps35
    go_wp2_with (first
      | (go_at_call 84; refine HC.out.mono ?_; rintro e w1 ⟨rfl, hb1⟩
         have y1 := hid hb1; clear hb1)
      | fail)
    go_ret3
    exact ⟨rfl, y1.out⟩
end Go.Proofs.YtpheklgnmbpobaaGreatDoor
namespace Go.Proofs.YtpheklgnmbpobaaGreatDoor
open Go.RowKit
open Go.Lib (decDigits nDigits)
def tossAt (N D : Nat) (l : List UInt8) (K T u : Nat) : Bool × Nat × Nat := let x := toss N D K T (l.drop u); (x.1, x.2.1, x.2.2 + u)
structure Cell (K T u : Nat) : Prop where
  t : T = 2 ^ u
  k : K < T
theorem Cell.next {K T u x : Nat} (h : Cell K T u) (hx : x ≤ 1) : Cell (K + K + x) (T + T) (u + 1) := by
  refine ⟨?_, ?_⟩
  · rw [h.t, Nat.pow_succ]; omega
  · have := h.k; omega
theorem Cell.fits {N D K T u : Nat} (h : Cell K T u) (hu : u ≤ 256) (hN : N < 10 ^ eN) (hD : D < 10 ^ eN) : Fits N D K T := by
  have h1 : 2 ^ u ≤ 2 ^ 256 := Nat.pow_le_pow_right (by omega) hu
  have h2 : 2 ^ 256 < 10 ^ eK := by decide
  have ht := h.t
  have hk := h.k
  exact ⟨hN, hD, by omega, by omega⟩
end Go.Proofs.YtpheklgnmbpobaaGreatDoor
namespace Go.Proofs.YtpheklgnmbpobaaGreatDoor
open Go.RowKit
open Go.Lib (decDigits nDigits)
def coinF (N D : Nat) (l : List UInt8) (p : Nat) : Bool × Nat × Nat := tossAt N D (l.drop p) 0 1 0
end Go.Proofs.YtpheklgnmbpobaaGreatDoor
namespace Go.Proofs.YtpheklgnmbpobaaGreatDoor
open Go.RowKit
open Go.Lib (decDigits nDigits)
def ser (N D : Nat) (l : List UInt8) : Nat → Nat → Nat → List Nat → Nat → Option (List Nat × Nat)
  | 0, _, _, _, _ => none
  | f + 1, m, p, vs, n =>
    if (coinF N D l p).1 = false then none
    else if (coinF N D l p).2.1 = 1 then ser N D l f m (p + (coinF N D l p).2.2) vs (n + 1)
    else if m ≤ 1 then some (vs ++ [n], p + (coinF N D l p).2.2)
    else ser N D l f (m - 1) (p + (coinF N D l p).2.2) (vs ++ [n]) 0
def sr (N D : Nat) (l : List UInt8) (m p : Nat) (vs : List Nat) (n : Nat) : Option (List Nat × Nat) := ser N D l (l.length - p + m) m p vs n
def s1 (N D : Nat) (l : List UInt8) (p n : Nat) : Option (Nat × Nat) := match sr N D l 1 p [] n with | some (x :: _, at') => some (x, at') | _ => none
end Go.Proofs.YtpheklgnmbpobaaGreatDoor
namespace Go.Proofs.YtpheklgnmbpobaaGreatDoor
open Go.RowKit
set_option linter.unusedVariables false
def opn (N D : Nat) : Nat → Nat → Nat
  | 0 => dlt
  | i + 1 => cvo (chi (oneJ N D)) (opn N D i)
def edn (N D i : Nat) : Nat → Nat := cvo (chi (zeroJ N D)) (opn N D i)
end Go.Proofs.YtpheklgnmbpobaaGreatDoor
namespace Go.Proofs.YtpheklgnmbpobaaGreatDoor
open Go.RowKit
open Go.Lib (decDigits nDigits)
structure TB (n i j : Nat) (s : List Nat × List Nat) : Prop where
  l1 : s.1.length = n + 1
  l2 : s.2.length = n + 1
  up1 : ∀ k, s.1.getD k 0 ≤ 2 ^ (i + 1)
  up2 : ∀ k, s.2.getD k 0 ≤ 2 ^ (i + 1)
  hi1 : ∀ k, i + j ≤ k → s.1.getD k 0 ≤ 2 ^ i
  hi2 : ∀ k, i + j ≤ k → s.2.getD k 0 ≤ 2 ^ i
  src : s.1.getD i 0 ≤ 2 ^ i
theorem TB.next {n i j : Nat} {s : List Nat × List Nat} (h : TB n i j s) : TB n (i + 1) 0 s := by
  have p : 2 ^ (i + 1) ≤ 2 ^ (i + 1 + 1) := Nat.pow_le_pow_right (by omega) (by omega)
  exact ⟨h.l1, h.l2, fun k => Nat.le_trans (h.up1 k) p, fun k => Nat.le_trans (h.up2 k) p, fun k _ => h.up1 k, fun k _ => h.up2 k, h.up1 _⟩
end Go.Proofs.YtpheklgnmbpobaaGreatDoor
namespace Go.Proofs.YtpheklgnmbpobaaGreatDoor
open Go.RowKit
set_option linter.unusedVariables false
set_option linter.unusedSimpArgs false
def c1 (N D n i s : Nat) (v : Int) : Nat := sumN (fun i' => if (i' : Int) = v then sumN (fun s' => edn N D i' s' * 2 ^ (n - s')) (n + 1) else 0) i + (if (i : Int) = v then sumN (fun s' => edn N D i s' * 2 ^ (n - s')) s else 0)
def p2 (N D n i s k u : Nat) (v : Int) : Nat := if (i : Int) - (k : Int) = v then sumN (fun u' => edn N D i s * edn N D k u' * 2 ^ (n - s - u')) u else 0
def q2 (N D n i s k : Nat) (v : Int) : Nat := sumN (fun k' => p2 N D n i s k' (n - s + 1) v) k
def r2 (N D n i s : Nat) (v : Int) : Nat := sumN (fun s' => q2 N D n i s' (n + 1) v) s
def t2 (N D n i : Nat) (v : Int) : Nat := sumN (fun i' => r2 N D n i' (n + 1) v) i
def c2 (N D n i s k u : Nat) (v : Int) : Nat := t2 N D n i v + r2 N D n i s v + q2 N D n i s k v + p2 N D n i s k u v
end Go.Proofs.YtpheklgnmbpobaaGreatDoor
namespace Go.Proofs.YtpheklgnmbpobaaGreatDoor
open Go.RowKit Go.Maps
open Go.Lib (decDigits nDigits)
set_option linter.unusedVariables false
def keyL (p : ByteArray × ByteArray) : List UInt8 := p.1.data.toList
structure Reads {H : Type} (D : DataW H) (L : List (ByteArray × ByteArray)) : Prop where
  map : IsMap D
  nd : (L.map keyL).Nodup
  has : ∀ k : List UInt8, Maps.has D (.string k) = true ↔ k ∈ L.map keyL
  look : ∀ p ∈ L, ∀ z, D.atKey (.string (keyL p)) z = .lit (.string p.2.data.toList)
theorem Reads.nil {H : Type} : Reads (.map [] : DataW H) [] :=
  ⟨isMap_empty, by simp, fun k => by simp [Maps.has_eq], fun p h => by simp at h⟩
theorem Reads.put {H : Type} {D : DataW H} {L : List (ByteArray × ByteArray)} (h : Reads D L) {k v : ByteArray} (hk : k.data.toList ∉ L.map keyL) :
    Reads (D.put (.string k.data.toList) (.lit (.string v.data.toList))) (L ++ [(k, v)]) := by
  refine ⟨h.map.put _ _, ?_, fun x => ?_, fun p hp z => ?_⟩
  · rw [List.map_append]
    refine List.nodup_append.2 ⟨h.nd, by simp, fun a ha b hb => ?_⟩
    simp [keyL] at hb
    subst hb
    exact fun e => hk (e ▸ ha)
  · rw [List.map_append, List.mem_append, ← h.has x]
    by_cases hx : x = k.data.toList
    · subst hx
      rw [has_put_same h.map (show WideAt.IsKeyLit (.string k.data.toList) from trivial)]
      simp [keyL]
    · rw [has_put_other (fun e => hx (by injection e))]
      simp [keyL, hx]
  · rcases List.mem_append.1 hp with hp | hp
    · rw [atKey_put_other (fun e => hk ?_), h.look p hp]
      injection e with e
      rw [← e]
      exact List.mem_map_of_mem hp
    · simp at hp
      subst hp
      exact atKey_put_same h.map (show WideAt.IsKeyLit (.string k.data.toList) from trivial) _ _
def sortM (L : List (ByteArray × ByteArray)) : List (ByteArray × ByteArray) := L.mergeSort (fun p q => leB (keyL p) (keyL q))
theorem sortM_keys (L : List (ByteArray × ByteArray)) : (sortM L).map keyL = (L.map keyL).mergeSort leB := List.map_mergeSort (fun _ _ _ _ => rfl)
theorem sortM_mem {L : List (ByteArray × ByteArray)} {p : ByteArray × ByteArray} : p ∈ sortM L ↔ p ∈ L := List.mem_mergeSort
theorem sortM_length (L : List (ByteArray × ByteArray)) : (sortM L).length = L.length := List.length_mergeSort L
theorem leB_trans : ∀ a b c : List UInt8, leB a b = true → leB b c = true → leB a c = true := fun a b c h1 h2 => by simp only [leB, decide_eq_true_eq] at *; exact List.le_trans h1 h2
theorem leB_total : ∀ a b : List UInt8, (leB a b || leB b a) = true := fun a b => by simp only [leB, Bool.or_eq_true, decide_eq_true_eq]; exact List.le_total a b
theorem sortM_sorted (L : List (ByteArray × ByteArray)) : (sortM L).Pairwise (fun p q => leB (keyL p) (keyL q) = true) :=
  List.pairwise_mergeSort (le := fun p q => leB (keyL p) (keyL q)) (fun a b c => leB_trans (keyL a) (keyL b) (keyL c)) (fun a b => leB_total (keyL a) (keyL b)) L
theorem Reads.keys {H : Type} {P : Program} {k : TypeId} {R : Value → Option (DataW H × List MemPlace)} {w : World} {b n : Nat} {D : DataW H} {L : List (ByteArray × ByteArray)} (h : Reads D L) (hown : w.ownsMap P k R b n D) (K : Keyed P k) (hk : P.underlying k = some .string) {ss : List (List UInt8)} (hp : ss.Perm (strKeys D)) :
    ss.mergeSort leB = (sortM L).map keyL := by
  have hc : Collected D (fun _ => false) (L.map keyL) := ⟨h.nd, fun x => by rw [h.has x]; simp⟩
  have hp2 := hc.perm hown K hk (fun _ => rfl)
  rw [sortM_keys]
  exact mergeSort_of_perm (hp.trans hp2.symm)
theorem Reads.size {H : Type} {P : Program} {k : TypeId} {R : Value → Option (DataW H × List MemPlace)} {w : World} {b n : Nat} {D : DataW H} {L : List (ByteArray × ByteArray)} (h : Reads D L) (hown : w.ownsMap P k R b n D) (K : Keyed P k) (hk : P.underlying k = some .string) :
    Maps.size D = L.length := by
  have hc : Collected D (fun _ => false) (L.map keyL) := ⟨h.nd, fun x => by rw [h.has x]; simp⟩
  have hp2 := hc.perm hown K hk (fun _ => rfl)
  have := hp2.length_eq
  rw [List.length_map] at this
  rw [this]
  obtain ⟨es, rfl⟩ := h.map
  simp [strKeys, Maps.size]
def massC (L : List (ByteArray × ByteArray)) : List Value := L.flatMap (fun p => [.string p.1, .string p.2])
theorem massC_length (L : List (ByteArray × ByteArray)) : (massC L).length = L.length * 2 := by
  unfold massC
  induction L with
  | nil => rfl
  | cons p r ih => rw [List.flatMap_cons, List.length_append, ih, List.length_cons]; simp; omega
theorem massC_append (L M : List (ByteArray × ByteArray)) : massC (L ++ M) = massC L ++ massC M := by simp [massC]
theorem massC_get {L : List (ByteArray × ByteArray)} : ∀ {i : Nat} {p : ByteArray × ByteArray}, L[i]? = some p → (massC L)[2 * i]? = some (.string p.1) ∧ (massC L)[2 * i + 1]? = some (.string p.2) := by
  induction L with
  | nil => intro i p h; simp at h
  | cons q r ih =>
    intro i p h
    cases i with
    | zero => simp at h; subst h; exact ⟨rfl, rfl⟩
    | succ i =>
      have h' : r[i]? = some p := by simpa using h
      obtain ⟨h1, h2⟩ := ih h'
      have e : massC (q :: r) = [.string q.1, .string q.2] ++ massC r := rfl
      rw [e, show 2 * (i + 1) = 2 + 2 * i by omega]
      constructor
      · rw [List.getElem?_append_right (by simp)]; simpa using h1
      · rw [List.getElem?_append_right (by simp <;> omega)]
        simp only [List.length_cons, List.length_nil]
        rw [show 2 + 2 * i + 1 - (0 + 1 + 1) = 2 * i + 1 by omega]
        exact h2
theorem MRow.of_owns {w : World} {base n : Nat} {e : TypeId} {v : Value} {L : List (ByteArray × ByteArray)} (h : w.ownsRow base e 2 v n (massC L)) : MRow w v L := by
  have hn : n = L.length := by have := h.1; rw [massC_length] at this; omega
  subst hn
  refine ⟨?_⟩
  have hh := h
  rcases h.2 with ⟨rfl, h0⟩ | ⟨g, cap, cur, rfl, hb, hg, h1, h2, h3, h4⟩
  · exact ⟨none, 0, by rw [h0], by omega, by omega, fun i x hx => by have := (List.getElem?_eq_some_iff.1 hx).1; omega⟩
  · refine ⟨some ⟨g, 0, none⟩, cap, rfl, h1, by unfold maxLen at h2; exact h2, fun i x hx => ⟨g, 0, rfl, (Array.getElem?_eq_some_iff.1 hg).1, ?_⟩⟩
    obtain ⟨m1, m2⟩ := massC_get hx
    have k1 := hh.cells rfl _ _ m1
    have k2 := hh.cells rfl _ _ m2
    rw [Addr.add_lit] at k1 k2
    rw [← Nat.add_assoc] at k2
    exact ⟨k1, k2⟩
def lawL (ws : List Nat) (t : Nat) : Nat → List (ByteArray × ByteArray)
  | 0 => []
  | i + 1 => if cntF ws t i < cntE ws t i then lawL ws t i ++ [(numB i, shB (cnt ws t i) t)] else lawL ws t i
def lawP (ws : List Nat) (t N : Nat) : List (ByteArray × ByteArray) := if t - lwS ws t N = 0 then lawL ws t N else lawL ws t N ++ [(lateB, shB (t - lwS ws t N) t)]
theorem lawL_mem {ws : List Nat} {t : Nat} {p : ByteArray × ByteArray} : ∀ {N : Nat}, p ∈ lawL ws t N ↔ ∃ i, i < N ∧ cntF ws t i < cntE ws t i ∧ p = (numB i, shB (cnt ws t i) t)
  | 0 => by simp [lawL]
  | N + 1 => by
    unfold lawL
    have ih := @lawL_mem ws t p N
    by_cases h : cntF ws t N < cntE ws t N
    · rw [if_pos h, List.mem_append, ih, List.mem_singleton]
      constructor
      · rintro (⟨i, h1, h2, h3⟩ | rfl)
        · exact ⟨i, by omega, h2, h3⟩
        · exact ⟨N, by omega, h, rfl⟩
      · rintro ⟨i, h1, h2, h3⟩
        rcases Nat.lt_or_ge i N with h4 | h4
        · exact .inl ⟨i, h4, h2, h3⟩
        · obtain rfl : i = N := by omega
          exact .inr h3
    · rw [if_neg h, ih]
      constructor
      · rintro ⟨i, h1, h2, h3⟩
        exact ⟨i, by omega, h2, h3⟩
      · rintro ⟨i, h1, h2, h3⟩
        rcases Nat.lt_or_ge i N with h4 | h4
        · exact ⟨i, h4, h2, h3⟩
        · obtain rfl : i = N := by omega
          exact absurd h2 h
theorem lawL_length (ws : List Nat) (t : Nat) : ∀ N, (lawL ws t N).length ≤ N
  | 0 => by simp [lawL]
  | N + 1 => by
    unfold lawL
    have := lawL_length ws t N
    split <;> simp <;> omega
theorem lawP_length (ws : List Nat) (t N : Nat) : (lawP ws t N).length ≤ N + 1 := by
  unfold lawP
  have := lawL_length ws t N
  split <;> simp <;> omega
theorem numB_late (i : Nat) : (numB i).data.toList ≠ lateB.data.toList := by
  intro e
  have h : (108 : UInt8) ∈ decDigits i := by
    rw [← numB_list, e]; decide
  exact absurd (allDig_dec i 108 h) (by decide)
theorem reads_lawD {H : Type} (ws : List Nat) (t : Nat) : ∀ N, Reads (lawD (H := H) ws t N) (lawL ws t N)
  | 0 => Reads.nil
  | N + 1 => by
    have ih := reads_lawD (H := H) ws t N
    unfold lawD lawL
    by_cases h : cntF ws t N < cntE ws t N
    · rw [if_pos h, if_pos h]
      refine ih.put fun hm => ?_
      obtain ⟨p, hp, he⟩ := List.mem_map.1 hm
      obtain ⟨i, h1, -, rfl⟩ := lawL_mem.1 hp
      simp only [keyL, numB_list] at he
      have := dec_inj he
      omega
    · rw [if_neg h, if_neg h]; exact ih
theorem reads_lawM {H : Type} (ws : List Nat) (t N : Nat) : Reads (lawM (H := H) ws t N) (lawP ws t N) := by
  have ih := reads_lawD (H := H) ws t N
  unfold lawM lawP
  by_cases h : t - lwS ws t N = 0
  · rw [if_pos h, if_pos h]; exact ih
  · rw [if_neg h, if_neg h]
    refine ih.put (k := lateB) fun hm => ?_
    obtain ⟨p, hp, he⟩ := List.mem_map.1 hm
    obtain ⟨i, h1, -, rfl⟩ := lawL_mem.1 hp
    exact numB_late i he
end Go.Proofs.YtpheklgnmbpobaaGreatDoor
namespace Go.Proofs
open Go.Shelf
def Tryz.keysK_ren : Go.Shelf.Ren := ⟨fun | 7 => 124 | 10 => 160 | n => n, fun | 23 => 95 | 26 => 9 | 3 => 22 | 28 => 153 | 0 => 0 | 27 => 152 | 33 => 136 | 4 => 4 | n => n, fun | n => n⟩
theorem Tryz.keysK : Go.Proofs.SlLaysZ.n7 Tryz.prog Tryz.keysK_ren := {
  mixed := by kernel_rfl
  f7 := ⟨Tryz.f124.name, by decide, Tryz.func124.trans (congrArg some (by kernel_rfl))⟩
  f10 := ⟨Tryz.f160.name, by decide, Tryz.func160.trans (congrArg some (by kernel_rfl))⟩
  t0 := Tryz.underlying0
  a0 := Tryz.isAgg0
  z0 := Tryz.sizeOf0
  v0 := Tryz.zeroValue0
  t4 := Tryz.underlying4
  a4 := Tryz.isAgg4
  z4 := Tryz.sizeOf4
  v4 := Tryz.zeroValue4
  t23 := Tryz.underlying95
  a23 := Tryz.isAgg95
  z23 := Tryz.sizeOf95
  v23 := Tryz.zeroValue95
  t26 := Tryz.underlying9
  a26 := Tryz.isAgg9
  z26 := Tryz.sizeOf9
  v26 := Tryz.zeroValue9
  t27 := Tryz.underlying152
  a27 := Tryz.isAgg152
  z27 := Tryz.sizeOf152
  v27 := Tryz.zeroValue152
  t28 := Tryz.underlying153
  a28 := Tryz.isAgg153
  z28 := Tryz.sizeOf153
  v28 := Tryz.zeroValue153
  t33 := Tryz.underlying136
  a33 := Tryz.isAgg136
  z33 := Tryz.sizeOf136
  v33 := Tryz.zeroValue136 }
def Tryz.sortedK_ren : Go.Shelf.Ren := ⟨fun | 6 => 123 | 8 => 158 | 9 => 159 | 11 => 201 | 13 => 128 | 12 => 202 | 23 => 174 | 24 => 175 | 14 => 233 | 15 => 234 | 16 => 235 | 17 => 236 | 18 => 237 | 19 => 238 | 20 => 239 | 21 => 240 | 22 => 241 | 25 => 252 | 26 => 206 | 27 => 207 | 28 => 253 | 29 => 254 | 30 => 176 | 31 => 258 | n => n, fun | 26 => 9 | 28 => 153 | 24 => 150 | 0 => 0 | 3 => 3 | 37 => 158 | 48 => 202 | 50 => 164 | 4 => 4 | 40 => 196 | 39 => 195 | 45 => 160 | 5 => 5 | 9 => 9 | 51 => 231 | 55 => 235 | 57 => 260 | 58 => 261 | 33 => 136 | n => n, fun | n => n⟩
theorem Tryz.sortedK : Go.Proofs.SlLaysZ.n6 Tryz.prog Tryz.sortedK_ren := {
  mixed := by kernel_rfl
  f6 := ⟨Tryz.f123.name, by decide, Tryz.func123.trans (congrArg some (by kernel_rfl))⟩
  f8 := ⟨Tryz.f158.name, by decide, Tryz.func158.trans (congrArg some (by kernel_rfl))⟩
  f11 := ⟨Tryz.f201.name, by decide, Tryz.func201.trans (congrArg some (by kernel_rfl))⟩
  t0 := Tryz.underlying0
  a0 := Tryz.isAgg0
  z0 := Tryz.sizeOf0
  v0 := Tryz.zeroValue0
  t24 := Tryz.underlying150
  a24 := Tryz.isAgg150
  z24 := Tryz.sizeOf150
  v24 := Tryz.zeroValue150
  t26 := Tryz.underlying9
  a26 := Tryz.isAgg9
  z26 := Tryz.sizeOf9
  v26 := Tryz.zeroValue9
  t28 := Tryz.underlying153
  a28 := Tryz.isAgg153
  z28 := Tryz.sizeOf153
  v28 := Tryz.zeroValue153
  i26 := by kernel_rfl }
def Tryz.sortK_ren : Go.Shelf.Ren := ⟨fun | 6 => 159 | 8 => 128 | 9 => 202 | 19 => 174 | 20 => 175 | 21 => 233 | 22 => 234 | 23 => 235 | 24 => 236 | 25 => 237 | 26 => 238 | 27 => 239 | 28 => 240 | 29 => 241 | 36 => 252 | 31 => 206 | 32 => 207 | 37 => 253 | 38 => 254 | 39 => 176 | 41 => 258 | n => n, fun | 27 => 150 | 29 => 9 | 3 => 3 | 32 => 158 | 26 => 150 | 0 => 0 | 44 => 202 | 46 => 164 | 4 => 4 | 36 => 196 | 35 => 195 | 41 => 160 | 5 => 5 | 9 => 9 | 53 => 231 | 57 => 235 | 63 => 260 | 64 => 261 | n => n, fun | n => n⟩
theorem Tryz.sortK : Go.Proofs.SlLaysM.n6 Tryz.prog Tryz.sortK_ren := {
  mixed := by kernel_rfl
  f6 := ⟨Tryz.f159.name, by decide, Tryz.func159.trans (congrArg some (by kernel_rfl))⟩
  f8 := Tryz.func128.trans (congrArg some (by kernel_rfl))
  f9 := ⟨Tryz.f202.name, by decide, Tryz.func202.trans (congrArg some (by kernel_rfl))⟩
  f19 := Tryz.func174.trans (congrArg some (by kernel_rfl))
  f20 := Tryz.func175.trans (congrArg some (by kernel_rfl))
  f21 := ⟨Tryz.f233.name, by decide, Tryz.func233.trans (congrArg some (by kernel_rfl))⟩
  f22 := ⟨Tryz.f234.name, by decide, Tryz.func234.trans (congrArg some (by kernel_rfl))⟩
  f23 := ⟨Tryz.f235.name, by decide, Tryz.func235.trans (congrArg some (by kernel_rfl))⟩
  f24 := ⟨Tryz.f236.name, by decide, Tryz.func236.trans (congrArg some (by kernel_rfl))⟩
  f25 := ⟨Tryz.f237.name, by decide, Tryz.func237.trans (congrArg some (by kernel_rfl))⟩
  f26 := ⟨Tryz.f238.name, by decide, Tryz.func238.trans (congrArg some (by kernel_rfl))⟩
  f27 := ⟨Tryz.f239.name, by decide, Tryz.func239.trans (congrArg some (by kernel_rfl))⟩
  f28 := ⟨Tryz.f240.name, by decide, Tryz.func240.trans (congrArg some (by kernel_rfl))⟩
  f29 := ⟨Tryz.f241.name, by decide, Tryz.func241.trans (congrArg some (by kernel_rfl))⟩
  f31 := Tryz.func206.trans (congrArg some (by kernel_rfl))
  f32 := Tryz.func207.trans (congrArg some (by kernel_rfl))
  f36 := ⟨Tryz.f252.name, by decide, Tryz.func252.trans (congrArg some (by kernel_rfl))⟩
  f37 := ⟨Tryz.f253.name, by decide, Tryz.func253.trans (congrArg some (by kernel_rfl))⟩
  f38 := ⟨Tryz.f254.name, by decide, Tryz.func254.trans (congrArg some (by kernel_rfl))⟩
  f39 := ⟨Tryz.f176.name, by decide, Tryz.func176.trans (congrArg some (by kernel_rfl))⟩
  f41 := ⟨Tryz.f258.name, by decide, Tryz.func258.trans (congrArg some (by kernel_rfl))⟩
  t0 := Tryz.underlying0
  a0 := Tryz.isAgg0
  z0 := Tryz.sizeOf0
  v0 := Tryz.zeroValue0
  t3 := Tryz.underlying3
  a3 := Tryz.isAgg3
  z3 := Tryz.sizeOf3
  v3 := Tryz.zeroValue3
  t4 := Tryz.underlying4
  a4 := Tryz.isAgg4
  z4 := Tryz.sizeOf4
  v4 := Tryz.zeroValue4
  t5 := Tryz.underlying5
  a5 := Tryz.isAgg5
  z5 := Tryz.sizeOf5
  v5 := Tryz.zeroValue5
  t9 := Tryz.underlying9
  a9 := Tryz.isAgg9
  z9 := Tryz.sizeOf9
  v9 := Tryz.zeroValue9
  t26 := Tryz.underlying150
  a26 := Tryz.isAgg150
  z26 := Tryz.sizeOf150
  v26 := Tryz.zeroValue150
  t27 := Tryz.underlying150
  a27 := Tryz.isAgg150
  z27 := Tryz.sizeOf150
  v27 := Tryz.zeroValue150
  t29 := Tryz.underlying9
  a29 := Tryz.isAgg9
  z29 := Tryz.sizeOf9
  v29 := Tryz.zeroValue9
  t32 := Tryz.underlying158
  a32 := Tryz.isAgg158
  z32 := Tryz.sizeOf158
  v32 := Tryz.zeroValue158
  t35 := Tryz.underlying195
  a35 := Tryz.isAgg195
  z35 := Tryz.sizeOf195
  v35 := Tryz.zeroValue195
  t36 := Tryz.underlying196
  a36 := Tryz.isAgg196
  z36 := Tryz.sizeOf196
  v36 := Tryz.zeroValue196
  t41 := Tryz.underlying160
  a41 := Tryz.isAgg160
  z41 := Tryz.sizeOf160
  v41 := Tryz.zeroValue160
  t44 := Tryz.underlying202
  a44 := Tryz.isAgg202
  z44 := Tryz.sizeOf202
  v44 := Tryz.zeroValue202
  t46 := Tryz.underlying164
  a46 := Tryz.isAgg164
  z46 := Tryz.sizeOf164
  v46 := Tryz.zeroValue164
  t53 := Tryz.underlying231
  a53 := Tryz.isAgg231
  z53 := Tryz.sizeOf231
  v53 := Tryz.zeroValue231
  t57 := Tryz.underlying235
  a57 := Tryz.isAgg235
  z57 := Tryz.sizeOf235
  v57 := Tryz.zeroValue235
  t63 := Tryz.underlying260
  a63 := Tryz.isAgg260
  z63 := Tryz.sizeOf260
  v63 := Tryz.zeroValue260
  t64 := Tryz.underlying261
  a64 := Tryz.isAgg261
  z64 := Tryz.sizeOf261
  v64 := Tryz.zeroValue261 }
end Go.Proofs
namespace Go.Proofs
open Go.RowKit Go.Maps Go.Sort Go.Shelf
theorem Tryz.sortsK (m : Nat) : AnyZ.SortsIn Tryz.prog Tryz.sortedK_ren Fence.wide m :=
  ⟨fun blk off cap ss W hH hblk hsz => callsIn_wide.2 (AnyM.slices_Sort_string Tryz.sortK blk off cap ss W hH hblk hsz),
   fun p cap W => callsIn_wide.2 (AnyM.slices_Sort_string_none Tryz.sortK p cap W)⟩
theorem Tryz.maps_keys (mb : Option Nat) (W : World) : CallsIn Fence.wide 5 Tryz.prog 124 #[.map mb] W fun e w' => e = .returned (.func (.func 160) #[] #[.pointer (some ⟨W.heap.size, 0, none⟩)]) ∧ w' = W.alloc (.cells #[.map mb] 95) :=
  AnyZ.keys_in Tryz.keysK Fence.wide 5 trivial rfl mb W
set_option maxHeartbeats 1000000 in
theorem Tryz.sorted_keys {H : Type} (b nn : Nat) (D0 : DataW H) (R : Value → Option (DataW H × List MemPlace)) (w : World) (hown : w.ownsMap Tryz.prog 9 R b nn D0) (hmax : Maps.size D0 ≤ maxLen) (hbytes : Maps.size D0 * 16 ≤ 140737488355328) :
    CallsIn Fence.wide 5 Tryz.prog 123 #[.func (.func 160) #[] #[.pointer (some ⟨w.heap.size, 0, none⟩)]] (w.alloc (.cells #[.map (some b)] 95)) fun e w' => ∃ (v : Value) (ss : List (List UInt8)), e = .returned v ∧ ss.Perm (strKeys D0) ∧
      w'.ownsRow (w.alloc (.cells #[.map (some b)] 95)).heap.size 9 1 v ss.length ((ss.mergeSort (fun x y => decide (x ≤ y))).map encStr) ∧ (v = .slice none 0 0 ↔ ss = []) ∧ Below (w.alloc (.cells #[.map (some b)] 95)).heap.size (w.alloc (.cells #[.map (some b)] 95)) w' := by
  have hbl := hown.lt
  have hseq : SeqGives Fence.wide 2 Tryz.prog 160 #[.pointer (some ⟨w.heap.size, 0, none⟩)] encStr (fun ss => ss.Perm (strKeys D0)) (Maps.size D0) (w.alloc (.cells #[.map (some b)] 95)) :=
    AnyZ.keys_gives (ρ := Tryz.keysK_ren) { Tryz.keysK with } Fence.wide _ trivial rfl (by omega) w.heap.size b nn D0 _ (by simp) (by simp) (by
      obtain ⟨es, clock, hb, Ft, hs, hD⟩ := hown
      exact ⟨es, clock, (Below.heap_alloc _ _ b hbl).trans hb, Ft, hs, hD⟩)
  exact AnyZ.sorted_in Tryz.sortedK Fence.wide 5 trivial trivial trivial trivial rfl (by omega) (Tryz.sortsK _) (enters_of Tryz.func159 (by kernel_rfl) rfl) 160 #[.pointer (some ⟨w.heap.size, 0, none⟩)] trivial (enters_of Tryz.func160 (by kernel_rfl) rfl) _ _ hmax hbytes _ hseq
set_option maxHeartbeats 1000000 in
theorem Tryz.sorted_keys_nil (w : World) :
    CallsIn Fence.wide 5 Tryz.prog 123 #[.func (.func 160) #[] #[.pointer (some ⟨w.heap.size, 0, none⟩)]] (w.alloc (.cells #[.map none] 95)) fun e w' => ∃ (v : Value) (ss : List (List UInt8)), e = .returned v ∧ ss = [] ∧
      w'.ownsRow (w.alloc (.cells #[.map none] 95)).heap.size 9 1 v ss.length ((ss.mergeSort (fun x y => decide (x ≤ y))).map encStr) ∧ (v = .slice none 0 0 ↔ ss = []) ∧ Below (w.alloc (.cells #[.map none] 95)).heap.size (w.alloc (.cells #[.map none] 95)) w' := by
  have hseq : SeqGives Fence.wide 2 Tryz.prog 160 #[.pointer (some ⟨w.heap.size, 0, none⟩)] encStr (fun ss : List (List UInt8) => ss = []) 0 (w.alloc (.cells #[.map none] 95)) :=
    AnyZ.keys_gives_nil (ρ := Tryz.keysK_ren) { Tryz.keysK with } Fence.wide _ trivial rfl w.heap.size _ (by simp) (by simp)
  exact AnyZ.sorted_in Tryz.sortedK Fence.wide 5 trivial trivial trivial trivial rfl (by omega) (Tryz.sortsK _) (enters_of Tryz.func159 (by kernel_rfl) rfl) 160 #[.pointer (some ⟨w.heap.size, 0, none⟩)] trivial (enters_of Tryz.func160 (by kernel_rfl) rfl) _ 0 (Nat.zero_le _) (by omega) _ hseq
end Go.Proofs
namespace Go.Proofs.YtpheklgnmbpobaaGreatDoor
open Go.RowKit Go.Shelf Go.Maps
open Go.Lib (decDigits nDigits)
set_option linter.unusedVariables false
set_option linter.unusedSimpArgs false
theorem info_mass : (Tryz.prog.info? 31).map (fun i => (i.zero, i.size, i.bytes)) = some (some (.agg #[.string ⟨#[]⟩, .string ⟨#[]⟩]), 2, 32) := by kernel_rfl
theorem zero_num (w : World) : (zeroValue 22).run Tryz.prog w = .ok (.string ⟨#[]⟩) w := by kernel_rfl
theorem encStr_at {l : List (List UInt8)} {i : Nat} {k : List UInt8} (h : l[i]? = some k) : (l.map encStr)[i]? = some (.string ⟨k.toArray⟩) := by
  rw [List.getElem?_map, h]; rfl
theorem look_run {H : Type} {w : World} {B nn : Nat} {D : DataW H} {L : List (ByteArray × ByteArray)} (hown : w.ownsMap Tryz.prog 9 (plainElem Tryz.prog 22) B nn D) (hR : Reads D L) {p : ByteArray × ByteArray} (hp : p ∈ L) (hk : (keyL p).length ≤ maxLen) :
    (Instr.lookup 95 (.map (some B)) (.string p.1) false).run Tryz.prog w = .ok (.string p.2) w := by
  have hk2 : keyOf Tryz.prog 9 (.string p.1) = some (.string p.1.data.toList) := by
    have := Go.WideMaps.keyOf_string_mk Tryz.underlying9 (s := p.1) (by simpa [keyL] using hk)
    simpa using this
  obtain ⟨v, ps, h1, h2⟩ := hown.lookup lawKeyed Tryz.underlying95 (zero_num w) (plainElem_string Tryz.underlying22 (s := ⟨#[]⟩) (Nat.zero_le _)) hk2
  rw [show D.atKey (.string p.1.data.toList) (.lit (.string (⟨#[]⟩ : ByteArray).data.toList)) = .lit (.string p.2.data.toList) from hR.look p hp _] at h2
  obtain ⟨s, rfl, h3, -⟩ := plainElem_string_inv Tryz.underlying22 h2
  simp only [Prod.mk.injEq, DataW.lit.injEq, Lit.string.injEq] at h3
  rw [h1, ba_ext h3.1]
set_option maxRecDepth 100000 in
set_option maxHeartbeats 2000000 in
theorem p_listed {H : Type} (w : World) (B nn : Nat) (D : DataW H) (L : List (ByteArray × ByteArray)) (hown : w.ownsMap Tryz.prog 9 (plainElem Tryz.prog 22) B nn D) (hR : Reads D L) (hl : L.length ≤ 1000) (hkl : ∀ p ∈ L, (keyL p).length ≤ 1000) :
    Calls Tryz.prog 73 #[.map (some B)] w fun e w' => (∃ v, e = .returned v ∧ MRow w' v (sortM L)) ∧ Below w.heap.size w w' := by
  have hsz := hR.size hown lawKeyed Tryz.underlying9
  have HK := hid (callsIn_wide.1 (Tryz.maps_keys (some B) w))
  have HS := hid (callsIn_wide.1 (Tryz.sorted_keys B nn D _ w hown (by rw [hsz]; unfold maxLen; omega) (by rw [hsz]; omega)))
  have HKEYS := hid (fun ss => hR.keys (ss := ss) hown lawKeyed Tryz.underlying9)
  have HOWN := hid hown; have HR := hid hR; have HL := hid hl; have HKL := hid hkl
  obtain ⟨i0, hi, hz0, hz1, hz2⟩ := info_parts info_mass
  clear hown hR hl hkl hsz
  go_enter Tryz.func73, Tryz.ntmps73
  go_wp2_with fail
  refine HK.out.mono ?_; rintro e w1 ⟨rfl, rfl⟩
  go_wp2_with fail
  refine HS.out.mono ?_; rintro e w2 ⟨v, ss, rfl, hp, hown2, -, hb⟩
  rw [HKEYS.out ss hp] at hown2
  have hlen : ss.length = (sortM L).length := by
    have h := congrArg List.length (HKEYS.out ss hp)
    rw [List.length_mergeSort, List.length_map] at h
    exact h
  rw [hlen] at hown2
  obtain ⟨n, hn⟩ : ∃ n, (sortM L).length = n := ⟨_, rfl⟩
  have hn2 : n ≤ 1000 := by rw [← hn, sortM_length]; exact HL.out
  rw [hn] at hown2
  obtain ⟨a, c, rfl⟩ := owns_ex hown2
  have hrow := Row.of_owns hown2
  have HROW := hid hrow
  have HN := hid hn
  have hcap := hrow.len.2
  have hB : Below w.heap.size w w2 := ((Below.refl _ _).alloc (Nat.le_refl _) _).trans (hb.mono (by simp))
  have HB := hid hB
  have hBL := HOWN.out.lt
  unfold maxLen at hcap
  clear hlen hn hown2 hrow hb hB hp
  go_wp2_with fail
  go_loopw [3, 10] (fun s3 s10 wr => ∃ i : Nat, s10 = .int .i64 (i : Nat) ∧ i ≤ n ∧ Hid (wr.ownsRow w2.heap.size 31 2 s3 i (massC ((sortM L).take i))) ∧ Hid (Below w2.heap.size w2 wr)) (fun s3 s10 wr => n - (intOf s10).toNat)
  case atStart => exact ⟨0, rfl, Nat.zero_le _, ⟨rfl, .inl ⟨rfl, rfl⟩⟩, Below.refl _ _⟩
  case round =>
    obtain ⟨i, rfl, hi2, hO, hB⟩ := hrel
    by_cases hlt : i < n
    · obtain ⟨p, hp⟩ : ∃ x, (sortM L)[i]? = some x := ⟨_, List.getElem?_eq_getElem (by rw [HN.out]; exact hlt)⟩
      have hpm : p ∈ L := sortM_mem.1 (List.mem_of_getElem? hp)
      obtain ⟨g, o, rfl, hg, hc⟩ := HROW.out.at (encStr_at (show ((sortM L).map keyL)[i]? = some (keyL p) by rw [List.getElem?_map, hp]; rfl))
      have hc2 := (hB.out.cell (p := ⟨g, o + i, none⟩) hg).trans hc
      have e1 : (⟨(keyL p).toArray⟩ : ByteArray) = p.1 := by simp [keyL]
      rw [e1] at hc2
      have hb2 : Below w.heap.size w _ := HB.out.trans (hB.out.mono HB.out.size)
      have hrun := look_run (HOWN.out.kept (row := none) ⟨hb2.os, hb2.tape, hb2.output, hb2.size, fun k hk _ => hb2.block k hk⟩ (by simp)) HR.out hpm (by have := HKL.out p hpm; unfold maxLen; omega)
      obtain ⟨pk, pv⟩ := p
      dsimp only at hrun hc2
      have HP := hid hp
      have b1 : (0 : Int) ≤ (i : Int) := by omega
      have b2 : (i : Int) < (n : Int) := by omega
      clear hp hpm hc e1 hg hb2
      have hbs := HB.out.size
      go_wp2_with (at_builtin; refine wpList_append_own _ rfl _ _ 26 rfl w2.heap.size 31 i0 (.agg #[.string ⟨#[]⟩, .string ⟨#[]⟩]) 2 32 Tryz.underlying26 hi hz0 hz1 hz2 rfl (by decide) _ i _ rfl (hO.out.alloc _) ⟨wr.heap.size, 0, none⟩ 1 1 [.string pk, .string pv] rfl rfl (cell_two_new wr (.string pk) (.string pv) 31) (by simp [Value.oneCell']) (by unfold maxLen; omega) (by omega) (by have := hB.out.size; simp; omega) ?_; intro v' w3 hown3 hgrow3 _)
      have hO3 := hid (show w3.ownsRow w2.heap.size 31 2 v' (i + 1) (massC ((sortM L).take (i + 1))) by
        rw [List.take_add_one, HP.out, Option.toList_some, massC_append]; exact hown3)
      have hB3 : Hid (Below w2.heap.size w2 w3) := by
        refine (hB.out.alloc hB.out.size _).trans ⟨hgrow3.os, hgrow3.tape, hgrow3.output, hgrow3.size, fun k hk => hgrow3.block k (by have := hB.out.size; simp; omega) (fun e => ?_)⟩
        have := (hO.out.lt k e.symm).1
        omega
      clear hown3 hgrow3
      go_wp2_with fail
      go_roundw
      case rel => exact ⟨i + 1, by go_num, by omega, hO3, hB3⟩
      case measure => simp [intOf] <;> omega
    · obtain rfl : i = n := by omega
      have q1 : decide ((i : Int) < (i : Int)) = false := by simp
      have h := hO.out
      rw [List.take_of_length_le (by rw [HN.out]; exact Nat.le_refl _)] at h
      have hM := MRow.of_owns h
      have HM := hid hM
      have hB2 := hid (HB.out.trans (hB.out.mono HB.out.size))
      clear hlt hM h
      go_wp2_with fail
      go_ret
      exact ⟨⟨_, rfl, HM.out⟩, hB2.out⟩
end Go.Proofs.YtpheklgnmbpobaaGreatDoor
namespace Go.Proofs.YtpheklgnmbpobaaGreatDoor
open Go.RowKit Go.Shelf Go.Maps
open Go.Lib (decDigits nDigits)
set_option linter.unusedVariables false
set_option linter.unusedSimpArgs false
def lawE (l : List ByteArray) (n : Int) : Int := if wsE l ≠ 0 then wsE l else if n < 0 ∨ 256 < n then 2 else 0
set_option maxRecDepth 100000 in
set_option maxHeartbeats 1000000 in
theorem p_lawE (w : World) (v : Value) (l : List ByteArray) (n : Int) (hv : Row w v (strs l)) (hl : ∀ x ∈ l, x.size ≤ 1000000) (he : lawE l n ≠ 0) :
    Calls Tryz.prog 110 #[v, .int .i64 n] w fun e w' => e = .returned (.tuple #[.map none, .int .i64 (lawE l n)]) ∧ Below w.heap.size w w' := by
  have PC := hid (p_check w v l hv hl)
  obtain ⟨a, c, rfl, q1, q2, -⟩ := hv.openS
  obtain ⟨N, hN⟩ : ∃ N, l.length = N := ⟨_, rfl⟩
  rw [hN] at PC q1 ⊢
  clear hv hl hN
  by_cases h1 : wsE l ≠ 0
  · have e1 : lawE l n = wsE l := by rw [lawE, if_pos h1]
    rw [e1]
    obtain ⟨z, hz⟩ : ∃ z, wsE l = z := ⟨_, rfl⟩
    rw [hz] at PC h1 ⊢
    have q0 : (z != 0) = true := by simpa using h1
    clear e1 he hz h1
    go_enter Tryz.func110, Tryz.ntmps110
    go_wp2_with fail
    refine PC.out.mono ?_; rintro e w1 ⟨rfl, hb1⟩
    go_wp2_with fail
    go_ret2
    exact ⟨rfl, hb1⟩
  · have h2 : wsE l = 0 := by simpa using h1
    have h3 : n < 0 ∨ 256 < n := by
      by_cases h3 : n < 0 ∨ 256 < n
      · exact h3
      · exact absurd (show lawE l n = 0 by rw [lawE, if_neg h1, if_neg h3]) he
    have e1 : lawE l n = 2 := by rw [lawE, if_neg h1, if_pos h3]
    rw [e1]
    rw [h2] at PC
    clear e1 he h1 h2
    by_cases h4 : n < 0
    · have q0 : decide (n < 0) = true := by simpa using h4
      clear h3 h4
      go_enter Tryz.func110, Tryz.ntmps110
      go_wp2_with fail
      refine PC.out.mono ?_; rintro e w1 ⟨rfl, hb1⟩
      go_wp2_with fail
      go_ret2
      exact ⟨rfl, hb1⟩
    · have q0 : decide (n < 0) = false := by simpa using h4
      have q1 : decide (256 < n) = true := by simp; omega
      clear h3 h4
      go_enter Tryz.func110, Tryz.ntmps110
      go_wp2_with fail
      refine PC.out.mono ?_; rintro e w1 ⟨rfl, hb1⟩
      go_wp2_with fail
      go_ret2
      exact ⟨rfl, hb1⟩
set_option maxRecDepth 100000 in
set_option maxHeartbeats 1000000 in
theorem p_listed_nil (w : World) :
    Calls Tryz.prog 73 #[.map none] w fun e w' => e = .returned (.slice none 0 0) ∧ Below w.heap.size w w' := by
  have HK := hid (callsIn_wide.1 (Tryz.maps_keys none w))
  have HS := hid (callsIn_wide.1 (Tryz.sorted_keys_nil w))
  go_enter Tryz.func73, Tryz.ntmps73
  go_wp2_with fail
  refine HK.out.mono ?_; rintro e w1 ⟨rfl, rfl⟩
  go_wp2_with fail
  refine HS.out.mono ?_; rintro e w2 ⟨v, ss, rfl, rfl, hown2, hnil, hb⟩
  obtain rfl := hnil.2 rfl
  have hB : Below w.heap.size w w2 := ((Below.refl _ _).alloc (Nat.le_refl _) _).trans (hb.mono (by simp))
  have HB := hid hB
  clear hown2 hnil hb hB
  go_wp2_with fail
  refine wp_loop_rounds 1 ?_; rw [rounds_succ]
  go_wp2_with fail
  go_ret
  exact ⟨rfl, HB.out⟩
def lawR (l : List ByteArray) (n : Int) : List (ByteArray × ByteArray) := if lawE l n = 0 then sortM (lawP (l.map bN) (2 ^ n.toNat) l.length) else []
theorem lawE_ok {l : List ByteArray} {n : Int} (h : lawE l n = 0) : wsE l = 0 ∧ 0 ≤ n ∧ n ≤ 256 := by
  unfold lawE at h
  split at h
  · rename_i h1; exact absurd h h1
  · rename_i h1
    split at h
    · exact absurd h (by decide)
    · rename_i h2; exact ⟨by simpa using h1, by omega, by omega⟩
theorem lawP_keys {ws : List Nat} {t N : Nat} (hN : N ≤ 64) : ∀ p ∈ lawP ws t N, (keyL p).length ≤ 1000 := by
  intro p hp
  have h1 : ∀ p ∈ lawL ws t N, (keyL p).length ≤ 1000 := fun p hp => by
    obtain ⟨i, h1, -, rfl⟩ := lawL_mem.1 hp
    have := nDigits_le (n := i) (k := 2) (by omega) (by omega)
    simp only [keyL, numB_list, Lib.decDigits_length]
    omega
  unfold lawP at hp
  split at hp
  · exact h1 p hp
  · rcases List.mem_append.1 hp with hp | hp
    · exact h1 p hp
    · simp at hp
      subst hp
      have this : lateB.data.toList.length ≤ 1000 := by decide
      exact this
set_option maxRecDepth 100000 in
set_option maxHeartbeats 1000000 in
theorem p_Law (w : World) (v : Value) (l : List ByteArray) (n : Int) (hv : Row w v (strs l)) (hl : ∀ x ∈ l, x.size ≤ 1000000) (hL : Lay w) :
    Calls Tryz.prog 57 #[v, .int .i64 n] w fun e w' => (∃ u, e = .returned (.tuple #[u, .int .i64 (lawE l n)]) ∧ MRow w' u (lawR l n)) ∧ Below w.heap.size w w' := by
  by_cases he : lawE l n = 0
  · obtain ⟨h1, h2, h3⟩ := lawE_ok he
    obtain ⟨m, rfl⟩ : ∃ m : Nat, n = (m : Nat) := ⟨n.toNat, by omega⟩
    have P := hid (p_law (H := Unit) w v l m hv hl h1 (by omega) hL)
    have hlen := (wsE_ok h1).2.1.len
    rw [List.length_map] at hlen
    have er : lawR l (m : Nat) = sortM (lawP (l.map bN) (2 ^ m) l.length) := by rw [lawR, if_pos he, Int.toNat_natCast]
    rw [er, he]
    obtain ⟨ws, hws⟩ : ∃ ws, l.map bN = ws := ⟨_, rfl⟩
    obtain ⟨N, hN⟩ : ∃ N, l.length = N := ⟨_, rfl⟩
    rw [hws, hN] at P ⊢
    have hN64 : N ≤ 64 := by omega
    obtain ⟨a, c, rfl, -⟩ := hv.openS
    have K := hid (lawP_keys (ws := ws) (t := 2 ^ m) hN64)
    clear hv hl hL h1 h2 h3 hlen er he hws hN
    go_enter Tryz.func57, Tryz.ntmps57
    go_wp2_with fail
    refine P.out.mono ?_; rintro e w1 ⟨⟨B, rfl, hown⟩, hb1⟩
    have y1 := hid hb1
    have Q := hid (p_listed w1 B _ _ _ hown (reads_lawM ws (2 ^ m) N) (by have := lawP_length ws (2 ^ m) N; omega) K.out)
    clear hown hb1
    go_wp2_with fail
    refine Q.out.mono ?_; rintro e w2 ⟨⟨u, rfl, hu⟩, hb2⟩
    have hu2 := hid hu
    have y2 := hid (bnext y1.out hb2)
    clear hu hb2
    go_wp2_with fail
    go_ret2
    exact ⟨⟨_, rfl, hu2.out⟩, y2.out⟩
  · have P := hid (p_lawE w v l n hv hl he)
    have er : lawR l n = [] := by rw [lawR, if_neg he]
    rw [er]
    obtain ⟨a, c, rfl, -⟩ := hv.openS
    generalize lawE l n = z at *
    clear hv hl hL er he
    go_enter Tryz.func57, Tryz.ntmps57
    go_wp2_with fail
    refine P.out.mono ?_; rintro e w1 ⟨rfl, hb1⟩
    have y1 := hid hb1
    have Q := hid (p_listed_nil w1)
    clear hb1
    go_wp2_with fail
    refine Q.out.mono ?_; rintro e w2 ⟨rfl, hb2⟩
    have y2 := hid (bnext y1.out hb2)
    clear hb2
    go_wp2_with fail
    go_ret2
    exact ⟨⟨_, rfl, MRow.nil _⟩, y2.out⟩
def lateR (l : List ByteArray) (n : Int) : ByteArray := if lawE l n = 0 then shB (2 ^ n.toNat - lwS (l.map bN) (2 ^ n.toNat) l.length) (2 ^ n.toNat) else ⟨#[]⟩
theorem shB_zero (t : Nat) : shB 0 t = ⟨#[48]⟩ := by
  have e : qmk false 0 t = 0 := by unfold qmk sgn; simp
  have h1 : ¬ ovQ 0 := by
    have : nDigits 0 ≤ 4000 := by rw [nDigits_zero]; omega
    have : nDigits 1 ≤ 4000 := by rw [nDigits_one]; omega
    unfold ovQ
    rw [show (0 : Rat).num.natAbs = 0 from rfl, show (0 : Rat).den = 1 from rfl]
    omega
  unfold shB
  rw [e]
  unfold outB
  rw [if_neg h1]
  apply ba_ext
  rw [txQ, txB_list, show (0 : Rat).num.natAbs = 0 from rfl, show (0 : Rat).den = 1 from rfl, show decide ((0 : Rat).num < 0) = false from rfl, dec_zero]
  rfl
theorem lookok_run {H : Type} {w : World} {B nn : Nat} {D : DataW H} {L : List (ByteArray × ByteArray)} (hown : w.ownsMap Tryz.prog 9 (plainElem Tryz.prog 22) B nn D) (hR : Reads D L) (k : ByteArray) (hk : k.size ≤ maxLen) :
    (∀ p ∈ L, p.1 = k → (Instr.lookup 95 (.map (some B)) (.string k) true).run Tryz.prog w = .ok (.tuple #[.string p.2, .bool true]) w) ∧
    ((∀ p ∈ L, p.1 ≠ k) → (Instr.lookup 95 (.map (some B)) (.string k) true).run Tryz.prog w = .ok (.tuple #[.string ⟨#[]⟩, .bool false]) w) := by
  have hk2 : keyOf Tryz.prog 9 (.string k) = some (.string k.data.toList) := by
    have := Go.WideMaps.keyOf_string_mk Tryz.underlying9 (s := k) (by simpa using hk)
    simpa using this
  obtain ⟨v, ps, h1, h2⟩ := hown.look_ok lawKeyed Tryz.underlying95 (zero_num w) (plainElem_string Tryz.underlying22 (s := ⟨#[]⟩) (Nat.zero_le _)) hk2
  constructor
  · rintro p hp rfl
    rw [show D.atKey (.string p.1.data.toList) (.lit (.string (⟨#[]⟩ : ByteArray).data.toList)) = .lit (.string p.2.data.toList) from hR.look p hp _] at h2
    obtain ⟨s, rfl, h3, -⟩ := plainElem_string_inv Tryz.underlying22 h2
    simp only [Prod.mk.injEq, DataW.lit.injEq, Lit.string.injEq] at h3
    rw [h1, ba_ext h3.1, (hR.has p.1.data.toList).2 (List.mem_map_of_mem (f := keyL) hp)]
  · intro hn
    have hh : Maps.has D (.string k.data.toList) = false := by
      cases hc : Maps.has D (.string k.data.toList)
      · rfl
      · obtain ⟨p, hp, e⟩ := List.mem_map.1 ((hR.has _).1 hc)
        exact absurd (ba_ext e) (hn p hp)
    rw [atKey_of_not_has hh] at h2
    obtain ⟨s, rfl, h3, -⟩ := plainElem_string_inv Tryz.underlying22 h2
    simp only [Prod.mk.injEq, DataW.lit.injEq, Lit.string.injEq] at h3
    rw [h1, hh, ← ba_ext (a := ⟨#[]⟩) (b := s) h3.1]
theorem lawP_late {ws : List Nat} {t N : Nat} : (t - lwS ws t N ≠ 0 → (lateB, shB (t - lwS ws t N) t) ∈ lawP ws t N) ∧ (t - lwS ws t N = 0 → ∀ p ∈ lawP ws t N, p.1 ≠ lateB) := by
  constructor
  · intro h
    rw [lawP, if_neg h]
    simp
  · intro h p hp e
    rw [lawP, if_pos h] at hp
    obtain ⟨i, -, -, rfl⟩ := lawL_mem.1 hp
    exact numB_late i (congrArg (fun b => b.data.toList) e)
end Go.Proofs.YtpheklgnmbpobaaGreatDoor
namespace Go.Proofs.YtpheklgnmbpobaaGreatDoor
open Go.RowKit Go.Shelf Go.Maps
open Go.Lib (decDigits nDigits)
set_option linter.unusedVariables false
set_option linter.unusedSimpArgs false
def exD {H : Type} (ws : List Nat) (S : Nat) : Nat → DataW H
  | 0 => .map []
  | i + 1 => if ws.getD i 0 ≠ 0 then (exD ws S i).put (.string (numB i).data.toList) (.lit (.string (shB (ws.getD i 0) S).data.toList)) else exD ws S i
def exL (ws : List Nat) (S : Nat) : Nat → List (ByteArray × ByteArray)
  | 0 => []
  | i + 1 => if ws.getD i 0 ≠ 0 then exL ws S i ++ [(numB i, shB (ws.getD i 0) S)] else exL ws S i
theorem exL_mem {ws : List Nat} {S : Nat} {p : ByteArray × ByteArray} : ∀ {N : Nat}, p ∈ exL ws S N ↔ ∃ i, i < N ∧ ws.getD i 0 ≠ 0 ∧ p = (numB i, shB (ws.getD i 0) S)
  | 0 => by simp [exL]
  | N + 1 => by
    unfold exL
    have ih := @exL_mem ws S p N
    by_cases h : ws.getD N 0 ≠ 0
    · rw [if_pos h, List.mem_append, ih, List.mem_singleton]
      constructor
      · rintro (⟨i, h1, h2, h3⟩ | rfl)
        · exact ⟨i, by omega, h2, h3⟩
        · exact ⟨N, by omega, h, rfl⟩
      · rintro ⟨i, h1, h2, h3⟩
        rcases Nat.lt_or_ge i N with h4 | h4
        · exact .inl ⟨i, h4, h2, h3⟩
        · obtain rfl : i = N := by omega
          exact .inr h3
    · rw [if_neg h, ih]
      constructor
      · rintro ⟨i, h1, h2, h3⟩
        exact ⟨i, by omega, h2, h3⟩
      · rintro ⟨i, h1, h2, h3⟩
        rcases Nat.lt_or_ge i N with h4 | h4
        · exact ⟨i, h4, h2, h3⟩
        · obtain rfl : i = N := by omega
          exact absurd h2 h
theorem exL_length (ws : List Nat) (S : Nat) : ∀ N, (exL ws S N).length ≤ N
  | 0 => by simp [exL]
  | N + 1 => by
    unfold exL
    have := exL_length ws S N
    split <;> simp <;> omega
theorem reads_exD {H : Type} (ws : List Nat) (S : Nat) : ∀ N, Reads (exD (H := H) ws S N) (exL ws S N)
  | 0 => Reads.nil
  | N + 1 => by
    have ih := reads_exD (H := H) ws S N
    unfold exD exL
    by_cases h : ws.getD N 0 ≠ 0
    · rw [if_pos h, if_pos h]
      refine ih.put fun hm => ?_
      obtain ⟨p, hp, he⟩ := List.mem_map.1 hm
      obtain ⟨i, h1, -, rfl⟩ := exL_mem.1 hp
      simp only [keyL, numB_list] at he
      have := dec_inj he
      omega
    · rw [if_neg h, if_neg h]; exact ih
theorem exL_keys {ws : List Nat} {S N : Nat} (hN : N ≤ 64) : ∀ p ∈ exL ws S N, (keyL p).length ≤ 1000 := fun p hp => by
  obtain ⟨i, h1, -, rfl⟩ := exL_mem.1 hp
  have := nDigits_le (n := i) (k := 2) (by omega) (by omega)
  simp only [keyL, numB_list, Lib.decDigits_length]
  omega
def exR (l : List ByteArray) : List (ByteArray × ByteArray) := if wsE l = 0 then sortM (exL (l.map bN) (l.map bN).sum l.length) else []
set_option maxRecDepth 100000 in
set_option maxHeartbeats 4000000 in
theorem p_Exact (w : World) (v : Value) (l : List ByteArray) (hv : Row w v (strs l)) (hl : ∀ x ∈ l, x.size ≤ 1000000) (hL : Lay w) :
    Calls Tryz.prog 32 #[v] w fun e w' => (∃ u, e = .returned (.tuple #[u, .int .i64 (wsE l)]) ∧ MRow w' u (exR l)) ∧ Below w.heap.size w w' := by
  have PC := hid (p_check w v l hv hl)
  have HL := hid hL; have HV := hid hv
  by_cases he : wsE l = 0
  · obtain ⟨D1, D2, D3⟩ := wsE_ok he
    have hS := wsE_pos he
    have er : exR l = sortM (exL (l.map bN) (l.map bN).sum l.length) := by rw [exR, if_pos he]
    rw [er, he]
    rw [he] at PC
    have PE := fun V hV hLV => hid (p_ends V v (l.map bN) D2 hV hLV)
    obtain ⟨a, c, rfl, q1, q2, -⟩ := hv.openS
    obtain ⟨N, hN⟩ : ∃ N, l.length = N := ⟨_, rfl⟩
    have HN := hid hN
    obtain ⟨ws, hws⟩ : ∃ ws, l.map bN = ws := ⟨_, rfl⟩
    have hlen : ws.length = N := by rw [← hws, List.length_map]; exact hN
    rw [hws] at PE D1 D2 hS ⊢
    rw [hN] at PE PC HV q1 D3 ⊢
    obtain ⟨m, rfl⟩ : ∃ m, N = m + 1 := ⟨N - 1, by omega⟩
    have hm : m < 64 := by have := D2.len; omega
    have HD1 := hid D1; have HWS := hid D2; have HLEN := hid hlen; have HPOS := hid hS
    have hmm := @run_makeMap Tryz.prog
    clear hv hl hL D1 D2 D3 hlen hS hN hws er he
    go_enter Tryz.func32, Tryz.ntmps32
    go_wp2_with fail
    refine PC.out.mono ?_; rintro e w1 ⟨rfl, hb1⟩
    have y1 := hid hb1; clear hb1
    go_wp2_with fail
    refine (PE _ (by rw [← HD1.out]; exact HV.out.call y1.out) (HL.out.call y1.out)).out.mono ?_; rintro e w2 ⟨⟨u, rfl, hu⟩, hb2⟩
    have y2 := hid (bnext y1.out hb2)
    have hu2 := hid hu
    obtain ⟨a5, c5, rfl, r1, r2, r3⟩ := hu.openS
    rw [endL_length] at hu2 r1 ⊢
    obtain ⟨g, o, rfl, hg, hc⟩ := r3 m _ (endL_get (by rw [HLEN.out]; omega))
    rw [pre_all (by rw [HLEN.out]; omega)] at hc
    rw [HLEN.out] at r1 ⊢
    obtain ⟨S0, hS0⟩ : ∃ s, numB ws.sum = s := ⟨_, rfl⟩
    have HS0 := hid hS0
    rw [hS0] at hc
    have HG := hid hg; have HC := hid hc
    clear hb2 hu hu2 r3 hS0 hg hc
    go_wp2_with fail
    have M0 := World.ownsMap_made (H := Unit) w2 Tryz.prog 9 (plainElem Tryz.prog 22)
    have B0 := hid ((Below.refl w2.heap.size w2).alloc (Nat.le_refl _) (.map #[] 0))
    obtain ⟨B, hB⟩ : ∃ B, w2.heap.size = B := ⟨_, rfl⟩
    rw [hB] at M0 ⊢
    have hgB : g < B := by rw [← hB]; exact HG.out
    have HB := hid hB
    have HM0 := hid M0
    clear M0 hB
    go_loopw [19] (fun s19 wr => ∃ i : Nat, s19 = .int .i64 (i : Nat) ∧ i ≤ m + 1 ∧ Hid (wr.ownsMap Tryz.prog 9 (plainElem (H := Unit) Tryz.prog 22) B i (exD ws ws.sum i)) ∧ Hid (Below w2.heap.size w2 wr)) (fun s19 wr => m + 1 - (intOf s19).toNat)
    case atStart => exact ⟨0, rfl, Nat.zero_le _, HM0, B0⟩
    case round =>
      obtain ⟨i, rfl, hi, hM, hW⟩ := hrel
      have yr := hid (bnext y2.out hW.out)
      by_cases hlt : i < m + 1
      · obtain ⟨x, hx⟩ : ∃ x, ws[i]? = some x := ⟨_, List.getElem?_eq_getElem (by rw [HLEN.out]; exact hlt)⟩
        obtain ⟨g', o', rfl, hg', hc'⟩ := HV.out.at (strs_get (show l[i]? = some (numB x) by rw [HD1.out, List.getElem?_map, hx]; rfl))
        have hc2 := (yr.out.cell (p := ⟨g', o' + i, none⟩) hg').trans hc'
        have hgd : ws.getD i 0 = x := by rw [List.getD_eq_getElem?_getD, hx]; rfl
        have hxd := HWS.out.dig x (List.mem_of_getElem? hx)
        have b1 : (0 : Int) ≤ (i : Int) := by omega
        have b2 : (i : Int) < (m : Int) + 1 := by omega
        have wi : IntKind.i64.wrap ((i : Int) + 1) = ((i + 1 : Nat) : Int) := by rw [IntWalk.i64_in _ ⟨by omega, by omega⟩]; omega
        obtain ⟨X0, hX0⟩ : ∃ s, numB x = s := ⟨_, rfl⟩
        rw [hX0] at hc2
        have HX0 := hid hX0; have HGD := hid hgd
        by_cases h0 : x = 0
        · have e0 : X0 = ⟨#[48]⟩ := by rw [← hX0, h0, numB_zero]
          subst e0
          have eD : Hid (exD (H := Unit) ws ws.sum (i + 1) = exD ws ws.sum i) := by show exD ws ws.sum (i + 1) = _; rw [exD, if_neg (by rw [hgd, h0]; simp)]
          clear hX0 hgd h0 hx hc' hg'
          go_wp2_with fail
          go_roundw
          case rel => exact ⟨i + 1, rfl, by omega, by rw [eD.out]; exact hM.out.mono (Nat.le_succ _), hW⟩
          case measure => simp [intOf] <;> omega
        · have hne := ne_lit (show ¬ X0 = ⟨[48].toArray⟩ by rw [← hX0, ← numB_zero]; exact numB_ne h0)
          have eD : Hid (exD (H := Unit) ws ws.sum (i + 1) = (exD ws ws.sum i).put (.string (numB i).data.toList) (.lit (.string (shB x ws.sum).data.toList))) := by show exD ws ws.sum (i + 1) = _; rw [exD, if_pos (by rw [hgd]; exact h0), hgd]
          have nS := HWS.out.sum
          have C1 := fun V hV => hid (s_Itoa V i (by omega) hV)
          have C2 := fun V hV => hid (pk_make V x ws.sum (by omega) (by omega) (by have := HPOS.out; omega) hV)
          obtain ⟨I0, hI0⟩ : ∃ s, numB i = s := ⟨_, rfl⟩
          obtain ⟨J0, hJ0⟩ : ∃ s, shB x ws.sum = s := ⟨_, rfl⟩
          obtain ⟨oe, hoe⟩ : ∃ s, outE (qmk false x ws.sum) = s := ⟨_, rfl⟩
          rw [hI0] at C1
          rw [hX0, HS0.out, hJ0, hoe] at C2
          have HI0 := hid hI0; have HJ0 := hid hJ0
          have e1 : IntKind.i64.wrap (((m + 1 : Nat) : Int) - 1) = (m : Int) := by rw [IntWalk.i64_in _ ⟨by omega, by omega⟩]; omega
          have e2 : IntKind.i64.wrap ((m : Int) + 1 - 1) = (m : Int) := by rw [IntWalk.i64_in _ ⟨by omega, by omega⟩]; omega
          have e3 : IntKind.i64.wrap (m : Int) = (m : Int) := by rw [IntWalk.i64_in _ ⟨by omega, by omega⟩]
          have b3 : (0 : Int) ≤ (m : Int) := by omega
          have b4 : (m : Int) < (m : Int) + 1 := by omega
          have KK : Hid (∀ w', Below w2.heap.size w2 w' → w'.cell? ⟨g, o + m, none⟩ = some (.string S0)) := fun w' hb => (hb.cell (p := ⟨g, o + m, none⟩) HG.out).trans HC.out
          clear hX0 hgd h0 hx hc' hg' hI0 hJ0 hoe nS
          go_wp2_with fail
          refine held_plain [0, 1, 3, 4, 5, 6, 7, 8, 9] 6 (fun w' => w'.cell? ⟨g, o + m, none⟩ = some (.string S0)) (by kernel_rfl) (by kernel_rfl) (by kernel_rfl) (by kernel_rfl) (KK.out _ hW.out.drew) ?_
          iterate 9
            refine ⟨_, rfl, ?_⟩
            apply Exists.intro
            refine ⟨.inl ⟨by rfl, ?_⟩, ?_⟩
            · (intro W' hW'; obtain q9 := hW'; go_simp; try (with_reducible rfl))
            (dsimp only [Act.put]; try simp only [List.setIfInBounds_toArray, List.set_cons_zero, List.set_cons_succ])
          refine held_one (i := 2) (by kernel_rfl) (by rfl) (by rfl) ?_
          go_wp2_with fail
          refine (C1 _ (HL.out.call yr.out.drew)).out.mono ?_; rintro e w4 ⟨rfl, hb4⟩
          have x4 := hid (show Below wr.heap.size wr w4 from (Below.refl _ _).drew.trans hb4)
          clear hb4
          go_wp2_with fail
          refine ⟨KK.out _ (hW.out.trans (x4.out.mono hW.out.size)), ?_⟩
          refine held_one (i := 10) (by kernel_rfl) (by rfl) (by rfl) ?_
          go_wp2_with fail
          refine (C2 _ (HL.out.call (bnext yr.out x4.out))).out.mono ?_; rintro e w5 ⟨rfl, hb5⟩
          have x5 := hid (bnext x4.out hb5)
          clear hb5
          go_wp2_with fail
          refine ⟨KK.out _ (hW.out.trans (x5.out.mono hW.out.size)), ?_⟩
          refine held_more (is := [11, 12, 13]) (g := 1) (by kernel_rfl) rfl (KK.out _ (hW.out.trans (x5.out.mono hW.out.size))) (by kernel_rfl) ?_
          iterate 3
            refine ⟨_, rfl, ?_⟩
            apply Exists.intro
            refine ⟨.inl ⟨by rfl, ?_⟩, ?_⟩
            · (intro W' hW'; obtain q9 := hW'; go_simp; try (with_reducible rfl))
            (dsimp only [Act.put]; try simp only [List.setIfInBounds_toArray, List.set_cons_zero, List.set_cons_succ])
          refine held_one (i := 14) (by kernel_rfl) (by rfl) (by rfl) ?_
          have hIs : I0.size ≤ maxLen := by rw [← HI0.out, numB_size]; have := nDigits_le (n := i) (k := 2) (by omega) (by omega); unfold maxLen; omega
          have hJs : J0.size ≤ maxLen := by rw [← HJ0.out]; exact shB_size _ _
          refine wpList_mapUpdate_own _ rfl _ _ _ 95 rfl 9 22 lawKeyed Tryz.underlying95 _ B i _ rfl (hM.out.kept (row := none) ⟨x5.out.os, x5.out.tape, x5.out.output, x5.out.size, fun k hk _ => x5.out.block k hk⟩ (by simp)) (by unfold maxLen; omega) _ _ _ rfl rfl (Go.WideMaps.keyOf_string_mk Tryz.underlying9 hIs) _ [] (plainElem_string Tryz.underlying22 hJs) ?_
          intro w15 hown hgrow
          have UM := hid hown
          have UB := hid (below_gb (hW.out.trans (x5.out.mono hW.out.size)) (by have := hW.out.size; have := x5.out.size; omega) hgrow (by have := HB.out; omega))
          have m0 := KK.out _ UB.out
          clear hown hgrow
          go_wp2_with fail
          refine ⟨m0, ?_⟩
          refine wpAnyH_done (by kernel_rfl) ?_ _
          simp only [Only]
          go_wp2_with fail
          go_roundw
          case rel => exact ⟨i + 1, rfl, by omega, by rw [eD.out, HI0.out, HJ0.out]; exact UM, UB⟩
          case measure => simp [intOf] <;> omega
      · obtain rfl : i = m + 1 := by omega
        have q1 : decide (((m + 1 : Nat) : Int) < ((m + 1 : Nat) : Int)) = false := by simp
        have Q := hid (p_listed _ B _ _ _ hM.out (reads_exD ws ws.sum (m + 1)) (by have := exL_length ws ws.sum (m + 1); omega) (exL_keys (by omega)))
        clear hlt
        go_wp2_with fail
        refine Q.out.mono ?_; rintro e w6 ⟨⟨u, rfl, hu⟩, hb6⟩
        have U6 := hid hu
        have y6 := hid (bnext yr.out hb6)
        clear hu hb6
        go_wp2_with fail
        go_ret2
        exact ⟨⟨_, rfl, U6.out⟩, y6.out⟩
  · have er : exR l = [] := by rw [exR, if_neg he]
    rw [er]
    obtain ⟨a, c, rfl, -⟩ := hv.openS
    obtain ⟨z, hz⟩ : ∃ z, wsE l = z := ⟨_, rfl⟩
    rw [hz] at PC he ⊢
    have q0 : (z != 0) = true := by simpa using he
    clear hv hl hL er he hz
    go_enter Tryz.func32, Tryz.ntmps32
    go_wp2_with fail
    refine PC.out.mono ?_; rintro e w1 ⟨rfl, hb1⟩
    go_wp2_with fail
    go_ret2
    exact ⟨⟨_, rfl, MRow.nil _⟩, hb1⟩
end Go.Proofs.YtpheklgnmbpobaaGreatDoor
namespace Go.Proofs.YtpheklgnmbpobaaGreatDoor
open Go.RowKit
open Go.Lib (decDigits nDigits)
set_option linter.unusedVariables false
structure Dig (K : Nat) (q : Rat) : Prop where
  n : q.num.natAbs < 10 ^ K
  d : q.den < 10 ^ K
theorem Dig.fits {K : Nat} {q : Rat} (h : Dig K q) (h0 : 0 < K) (hk : K ≤ 4000) : ¬ ovQ q := by
  unfold ovQ
  have h1 := nDigits_le h0 h.n
  have h2 := nDigits_le h0 h.d
  omega
theorem dig_mk {K : Nat} {z : Int} {d : Nat} (hd : 0 < d) (h1 : z.natAbs < 10 ^ K) (h2 : d < 10 ^ K) : Dig K (mkRat z d) := by
  refine ⟨?_, ?_⟩
  · rw [Rat.num_mkRat, if_neg (by omega)]
    exact Nat.lt_of_le_of_lt (Int.natAbs_ediv_le_natAbs _ _) h1
  · rw [Rat.den_mkRat, if_neg (by omega)]
    exact Nat.lt_of_le_of_lt (Nat.div_le_self _ _) h2
def t1 : ByteArray := ⟨#[49]⟩
theorem outB_fits {q : Rat} (h : ¬ ovQ q) : outB q = txQ q := if_neg h
theorem outE_fits {q : Rat} (h : ¬ ovQ q) : outE q = 0 := if_neg h
end Go.Proofs.YtpheklgnmbpobaaGreatDoor
namespace Go.Proofs.YtpheklgnmbpobaaGreatDoor
open Go.RowKit
open Go.Lib (decDigits nDigits)
set_option linter.unusedVariables false
theorem qmk_nat (a b : Nat) : qmk false a b = mkRat (a : Int) b := by unfold qmk sgn; rfl
theorem dig_frac {K : Nat} {z : Int} {d : Nat} (hd : d ≠ 0) (h1 : nDigits z.natAbs ≤ K) (h2 : nDigits d ≤ K) : Dig K (mkRat z d) :=
  dig_mk (Nat.pos_of_ne_zero hd) (Nat.lt_of_lt_of_le (Go.Lib.lt_pow_nDigits _) (Nat.pow_le_pow_right (by omega) h1)) (Nat.lt_of_lt_of_le (Go.Lib.lt_pow_nDigits _) (Nat.pow_le_pow_right (by omega) h2))
theorem shB_tx {a b : Nat} (hb : b ≠ 0) (h1 : nDigits a ≤ 4000) (h2 : nDigits b ≤ 4000) : shB a b = txQ (mkRat (a : Int) b) := by
  unfold shB
  rw [qmk_nat]
  exact outB_fits ((dig_frac hb (by simpa using h1) h2).fits (by omega) (by omega))
end Go.Proofs.YtpheklgnmbpobaaGreatDoor
namespace Go.Proofs.YtpheklgnmbpobaaGreatDoor
open Go.RowKit Go.Shelf
open Go.Lib (decDigits nDigits)
set_option linter.unusedVariables false
set_option linter.unusedSimpArgs false
theorem numB_inj {i j : Nat} (h : numB i = numB j) : i = j := by rw [← bN_num i, h, bN_num]
end Go.Proofs.YtpheklgnmbpobaaGreatDoor
namespace Go.Proofs.YtpheklgnmbpobaaGreatDoor
open Go.RowKit
open Go.Lib (decDigits nDigits)
set_option linter.unusedVariables false
set_option linter.unusedSimpArgs false
def zB (v : Int) : ByteArray := ⟨(Lib.itoa v).toArray⟩
theorem zB_list (v : Int) : (zB v).data.toList = Lib.itoa v := by simp [zB]
theorem zB_nat (n : Nat) : zB (n : Int) = numB n := by
  unfold zB numB
  rw [Lib.itoa_nonneg]
theorem decDigits_inj {a b : Nat} (h : decDigits a = decDigits b) : a = b := by
  have : numB a = numB b := by unfold numB; rw [h]
  exact numB_inj this
theorem zdec_head (n : Nat) (r : List UInt8) : decDigits n ≠ 45 :: r := fun h => by
  have := minus_dec n
  rw [h] at this
  simp [Lib.hasPrefix] at this
theorem zB_inj {v w : Int} (h : zB v = zB w) : v = w := by
  have h1 : Lib.itoa v = Lib.itoa w := by rw [← zB_list, ← zB_list, h]
  unfold Lib.itoa at h1
  split at h1 <;> split at h1
  · rename_i a b
    have := decDigits_inj (List.cons.inj h1).2
    omega
  · rename_i a b
    exact absurd h1.symm (zdec_head _ _)
  · rename_i a b
    exact absurd h1 (zdec_head _ _)
  · rename_i a b
    have := decDigits_inj h1
    omega
theorem zB_late (v : Int) : (zB v).data.toList ≠ lateB.data.toList := fun h => by
  rw [zB_list] at h
  unfold Lib.itoa at h
  split at h
  · have := congrArg List.head? h
    simp [lateB] at this
  · have h2 := numB_late v.toNat
    rw [numB_list] at h2
    exact h2 h
theorem sortM_same {L M : List (ByteArray × ByteArray)} (h1 : (L.map keyL).Nodup) (h2 : (M.map keyL).Nodup) (h : ∀ p, p ∈ L ↔ p ∈ M) : sortM L = sortM M := by
  have n1 : L.Nodup := List.Pairwise.of_map keyL (fun a b h e => h (congrArg keyL e)) h1
  have n2 : M.Nodup := List.Pairwise.of_map keyL (fun a b h e => h (congrArg keyL e)) h2
  have hp : L.Perm M := (List.perm_ext_iff_of_nodup n1 n2).2 h
  have hs : (sortM L).Perm (sortM M) := ((List.mergeSort_perm L _).trans hp).trans (List.mergeSort_perm M _).symm
  refine List.Perm.eq_of_pairwise (le := fun p q => leB (keyL p) (keyL q) = true) ?_ (sortM_sorted _) (sortM_sorted _) hs
  intro a b ha hb hab hba
  simp only [leB, decide_eq_true_eq] at hab hba
  have e : keyL a = keyL b := List.le_antisymm hab hba
  have hb2 : b ∈ L := (h b).2 (sortM_mem.1 hb)
  have ha2 : a ∈ L := sortM_mem.1 ha
  obtain ⟨i, hi, rfl⟩ := List.getElem_of_mem ha2
  obtain ⟨j, hj, rfl⟩ := List.getElem_of_mem hb2
  have hij : i = j := by
    rcases Nat.lt_trichotomy i j with h3 | h3 | h3
    · have := List.pairwise_iff_getElem.1 h1 i j (by simpa using hi) (by simpa using hj) h3
      simp only [List.getElem_map, ne_eq] at this
      exact absurd e this
    · exact h3
    · have := List.pairwise_iff_getElem.1 h1 j i (by simpa using hj) (by simpa using hi) h3
      simp only [List.getElem_map, ne_eq] at this
      exact absurd e.symm this
  subst hij
  rfl
end Go.Proofs.YtpheklgnmbpobaaGreatDoor
namespace Go.Proofs.YtpheklgnmbpobaaGreatDoor
open Go.RowKit
open Go.Lib (decDigits nDigits)
set_option linter.unusedVariables false
set_option linter.unusedSimpArgs false
def beN (N D t k : Nat) : Nat := N ^ (k * k) * D ^ (t * t - k * k)
def beD (t j : Nat) : Nat := if j ≤ t then t - j else j - t
def beL (N D t : Nat) : List Nat := (List.range (2 * t + 1)).map fun j => beN N D t (beD t j)
def beE (q : ByteArray) (t : Int) : Int :=
  if qE q ≠ 0 then qE q else if cW q = ⟨#[48]⟩ ∨ iM (cW q) = true ∨ bN (qD q) < bN (cW q) ∨ t < 0 ∨ 16 < t then 2
  else if (List.range (t.toNat + 1)).any (fun k => decide (3800 < nDigits (beN (bN (cW q)) (bN (qD q)) t.toNat k))) = true then 5 else 0
def beW (q : ByteArray) (t : Int) : List ByteArray := if beE q t = 0 then (beL (bN (cW q)) (bN (qD q)) t.toNat).map numB else []
theorem beD_le {t j : Nat} (h : j ≤ 2 * t) : beD t j ≤ t := by unfold beD; split <;> omega
theorem beL_len (N D t : Nat) : (beL N D t).length = 2 * t + 1 := by simp [beL]
theorem beL_get {N D t j : Nat} (h : j < 2 * t + 1) : (beL N D t)[j]? = some (beN N D t (beD t j)) := by
  unfold beL
  rw [List.getElem?_map, List.getElem?_range h]; rfl
theorem beL_getD {N D t j : Nat} (h : j < 2 * t + 1) : (beL N D t).getD j 0 = beN N D t (beD t j) := by
  rw [List.getD_eq_getElem?_getD, beL_get h]; rfl
theorem beN_pos {N D : Nat} (hN : 0 < N) (hD : 0 < D) (t k : Nat) : 0 < beN N D t k := Nat.mul_pos (Nat.pow_pos hN) (Nat.pow_pos hD)
structure BeOk (q : ByteArray) (t N D : Nat) : Prop where
  t16 : t ≤ 16
  nn : cW q = numB N
  dd : qD q = numB D
  n0 : 0 < N
  nd : N ≤ D
  dig : ∀ k, k ≤ t → nDigits (beN N D t k) ≤ 3800
theorem whole_is {q : ByteArray} (h : qE q = 0) (hm : iM (cW q) = false) : cW q = numB (bN (cW q)) ∧ qD q = numB (bN (qD q)) ∧ 0 < bN (qD q) ∧ nDigits (bN (cW q)) ≤ 4000 ∧ nDigits (bN (qD q)) ≤ 4000 := by
  obtain ⟨v1, v2, -, v4, v5, -⟩ := valid h
  rw [iD_plain hm] at v4
  have h1 := (qE_zero h).1
  have hW := iB_form (qB_whole h1)
  rw [iD_plain hm] at hW
  exact ⟨numB_of hW, numB_of (qB_below h1), v2, v4, v5⟩
theorem beE_ok {q : ByteArray} {t : Int} (h : beE q t = 0) : ∃ m : Nat, t = (m : Nat) ∧ BeOk q m (bN (cW q)) (bN (qD q)) := by
  unfold beE at h
  split at h
  · rename_i h1; exact absurd h h1
  · rename_i h1
    have hq : qE q = 0 := by simpa using h1
    split at h
    · cases h
    · rename_i h2
      split at h
      · cases h
      · rename_i h3
        have hm : iM (cW q) = false := by
          cases e : iM (cW q)
          · rfl
          · exact absurd (.inr (.inl e)) h2
        obtain ⟨w1, w2, w3, w4, w5⟩ := whole_is hq hm
        have t0 : ¬ t < 0 := fun e => h2 (.inr (.inr (.inr (.inl e))))
        have t16 : ¬ 16 < t := fun e => h2 (.inr (.inr (.inr (.inr e))))
        have nd : ¬ bN (qD q) < bN (cW q) := fun e => h2 (.inr (.inr (.inl e)))
        refine ⟨t.toNat, by omega, by omega, w1, w2, ?_, by omega, fun k hk => ?_⟩
        · rcases Nat.eq_zero_or_pos (bN (cW q)) with e | e
          · exact absurd (.inl (by rw [w1, e, numB_zero])) h2
          · exact e
        · refine Nat.le_of_not_lt fun hlt => h3 ?_
          rw [List.any_eq_true]
          exact ⟨k, List.mem_range.2 (by omega), by simpa using hlt⟩
theorem beW_is {q : ByteArray} {t : Int} (h : beE q t = 0) : beW q t = (beL (bN (cW q)) (bN (qD q)) t.toNat).map numB := by unfold beW; rw [if_pos h]
section
variable {q : ByteArray} {t N D : Nat} (h : BeOk q t N D)
include h
theorem BeOk.mem {x : Nat} (hx : x ∈ beL N D t) : 0 < x ∧ nDigits x ≤ 3800 := by
  unfold beL at hx
  obtain ⟨j, hj, rfl⟩ := List.mem_map.1 hx
  rw [List.mem_range] at hj
  exact ⟨beN_pos h.n0 (Nat.lt_of_lt_of_le h.n0 h.nd) _ _, h.dig _ (beD_le (by omega))⟩
theorem BeOk.wsE : wsE ((beL N D t).map numB) = 0 := by
  have hw : ∀ l : List Nat, (∀ x ∈ l, nDigits x ≤ 3800) → wtE (l.map numB) = 0 := by
    intro l
    induction l with
    | nil => intro _; rfl
    | cons x r ih =>
      intro hl
      have hx := hl x List.mem_cons_self
      rw [List.map_cons, wtE, if_neg (by rw [errN_numB (by omega)]; simp), if_neg (by rw [numB_size]; omega)]
      exact ih fun y hy => hl y (List.mem_cons_of_mem _ hy)
  have e1 := hw (beL N D t) fun x hx => (h.mem hx).2
  have := h.t16
  have hl : ((beL N D t).map numB).length = 2 * t + 1 := by rw [List.length_map, beL_len]
  unfold Go.Proofs.YtpheklgnmbpobaaGreatDoor.wsE
  rw [if_neg (by omega), if_neg (by rw [e1]; simp), if_pos]
  rw [List.any_eq_true]
  refine ⟨numB (beN N D t (beD t 0)), List.mem_map_of_mem (List.mem_of_getElem? (beL_get (by omega))), ?_⟩
  rw [decide_eq_true_iff, ← numB_zero]
  have := (h.mem (List.mem_of_getElem? (beL_get (N := N) (D := D) (t := t) (j := 0) (by omega)))).1
  exact numB_ne (by omega)
omit h in
theorem map_bN (l : List Nat) : (l.map numB).map bN = l := by
  rw [List.map_map]
  have : (bN ∘ numB) = id := by funext x; exact bN_num x
  rw [this, List.map_id]
theorem BeOk.sum : 0 < (beL N D t).sum := by
  have hx := (h.mem (List.mem_of_getElem? (beL_get (N := N) (D := D) (t := t) (j := 0) (by omega)))).1
  have hl : beL N D t = beN N D t (beD t 0) :: (beL N D t).tail := by
    have e := beL_get (N := N) (D := D) (t := t) (j := 0) (by omega)
    cases hb : beL N D t with
    | nil => rw [hb] at e; cases e
    | cons a r => rw [hb] at e; simp at e; rw [e]; rfl
  rw [hl, List.sum_cons]; omega
theorem BeOk.size {x : ByteArray} (hx : x ∈ (beL N D t).map numB) : x.size ≤ 1000000 := by
  obtain ⟨y, hy, rfl⟩ := List.mem_map.1 hx
  have := (h.mem hy).2
  rw [numB_size]; omega
theorem BeOk.ok : WsOk (beL N D t) := ⟨by rw [beL_len]; have := h.t16; omega, fun x hx => (h.mem hx).2⟩
end
def pwT (A i : Nat) : ByteArray := if nDigits (A ^ i) ≤ 4000 then numB (A ^ i) else ⟨#[]⟩
theorem pwT_zero (A : Nat) : pwT A 0 = ⟨#[49]⟩ := by
  unfold pwT
  rw [Nat.pow_zero, if_pos (by rw [nDigits_one]; omega), numB_one]
theorem pwT_next {A i : Nat} (hA : 0 < A) (hd : nDigits A ≤ 4000) : natB (· * ·) (pwT A i) (numB A) = pwT A (i + 1) := by
  unfold pwT
  by_cases h : nDigits (A ^ i) ≤ 4000
  · rw [if_pos h]
    unfold natB pairB
    rw [if_pos ⟨errN_numB h, errN_numB hd⟩, bN_num, bN_num]
    unfold resB
    show (if 4000 < nDigits (A ^ i * A) then ⟨#[]⟩ else numB (A ^ i * A)) = _
    rw [← Nat.pow_succ, Nat.succ_eq_add_one]
    by_cases h2 : nDigits (A ^ (i + 1)) ≤ 4000
    · rw [if_pos h2, if_neg (by omega)]
    · rw [if_neg h2, if_pos (by omega)]
  · have h2 : ¬ nDigits (A ^ (i + 1)) ≤ 4000 := fun e => h (Nat.le_trans (nDigits_mono (Nat.pow_le_pow_right hA (by omega))) e)
    rw [if_neg h, if_neg h2]
    unfold natB pairB
    rw [if_neg]
    rintro ⟨e, -⟩
    exact absurd e (by decide)
def shP (t : Int) (p : ByteArray × ByteArray) : ByteArray × ByteArray := if p.1 = lateB then p else (zB ((bN p.1 : Nat) - t), p.2)
def ShOk (L : List (ByteArray × ByteArray)) : Prop := ∀ p ∈ L, p.1 = lateB ∨ ∃ i : Nat, i ≤ 1000 ∧ p.1 = numB i
theorem numB_nl (i : Nat) : numB i ≠ lateB := fun e => numB_late i (by rw [e])
theorem shP_key {L : List (ByteArray × ByteArray)} {t : Int} (h : ShOk L) (hn : (L.map keyL).Nodup) : ((L.map (shP t)).map keyL).Nodup := by
  rw [List.map_map, List.Nodup, List.pairwise_map]
  rw [List.Nodup, List.pairwise_map] at hn
  refine List.Pairwise.imp_of_mem ?_ hn
  intro a b ha hb hne e
  refine hne ?_
  have e' : (shP t a).1 = (shP t b).1 := ba_ext e
  unfold shP at e'
  have key : a.1 = b.1 := by
    rcases h a ha with ea | ⟨i, -, ea⟩ <;> rcases h b hb with eb | ⟨j, -, eb⟩
    · rw [ea, eb]
    · rw [if_pos ea, ea, if_neg (by rw [eb]; exact numB_nl j)] at e'
      exact absurd (congrArg (fun x : ByteArray => x.data.toList) e'.symm) (zB_late ((bN b.1 : Nat) - t))
    · rw [if_pos eb, eb, if_neg (by rw [ea]; exact numB_nl i)] at e'
      exact absurd (congrArg (fun x : ByteArray => x.data.toList) e') (zB_late ((bN a.1 : Nat) - t))
    · rw [if_neg (by rw [ea]; exact numB_nl i), if_neg (by rw [eb]; exact numB_nl j), ea, eb, bN_num, bN_num] at e'
      have := zB_inj e'
      rw [ea, eb, show i = j by omega]
  unfold keyL
  rw [key]
theorem sortM_map {L : List (ByteArray × ByteArray)} {t : Int} (h : ShOk L) (hn : (L.map keyL).Nodup) : sortM ((sortM L).map (shP t)) = sortM (L.map (shP t)) := by
  have hs : ShOk (sortM L) := fun p hp => h p (sortM_mem.1 hp)
  have hn2 : ((sortM L).map keyL).Nodup := (List.Perm.nodup_iff ((List.mergeSort_perm L _).map keyL)).2 hn
  refine sortM_same (shP_key hs hn2) (shP_key h hn) fun p => ?_
  rw [List.mem_map, List.mem_map]
  exact ⟨fun ⟨x, hx, e⟩ => ⟨x, sortM_mem.1 hx, e⟩, fun ⟨x, hx, e⟩ => ⟨x, sortM_mem.2 hx, e⟩⟩
end Go.Proofs.YtpheklgnmbpobaaGreatDoor
namespace Go.Proofs.YtpheklgnmbpobaaGreatDoor
open Go.RowKit
def FeedsB {α : Type} (M n : Nat) (P : Program) (g : Nat) (lb : Array Value) (encs : α → Array Value) (Kp : World → World → Prop) (Ok : List α → α → Prop) (S Sp : List α → Prop) (w : World) : Prop :=
  ∀ (l : Nat) (J Jx : List α → World → Prop) (W : World), Below w.heap.size w W → AbidesFrom W.heap.size J → AbidesFrom W.heap.size Jx →
    (∀ pre x W1, Ok pre x → J pre W1 → YieldAt Fence.wide (n - 1) P l (encs x) W1 fun e W2 =>
      (e = .returned (.bool true) ∧ J (pre ++ [x]) W2 ∧ Kp W1 W2) ∨ (e = .returned (.bool false) ∧ Jx (pre ++ [x]) W2)) →
    (∀ pre W1, J pre W1 → pre.length ≤ M) →
    J [] W →
    CallsIn Fence.wide n P g (#[.func (.yield l) #[] #[]] ++ lb) W fun e W2 => (∃ v, e = .returned v) ∧ ((∃ xs, S xs ∧ J xs W2) ∨ (∃ pre, Sp pre ∧ Jx pre W2))
theorem range_okB {α : Type} {P : Program} {n : Nat} {g : Operand} {ps : Array Tmp} {assign body : Code} {Q : Exit → Act → World → Prop} {a : Act} {w : World} (h1 : 1 ≤ n)
    {gf : Nat} {lb : Array Value} (hg : a.eval g = .func (.func gf) #[] lb) (eg : ∀ args w, (callFunc gf args).run P w = .ok (.enter gf args) w)
    {encs : α → Array Value} {Kp : World → World → Prop} {Ok : List α → α → Prop} {S Sp : List α → Prop} {w0 : World} {M : Nat} (hseq : FeedsB M (n - 1) P gf lb encs Kp Ok S Sp w0)
    (hKt : ∀ {A B C : World}, Kp A B → Kp B C → Kp A C) (hKb : ∀ (W : World) (l : Nat) (o o2 : Obj), w.heap.size ≤ l → W.heap[l]? = some o → o.isCells = false → o.isWalk = false → Kp W (W.putObj l o2)) (hb0 : Below w0.heap.size w0 w) (hps : ∀ x, (encs x).size = ps.size)
    (I : List α → World → Prop) (Ix : Code → List α → World → Prop) (hI : OwnFrom w.heap.size I) (hIx : ∀ c, OwnFrom w.heap.size (Ix c)) (h0 : I [] w) (hM : ∀ pre W, I pre W → pre.length ≤ M) (a1 : α → Act)
    (hassign : ∀ (l : Nat) (x : α) (W : World) (K : Act → World → Prop), K (a1 x) W →
      assign.wpIn (Fence.wide.inRound l) (n - 1 - 1) P (Exit.then K (fun _ _ _ => False)) { tmps := (ps.zip (encs x)).foldl (fun t (p, v) => t.setIfInBounds p v) a.tmps, defers := [] } W)
    (hbody : ∀ (l : Nat) (pre : List α) (x : α) (W : World), Ok pre x → I pre W → body.wpIn (Fence.wide.inRound l) (n - 1 - 1) P (ownPostG w.heap.size Kp I Ix (pre ++ [x]) W) (a1 x) W)
    (hdone : ∀ (D : Nat) (xs : List α) (W : World), w.heap.size ≤ D → S xs → I xs W → W.heap[D]? = some (.deferred (some [])) → Q .normal { a with defers := { target := .collected D, args := #[] } :: a.defers } W)
    (hstop : ∀ (D : Nat) (c : Code) (pre : List α) (W : World), w.heap.size ≤ D → Sp pre → Ix c pre W → W.heap[D]? = some (.deferred (some [])) → c.wpIn Fence.wide n P Q { a with defers := { target := .collected D, args := #[] } :: a.defers } W) :
    (Code.rangeFunc g ps assign body).wpIn Fence.wide n P Q a w := by
  refine wpIn_rangeFunc fun fn hfn => ?_
  obtain ⟨R, hR⟩ : ∃ R : LoopState → Option Code → Loop, ∀ s p, R s p = { state := s, pending := p, fn, tmps := a.tmps, params := ps, assign, body, defers := w.heap.size } := ⟨_, fun _ _ => rfl⟩
  have hs : ∀ s p, (R s p).state = s := fun s p => by rw [hR]
  obtain ⟨W1, e1⟩ : ∃ W1, W1 = (w.alloc (.deferred (some []))).alloc (.loop (R .ready none)) := ⟨_, rfl⟩
  have z1 : w.heap.size ≤ W1.heap.size := by rw [e1]; simp; omega
  have k1 : Kept w.heap.size (R .ready none) W1 := by
    rw [e1]
    refine ⟨?_, (Below.heap_alloc _ _ _ (by simp)).trans (World.alloc_heap_new w _)⟩
    have := World.alloc_heap_new (w.alloc (.deferred (some []))) (.loop (R .ready none))
    rwa [World.size_alloc] at this
  have i1 : I [] W1 := by rw [e1]; exact hI.alloc _ (hI.alloc _ h0)
  have b1 : Below w0.heap.size w0 W1 := by
    have : Below w.heap.size w W1 := by rw [e1]; exact ((Below.refl _ w).alloc (Nat.le_refl _) _).alloc (by simp) _
    exact hb0.trans (this.mono hb0.size)
  refine ⟨w.heap.size + 1, [{ target := .collected w.heap.size, args := #[] }], W1, { target := .fn (.func gf) lb, args := #[.func (.yield (w.heap.size + 1)) #[] #[]] }, W1, gf, #[.func (.yield (w.heap.size + 1)) #[] #[]] ++ lb, W1, ?_, ?_, fun f hf => trivial, ?_, fun _ => h1, ?_⟩
  · have := run_enterLoop_outer (P := P) (w := w) fn a.tmps ps assign body
    rw [e1, hR]; exact this
  · simp only [resolve, hg]
    simp [go_sem]
  · simp [invoke, go_sem, eg]
  · refine (hseq (w.heap.size + 1) (fun pre W => I pre W ∧ Kept w.heap.size (R .ready none) W) (fun pre W => ∃ c, Ix c pre W ∧ Kept w.heap.size (R .done (some c)) W) W1 b1
      (fun s A B row hs hg2 hr => ⟨hI s A B row hs.1 hg2 (fun k e => ?_), hs.2.cells hg2 (fun k e => (hr k e).2)⟩)
      (fun s A B row hs hg2 hr => ?_) (fun pre x W hok hJ => ?_) (fun pre W h => hM pre W h.1) ⟨i1, k1⟩).mono ?_
    · obtain ⟨h2, o, h3, h4⟩ := hr k e
      exact ⟨Nat.le_trans z1 h2, o, h3, Obj.not_cells_of_walk h4⟩
    · obtain ⟨c, hc, hk⟩ := hs
      refine ⟨c, hIx c s A B row hc hg2 (fun k e => ?_), hk.cells hg2 (fun k e => (hr k e).2)⟩
      obtain ⟨h2, o, h3, h4⟩ := hr k e
      exact ⟨Nat.le_trans z1 h2, o, h3, Obj.not_cells_of_walk h4⟩
    · obtain ⟨hi, hk⟩ := hJ
      have hy := run_yield (P := P) (args := encs x) hk.loop (by rw [hR]; exact hps x)
      have kb := hk.put (R .busy none)
      have bg := run_beginRound (P := P) hk.loop (hs _ _)
      rw [show ({ R .ready none with state := .busy } : Loop) = R .busy none by rw [hR, hR]] at bg
      have kk : Kp W (W.putObj (w.heap.size + 1) (.loop (R .busy none))) := hKb _ _ _ _ (by omega) hk.loop rfl rfl
      rw [hR] at hy
      refine ⟨fn, _, assign, body, hy, roundIn_of_wpIn hfn (hassign _ x W _ ⟨_, bg, ?_⟩)⟩
      refine wpIn_mono (hbody _ pre x _ hok (own_put hI hk (Nat.le_refl _) hi _)) ?_
      have fin : ∀ (j : Option Code) (W3 : World), Kept w.heap.size (R .busy none) W3 → (Instr.endRound (w.heap.size + 1) j).run P W3 = .ok (.bool j.isNone) (W3.putObj (w.heap.size + 1) (.loop (R (if j.isNone then .ready else .done) j))) := fun j W3 h3 => by
        have := run_endRound (P := P) j h3.loop
        rw [this, hR, hR]
      rintro e a3 W3 hp
      cases e with
      | normal =>
        obtain ⟨p1, p2, p3⟩ := hp
        have k3 := kb.from p1 (Nat.le_refl _)
        exact ⟨_, _, fin none W3 k3, .inl ⟨rfl, ⟨own_put hI k3 (Nat.le_refl _) p3 _, k3.put _⟩, hKt (hKt kk p2) (hKb _ _ _ _ (by omega) k3.loop rfl rfl)⟩⟩
      | ret =>
        have k3 := kb.from hp.1 (Nat.le_refl _)
        exact ⟨_, _, fin (some .ret) W3 k3, .inr ⟨rfl, .ret, own_put (hIx _) k3 (Nat.le_refl _) hp.2 _, k3.put _⟩⟩
      | exit id =>
        have k3 := kb.from hp.1 (Nat.le_refl _)
        exact ⟨_, _, fin (some (.exit id)) W3 k3, .inr ⟨rfl, .exit id, own_put (hIx _) k3 (Nat.le_refl _) hp.2 _, k3.put _⟩⟩
      | goto t =>
        have k3 := kb.from hp.1 (Nat.le_refl _)
        exact ⟨_, _, fin (some (.goto t)) W3 k3, .inr ⟨rfl, .goto t, own_put (hIx _) k3 (Nat.le_refl _) hp.2 _, k3.put _⟩⟩
      | panic ch => exact hp.elim
      | outgrown => exact hp.elim
    · have en : ∀ {s p W2}, Kept w.heap.size (R s p) W2 → s ≠ .busy → (Instr.endLoop (w.heap.size + 1)).run P W2 = .ok p (W2.putObj (w.heap.size + 1) (.loop (R .exhausted p))) := fun {s p W2} h2 hne => by
        have := run_endLoop (P := P) h2.loop (by rw [hs]; exact hne)
        rw [this, hR, hR]
      rintro e W2 ⟨⟨v, rfl⟩, ⟨xs, hS, hi, hk⟩ | ⟨pre, hSp, c, hi, hk⟩⟩
      · exact ⟨none, _, en hk (by simp), hdone _ xs _ (Nat.le_refl _) hS (own_put hI hk (Nat.le_refl _) hi _) (hk.put (R .exhausted none)).calls⟩
      · exact ⟨some c, _, en hk (by simp), hstop _ c pre _ (Nat.le_refl _) hSp (own_put (hIx c) hk (Nat.le_refl _) hi _) (hk.put (R .exhausted (some c))).calls⟩
end Go.Proofs.YtpheklgnmbpobaaGreatDoor
namespace Go.Proofs.YtpheklgnmbpobaaGreatDoor
open Go.RowKit Go.Shelf
open Go.Lib (decDigits nDigits)
set_option linter.unusedVariables false
set_option linter.unusedSimpArgs false
attribute [local go_sem] Oper.semAt_some
def pwL (A n : Nat) : List ByteArray := (List.range n).map (pwT A)
@[simp] theorem pwL_length (A n : Nat) : (pwL A n).length = n := by simp [pwL]
theorem pwL_succ (A n : Nat) : pwL A (n + 1) = pwL A n ++ [pwT A n] := by
  unfold pwL
  rw [List.range_succ, List.map_append]; rfl
theorem pwL_get {A n i : Nat} (h : i < n) : (pwL A n)[i]? = some (pwT A i) := by
  unfold pwL
  rw [List.getElem?_map, List.getElem?_range h]; rfl
theorem pwT_size (A i : Nat) : (pwT A i).size ≤ 4000 := by
  unfold pwT
  split
  · rw [numB_size]; assumption
  · decide
theorem own_keptX {X Y : World} {row : Option Nat} {base : Nat} {e : TypeId} {v : Value} {n : Nat} {xs : List Value} (h : X.ownsRow base e 1 v n xs) (hg : X.grownBy Y row) (hrow : ∀ r, row = some r → ∃ o : Obj, X.heap[r]? = some o ∧ o.isCells = false) : Y.ownsRow base e 1 v n xs := by
  refine h.kept hg ?_
  rcases h.2 with ⟨rfl, _⟩ | ⟨g, cap, cur, rfl, _, hgb, _⟩
  · exact .inl rfl
  · refine .inr fun e' => ?_
    obtain ⟨o, ho, hc⟩ := hrow g (by simpa [Value.ownBlock] using e'.symm)
    rw [hgb] at ho; cases ho; cases hc
theorem own_weak {W : World} {base base' : Nat} {e : TypeId} {k : Nat} {v : Value} {n : Nat} {xs : List Value} (h : W.ownsRow base e k v n xs) (hb : base' ≤ base) : W.ownsRow base' e k v n xs := by
  obtain ⟨h1, h2⟩ := h
  rcases h2 with h2 | ⟨g, cap, cur, a1, a2, a3⟩
  · exact ⟨h1, .inl h2⟩
  · exact ⟨h1, .inr ⟨g, cap, cur, a1, Nat.le_trans hb a2, a3⟩⟩
theorem own_not {W : World} {base b : Nat} {e : TypeId} {k : Nat} {v : Value} {n : Nat} {xs : List Value} (h : W.ownsRow base e k v n xs) (hb : b < base) : some b ≠ v.ownBlock := by
  rcases h.2 with ⟨rfl, _⟩ | ⟨g, cap, cur, rfl, h2, _⟩
  · simp [Value.ownBlock]
  · simp [Value.ownBlock]; omega
set_option maxRecDepth 100000 in
set_option maxHeartbeats 2000000 in
theorem powers_feeds {Kp : World → World → Prop} (M n : Nat) (hn : 1 ≤ n) (w : World) (ba A : Nat) (hA : 0 < A) (hd : nDigits A ≤ 4000) (hKr : ∀ W, Kp W W) (hKt : ∀ {A B C : World}, Kp A B → Kp B C → Kp A C)
    (hread : ∀ W1 W2, Below w.heap.size w W1 → Kp W1 W2 → W2.cell? ⟨ba, 0, none⟩ = some (.string (numB A)) ∧ Lay W2) (hKb : ∀ W1 W2, Below W1.heap.size W1 W2 → Kp W1 W2) :
    FeedsB M n Tryz.prog 139 #[.pointer (some ⟨ba, 0, none⟩)] (fun x : ByteArray => #[.string x]) Kp (fun pre x => x = pwT A pre.length) (fun _ => False) (fun _ => True) w := by
  intro l J Jx W hW hJ hJx hY hM h0
  have HR := hid hread; have HY := hid hY; have HW := hid hW; have HJ := hid hJ; have HM := hid hM
  have HKr := hid hKr; have HKt : Hid (∀ A B C : World, Kp A B → Kp B C → Kp A C) := fun A B C h k => hKt h k
  have HKb := hid hKb
  have PL : ∀ (V : World) (i : Nat), Lay V → Hid (Calls Tryz.prog 38 #[.string (pwT A i), .string (numB A)] V fun e w' => e = .returned (.tuple #[.string (pwT A (i + 1)), .int .i64 (natE ((· * ·)) (pwT A i) (numB A))]) ∧ Below V.heap.size V w') := fun V i hV => by
    have := n_Mul V (pwT A i) (numB A) (by have := pwT_size A i; omega) (by rw [numB_size]; omega) hV
    rw [pwT_next hA hd] at this
    exact this
  obtain ⟨X, hX⟩ : ∃ X, pwT A = X := ⟨_, rfl⟩
  obtain ⟨a, ha⟩ : ∃ a, numB A = a := ⟨_, rfl⟩
  have e0 : (⟨#[49]⟩ : ByteArray) = X 0 := by rw [← hX, pwT_zero]
  have E0 := hid e0
  rw [hX] at HY PL
  rw [ha] at HR PL
  have PLE : Hid (∀ (i : Nat), ∃ z : Int, ∀ V, Lay V → Calls Tryz.prog 38 #[.string (X i), .string a] V fun e w' => e = .returned (.tuple #[.string (X (i + 1)), .int .i64 z]) ∧ Below V.heap.size V w') := fun i => ⟨_, fun V hV => (PL V i hV).out⟩
  clear hread hY hW hJ hJx hKr hKt hM hKb PL hA hd hX ha e0
  refine callsIn_of_wp Tryz.func139 rfl trivial ?_ rfl
  simp only [Tryz.ntmps139, List.size_toArray, List.length_cons, List.length_nil, Nat.reduceAdd, Nat.reduceSub, Array.replicate_succ, Array.replicate_zero, List.push_toArray, List.append_toArray, List.nil_append, List.cons_append]
  gi_wp2
  obtain ⟨RR, hRR⟩ : ∃ RR : Nat → Value → World → Prop, RR = fun k i wr => ∃ pre : List ByteArray, i = .string (X pre.length) ∧ k + pre.length = M ∧ J pre wr ∧ Kp W wr := ⟨_, rfl⟩
  have HRR := hid hRR
  clear hRR
  gi_loopw [3] (fun i wr => ∃ k, RR k i wr) (fun i wr => leastOf (fun k => RR k i wr))
  case atStart => exact ⟨M, by rw [HRR.out]; exact ⟨[], by rw [E0.out]; rfl, by simp, h0, HKr.out W⟩⟩
  case round =>
    obtain ⟨hk, hmin⟩ := leastOf_spec hrel
    obtain ⟨k, hkk⟩ : ∃ k, leastOf (fun k => RR k u3 wr) = k := ⟨_, rfl⟩
    rw [hkk] at hk hmin
    rw [HRR.out] at hk
    obtain ⟨pre, rfl, hlen, hJ, hK⟩ := hk
    have HLEN := hid hlen; have HJw := hid hJ; have HK := hid hK
    have HREL := hid hrel; have HKK := hid hkk
    obtain ⟨i, hi⟩ : ∃ i, pre.length = i := ⟨_, rfl⟩
    have HI := hid hi
    obtain ⟨z, hz⟩ := PLE.out i
    have HZ := hid hz
    rw [hi] at HREL HLEN HKK ⊢
    clear hlen hJ hK hmin hrel hkk hz
    obtain ⟨fn, tmps, assign, body, hy, hR⟩ := HY.out pre (X i) wr (by rw [hi]) HJw.out
    clear hi
    try dsimp only at hy
    have HYR := hid hR
    clear hR
    gi_wp2_with fail
    refine HYR.out.mono ?_
    rintro e W3 (⟨rfl, hJ3, hk3⟩ | ⟨rfl, hJx3⟩)
    · have HJ3 := hid hJ3; have HK3 := hid (HKt.out _ _ _ HK.out hk3)
      obtain ⟨c0, hLay⟩ := HR.out W W3 HW.out HK3.out
      have HLay := hid hLay
      have hM3 := HM.out _ _ hJ3
      rw [List.length_append, List.length_singleton, HI.out] at hM3
      have HM3 := hid hM3
      clear hJ3 hk3 hLay hy hM3
      gi_wp2_with (refine ⟨trivial, ?_⟩; gi_at_call 38; refine (callsIn_wide.2 (HZ.out _ HLay.out)).mono ?_; rintro e W4 ⟨rfl, hb4⟩)
      have HJ4 : Hid (J (pre ++ [X i]) W4) := HJ.out _ W3 W4 none HJ3.out ⟨hb4.os, hb4.tape, hb4.output, hb4.size, fun k hk _ => hb4.block k hk⟩ (fun r e => by cases e)
      have HK4 := hid (HKt.out _ _ _ HK3.out (HKb.out _ _ hb4))
      clear hb4
      have RN := hid (show RR (k - 1) (.string (X (i + 1))) W4 from by
        rw [HRR.out]
        refine ⟨pre ++ [X i], by rw [List.length_append, List.length_singleton, HI.out], ?_, HJ4.out, HK4.out⟩
        rw [List.length_append, List.length_singleton, HI.out]
        have := HLEN.out; have := HM3.out
        omega)
      have HK1 := hid (show 1 ≤ k from by have := HLEN.out; have := HM3.out; omega)
      gi_wp2_with fail
      go_roundw
      case rel => exact ⟨_, RN.out⟩
      case measure =>
        have h1 := (leastOf_spec (p := fun k => RR k (.string (X (i + 1))) W4) ⟨_, RN.out⟩).2 _ RN.out
        have h2 := HKK.out; have h3 := HK1.out
        show leastOf (fun k => RR k (.string (X (i + 1))) W4) < leastOf (fun k => RR k (.string (X i)) wr)
        omega
    · clear hy
      gi_wp2_with fail
      refine bodyPost_end (results_none rfl _ _ _) rfl ?_
      exact ⟨⟨_, rfl⟩, .inr ⟨_, trivial, hJx3⟩⟩
set_option maxRecDepth 100000 in
set_option maxHeartbeats 1000000 in
theorem b_powers (w : World) (a : ByteArray) :
    Calls Tryz.prog 90 #[.string a] w fun e w' => e = .returned (.func (.func 139) #[] #[.pointer (some ⟨w.heap.size, 0, none⟩)]) ∧ w' = w.alloc (.cells #[.string a] 22) := by
  go_enter Tryz.func90, Tryz.ntmps90
  go_wp2_with fail
  go_ret
  exact ⟨rfl, rfl⟩
def TabI (B m : Nat) (a : ByteArray) (X : Nat → List ByteArray) (n : Nat) (W : World) : Prop := ∃ v, Blk W B #[.int .i64 (m : Nat)] 3 ∧ Boxed W (B + 1) 36 v ∧ Blk W (B + 1 + 1) #[.string a] 22 ∧ W.ownsRow (B + 1 + 1 + 1) 22 1 v n (strs (X n))
theorem TabI.keptX {B m n : Nat} {a : ByteArray} {Z : Nat → List ByteArray} {X Y : World} {row : Option Nat} (h : TabI B m a Z n X) (hg : X.grownBy Y row) (hrow : ∀ r, row = some r → ∃ o : Obj, X.heap[r]? = some o ∧ o.isCells = false) : TabI B m a Z n Y := by
  obtain ⟨v, h1, h2, h3, h4⟩ := h
  exact ⟨v, h1.kept hg hrow, (show Blk X (B + 1) #[v] 36 from h2).kept hg hrow, h3.kept hg hrow, own_keptX h4 hg hrow⟩
set_option maxRecDepth 100000 in
set_option maxHeartbeats 4000000 in
theorem b_table (w : World) (A m : Nat) (hA : 0 < A) (hd : nDigits A ≤ 4000) (hm : m ≤ 1000) (hL : Lay w) :
    Calls Tryz.prog 37 #[.string (numB A), .int .i64 (m : Nat)] w fun e w' => (∃ u, e = .returned u ∧ Row w' u (strs (pwL A (m + 1)))) ∧ Below w.heap.size w w' := by
  have HL := hid hL; have HA := hid hA; have HD := hid hd; have HM := hid hm
  have hX1 := hid (fun n => pwL_succ A n)
  have hX2 := hid (fun n => pwL_length A n)
  have hX0 : Hid (pwL A 0 = []) := rfl
  obtain ⟨PL, hPL⟩ : ∃ X, pwL A = X := ⟨_, rfl⟩
  obtain ⟨a, ha⟩ : ∃ a, numB A = a := ⟨_, rfl⟩
  have HAA := hid ha
  rw [hPL] at hX1 hX2 hX0 ⊢
  rw [ha]
  clear hL hA hd hm hPL ha
  refine (callsIn_wide (n := 9)).1 ?_
  refine callsIn_of_wp_marks Tryz.func37 rfl trivial ?_ rfl
  simp only [Tryz.ntmps37, List.size_toArray, List.length_cons, List.length_nil, Nat.reduceAdd, Nat.reduceSub, Array.replicate_succ, Array.replicate_zero, List.push_toArray, List.append_toArray, List.nil_append, List.cons_append]
  gi_wp2_with (refine ⟨trivial, ?_⟩; gi_at_call 90; refine (callsIn_wide.2 (b_powers _ _)).mono ?_; rintro e w' ⟨rfl, rfl⟩)
  obtain ⟨i0, hi, hz0, hz1, hz2⟩ := info_parts info_num
  obtain ⟨W0, hW0⟩ : ∃ W0, ((w.alloc (.cells #[.int .i64 (m : Nat)] 3)).alloc (.cells #[.slice none 0 0] 36)).alloc (.cells #[.string a] 22) = W0 := ⟨_, rfl⟩
  have y0 : Blk W0 w.heap.size #[.int .i64 (m : Nat)] 3 := by rw [← hW0]; exact ((Blk.new w _ _).alloc _).alloc _
  have y1 : Blk W0 (w.heap.size + 1) #[.slice none 0 0] 36 := by rw [← hW0]; exact (Blk.made _ _ _ (by simp)).alloc _
  have y2 : Blk W0 (w.heap.size + 1 + 1) #[.string a] 22 := by rw [← hW0]; exact Blk.made _ _ _ (by simp)
  have b0 : Below w.heap.size w W0 := by rw [← hW0]; exact (((Below.refl _ _).alloc (Nat.le_refl _) _).alloc (by simp) _).alloc (by simp <;> omega) _
  have z0 : W0.heap.size = w.heap.size + 1 + 1 + 1 := by rw [← hW0]; simp
  rw [hW0]
  have Y0 := hid y0; have Y1 := hid y1; have Y2 := hid y2; have HB0 := hid b0; have Z0 := hid z0
  clear y0 y1 y2 b0 z0 hW0
  have hread : ∀ W1 W2, Below W0.heap.size W0 W1 → KpE w.heap.size (w.heap.size + 1 + 1) W1 W2 → W2.cell? ⟨w.heap.size + 1 + 1, 0, none⟩ = some (.string (numB A)) ∧ Lay W2 := fun W1 W2 b1 b2 => by
    have hs := b1.size
    have hz := Z0.out
    obtain ⟨r1, r2⟩ := b2.rest (by omega) (by omega)
    have g1 : Blk W2 (w.heap.size + 1 + 1) #[.string a] 22 := r2.trans (Y2.out.call b1)
    have hb : Below w.heap.size w W2 := (HB0.out.trans (b1.mono (by omega))).trans r1
    exact ⟨by rw [HAA.out]; exact g1.cell 0, HL.out.call hb⟩
  refine range_okB (by omega) (gf := 139) (lb := #[.pointer (some ⟨w.heap.size + 1 + 1, 0, none⟩)]) rfl (enters_of Tryz.func139 (by kernel_rfl) rfl)
    (powers_feeds (Kp := KpE w.heap.size (w.heap.size + 1 + 1)) m 8 (by omega) W0 _ A HA.out HD.out (KpE.refl _ _) KpE.trans hread (fun _ _ => KpE.of_below)) KpE.trans (KpE.put (by have := Z0.out; omega) (by have := Z0.out; omega)) (Below.refl _ _) (fun _ => rfl)
    (fun p W => (p.length ≤ m ∧ TabI w.heap.size m a PL p.length W) ∧ Below w.heap.size w W)
    (fun c p W => (c = .exit 0 ∧ TabI w.heap.size m a PL (m + 1) W) ∧ Below w.heap.size w W)
    (OwnFrom.and (fun s X Y row hs hg hr => ⟨hs.1, hs.2.keptX hg (fun r e => (hr r e).2)⟩) (ownFrom_below (by have := Z0.out; omega) (by have := Z0.out; omega)))
    (fun c => OwnFrom.and (fun s X Y row hs hg hr => ⟨hs.1, hs.2.keptX hg (fun r e => (hr r e).2)⟩) (ownFrom_below (by have := Z0.out; omega) (by have := Z0.out; omega)))
    ⟨⟨Nat.zero_le _, _, Y0.out, Y1.out, Y2.out, by show W0.ownsRow _ _ _ _ 0 (strs (PL 0)); rw [hX0.out]; exact ⟨rfl, .inl ⟨rfl, rfl⟩⟩⟩, HB0.out⟩ (fun p W h => h.1.1) ?act ?assign ?body ?done ?stop
  case assign =>
    intro l x W K hK
    gi_wp2
    exact hK
  case body =>
    rintro l p x W hx ⟨⟨h1, v, hm, hv, ha2, hr⟩, hB⟩
    obtain ⟨a3, c3, rfl⟩ := owns_ex hr
    obtain ⟨i, hi'⟩ : ∃ i, p.length = i := ⟨_, rfl⟩
    rw [hi'] at hx h1 hv hr
    have HI := hid hi'
    have c0 := Boxed.cell hv
    have f0 := Boxed.frozen hv
    have c1 := hm.cell 0
    simp at c1
    have hi3 : i < 2000 := by have := HM.out; omega
    have HV3 := hid hv; have HR := hid hr; have HB := hid hB; have HMM := hid hm; have HA2 := hid ha2; have HX := hid hx; have H1 := hid h1
    clear hv hr hB hi' hm ha2 hx
    gi_wp2_with (gi_at_builtin; refine wpListIn_append_own _ rfl _ _ 36 rfl (w.heap.size + 1 + 1 + 1) 22 i0 (.string ⟨#[]⟩) 1 16 Tryz.underlying36 hi hz0 hz1 hz2 rfl (by decide) _ i _ rfl (HR.out.alloc _) ⟨W.heap.size, 0, none⟩ 1 1 [.string x] rfl rfl (cell_one_new W (.string x) 22) (by simp [Value.oneCell']) (by unfold maxLen; omega) (by omega) (by have := HA2.out.lt; simp; omega) ?_; intro v' w3 hown3 hgrow3 _
                 obtain ⟨g2, cap2, rfl⟩ := ownsRow_succ hown3
                 obtain ⟨e1, e2, e3, e4, e5⟩ := Boxed.appended (B := w.heap.size + 1) HV3.out (by decide) (own_weak HR.out (show w.heap.size ≤ w.heap.size + 1 + 1 + 1 by omega)) (by have := HA2.out.lt; omega) (Nat.le_succ _) (own_weak hown3 (show w.heap.size ≤ w.heap.size + 1 + 1 + 1 by omega)) hgrow3
                 have m0 := e1.cell
                 have m1 := e1.frozen
                 have k0 := Boxed.cell e2
                 have HM3 := hid (((HMM.out.alloc (.cells #[.string x] 22)).grown hgrow3 (Ne.symm (own_not HR.out (by omega)))).other (a := ⟨w.heap.size + 1, 0, none⟩) (by simp) (.slice (some ⟨g2, 0, none⟩) (i + 1) cap2))
                 have HA3 := hid (((HA2.out.alloc (.cells #[.string x] 22)).grown hgrow3 (Ne.symm (own_not HR.out (by omega)))).other (a := ⟨w.heap.size + 1, 0, none⟩) (by simp <;> omega) (.slice (some ⟨g2, 0, none⟩) (i + 1) cap2))
                 have HO3 := hid (ownsRow_setCell_below (a := ⟨w.heap.size + 1, 0, none⟩) hown3 (by simp <;> omega) (.slice (some ⟨g2, 0, none⟩) (i + 1) cap2))
                 have k1 := HM3.out.cell 0
                 simp at k1
                 have E2 := hid e2; have E4 := hid e4; have E5 := hid e5
                 clear e1 e2 e3 e4 e5 hown3 hgrow3)
    · rename_i hm1
      have hNX : TabI w.heap.size m a PL (i + 1) (w3.setCell ⟨w.heap.size + 1, 0, none⟩ (.slice (some ⟨g2, 0, none⟩) (i + 1) cap2)) := ⟨_, HM3.out, E2.out, HA3.out, by rw [hX1.out, strs_append]; have := HX.out; subst this; exact HO3.out⟩
      have e0 : i = m := by omega
      rw [e0] at hNX
      exact ⟨E4.out.from _, ⟨rfl, by rw [← e0] at hNX ⊢; exact hNX⟩, HB.out.trans E5.out⟩
    · rename_i hm1
      have hNX : TabI w.heap.size m a PL (i + 1) (w3.setCell ⟨w.heap.size + 1, 0, none⟩ (.slice (some ⟨g2, 0, none⟩) (i + 1) cap2)) := ⟨_, HM3.out, E2.out, HA3.out, by rw [hX1.out, strs_append]; have := HX.out; subst this; exact HO3.out⟩
      refine ⟨E4.out.from _, ⟨E5.out.size, fun _ _ => ⟨E5.out, HA3.out.trans (Eq.symm HA2.out)⟩⟩, ⟨?_, ?_⟩, HB.out.trans E5.out⟩
      · rw [List.length_append, List.length_singleton, HI.out]; omega
      · rw [List.length_append, List.length_singleton, HI.out]; exact hNX
  case done =>
    rintro D' xs W hD hS
    exact hS.elim
  case stop =>
    rintro D' c p W hD - ⟨⟨rfl, v, h1, hv, h3, hr⟩, hB⟩ hK
    obtain ⟨a3, c3, rfl⟩ := owns_ex hr
    have c0 := (Boxed.cell hv)
    have p1 := ((show Blk W (w.heap.size + 1) #[.slice a3 (m + 1) c3] 36 from hv).put hK (.deferred none)).cell 0
    have hrow : Row (W.putObj D' (.deferred none)) _ (strs (PL (m + 1))) := Row.put (Row.of_owns hr) hK _
    have HROW := hid hrow; have HB := hid hB; have HK := hid hK; have HDD := hid hD
    clear h1 hv h3 hr hB hK hrow hD
    gi_wp2_with fail
    refine marks_end HK.out (v := .slice a3 (m + 1) c3) (by simp [results, Tryz.results37, go_sem]) ⟨⟨_, rfl, HROW.out⟩, ?_⟩
    exact HB.out.trans (belowK_b (w := w) (Nat.le_refl _) _ D' _ _ (by have := Z0.out; have := HDD.out; omega) HK.out rfl rfl)
end Go.Proofs.YtpheklgnmbpobaaGreatDoor
namespace Go.Proofs.YtpheklgnmbpobaaGreatDoor
open Go.RowKit Go.Shelf Go.Sort
open Go.Lib (decDigits nDigits)
set_option linter.unusedVariables false
set_option linter.unusedSimpArgs false
theorem heap_putRow {α : Type} [Inhabited α] {enc : α → Value} {w : World} {g n : Nat} {cur : Array Value} {e : TypeId} {fr : Nat × Nat} (d : Array α) (hb : w.heap[g]? = some (.cells cur e fr)) :
    (putRow enc (Sort.ahead w n) g 0 d).heap[g]? = some (.cells (putCells enc 0 d cur) e fr) := by
  simp [putRow, mapBlock, Sort.ahead, Array.getElem?_modify, hb, onCells]
theorem below_putRow {α : Type} [Inhabited α] {enc : α → Value} {w : World} {g n base : Nat} (d : Array α) (hb : base ≤ g) : Below base w (putRow enc (Sort.ahead w n) g 0 d) := by
  refine ⟨rfl, rfl, rfl, by simp, fun k hk => ?_⟩
  have : g ≠ k := by omega
  simp [putRow, mapBlock, Sort.ahead, Array.getElem?_modify, this]
theorem take_putCells {α : Type} [Inhabited α] (enc : α → Value) (cur : Array Value) (F : Array α) (h : F.size ≤ cur.size) : (putCells enc 0 F cur).toList.take F.size = F.toList.map enc := by
  apply List.ext_getElem?
  intro j
  by_cases hj : j < F.size
  · rw [List.getElem?_take_of_lt hj, Array.getElem?_toList]
    simp [putCells, hj, show j < cur.size by omega]
  · rw [List.getElem?_take_eq_none (by omega), List.getElem?_eq_none (by simp; omega)]
set_option maxRecDepth 100000 in
set_option maxHeartbeats 2000000 in
theorem b_mirrored (w : World) (v : Value) (l : List ByteArray) (hv : Row w v (strs l)) (h1 : 1 ≤ l.length) (hl : l.length ≤ 1000) :
    Calls Tryz.prog 39 #[v] w fun e w' => (∃ u, e = .returned u ∧ Row w' u (strs (l.reverse ++ l.drop 1))) ∧ Below w.heap.size w w' := by
  have HV := hid hv
  obtain ⟨a, c, rfl, q1, q2, q3⟩ := hv.openS
  obtain ⟨n, hn⟩ : ∃ n, l.length = n := ⟨_, rfl⟩
  obtain ⟨i0, hi, hz0, hz1, hz2⟩ := info_parts info_num
  obtain ⟨x0, hx0⟩ : ∃ x, l[0]? = some x := ⟨_, List.getElem?_eq_getElem (by omega)⟩
  obtain ⟨g, o, rfl, hg, -⟩ := q3 0 x0 hx0
  have hcell : ∀ j u, (strs l)[j]? = some u → w.cell? ⟨g, o + j, none⟩ = some u := fun j u hu => by
    obtain ⟨g', o', e, -, h⟩ := hv.at hu
    simp at e
    obtain ⟨rfl, rfl⟩ := e
    exact h
  have PC : Calls Tryz.prog 95 #[.slice (some ⟨g, o, none⟩) n c] w fun e w' => ∃ v', e = .returned v' ∧ w'.ownsRow w.heap.size 22 1 v' n (strs l) ∧ v' ≠ .slice none 0 0 ∧ RowKit.Below w.heap.size w w' :=
    AnyE.slices_Clone Tryz.cloneN i0 (.string ⟨#[]⟩) 1 16 hi hz0 hz1 hz2 rfl (by decide) Tryz.sizeOf22 g o n c (strs l) w (by rw [strs, List.length_map, hn, Nat.mul_one]) (by unfold maxLen; omega) (by omega) hcell (fun u hu => by
    unfold strs at hu
    obtain ⟨x, -, rfl⟩ := List.mem_map.1 hu
    rfl)
  have PR : ∀ (W : World) (blk cap : Nat), Holds Value.string W blk 0 l.toArray → Calls Tryz.prog 96 #[.slice (some ⟨blk, 0, none⟩) l.length cap] W fun e w' => e = .returned (.tuple #[]) ∧ ∃ n, w' = putRow Value.string (Sort.ahead W n) blk 0 l.reverse.toArray :=
    fun W blk cap hH => AnyE.slices_Reverse Tryz.revN Value.string (fun _ => rfl) blk 0 cap l W hH (by omega)
  rw [hn] at q1 PR h1 hl ⊢
  have hlr : l.reverse.length = n := by rw [List.length_reverse]; exact hn
  have hld : (strs (l.drop 1)).length = (n - 1) * 1 := by rw [strs, List.length_map, List.length_drop, hn, Nat.mul_one]
  have HLR := hid hlr; have HLD := hid hld
  have HPC := hid PC; have HPR := hid PR; have HC := hid hcell; have HN := hid hn; have HG := hid hg; have HL := hid hl
  clear hv q3 PC PR hcell hn hx0 hg hl hlr hld
  go_enter Tryz.func39, Tryz.ntmps39
  go_wp2_with fail
  refine HPC.out.mono ?_; rintro e w1 ⟨u, rfl, hown, hne, hb1⟩
  obtain ⟨m, rfl⟩ : ∃ m, n = m + 1 := ⟨n - 1, by omega⟩
  obtain ⟨g1, cap1, rfl⟩ := ownsRow_succ hown
  have y1 := hid hb1
  have HO := hid hown
  obtain ⟨k1, k2, k3, k4, k5, k6, -⟩ := own_slot hown
  have hH : Holds Value.string w1 g1 0 l.toArray := fun j hj => by
    have hj' : j < l.length := by simpa using hj
    refine ⟨?_, k3 _⟩
    rw [Nat.zero_add]
    exact k4 j _ (by rw [strs, List.getElem?_map, List.getElem?_eq_getElem hj']; simp [getElem!_pos, hj'])
  have HH := hid hH; have K1 := hid k1
  have KC := hid k5; have KD := hid k6
  clear hb1 hown hne k1 k2 k3 k4 k5 k6 hH
  go_wp2_with fail
  refine (HPR.out _ _ cap1 HH.out).mono ?_; rintro e w2 ⟨rfl, k, rfl⟩
  have HO2 : Hid ((putRow Value.string (Sort.ahead w1 k) g1 0 l.reverse.toArray).ownsRow w.heap.size 22 1 (.slice (some ⟨g1, 0, none⟩) (m + 1) cap1) (m + 1) (strs l.reverse)) := by
    rcases HO.out.2 with ⟨e1, _⟩ | ⟨g', cap', cur, e1, hb, hgb, h1, h2, h3, h4⟩
    · simp at e1
    · simp at e1
      obtain ⟨rfl, rfl⟩ := e1
      refine ⟨by rw [strs, List.length_map, HLR.out, Nat.mul_one], .inr ⟨g1, cap1, _, rfl, hb, heap_putRow _ hgb, h1, h2, by simpa [putCells] using h3, ?_⟩⟩
      have h5 := take_putCells Value.string cur l.reverse.toArray (by simp; rw [HN.out]; omega)
      simp only [List.size_toArray, HLR.out] at h5
      rw [Nat.mul_one, h5]; rfl
  have B2 : Hid (RowKit.Below w.heap.size w (putRow Value.string (Sort.ahead w1 k) g1 0 l.reverse.toArray)) := y1.out.trans (below_putRow _ K1.out)
  obtain ⟨w2, hw2⟩ : ∃ w2, putRow Value.string (Sort.ahead w1 k) g1 0 l.reverse.toArray = w2 := ⟨_, rfl⟩
  rw [hw2] at HO2 B2 ⊢
  clear hw2
  have kc := KC.out
  have b1 : (0 : Int) ≤ 1 := by omega
  have b2 : (1 : Int) ≤ (m : Int) + 1 := by omega
  have b3 : (m : Int) + 1 ≤ (c : Int) := by omega
  by_cases hc1 : c = 1
  · subst hc1
    obtain rfl : m = 0 := by omega
    have hld : strs (l.drop 1) = [] := by
      have := HLD.out
      exact List.length_eq_zero_iff.1 (by simpa using this)
    have HD0 := hid hld
    clear hld
    go_wp2_with (at_builtin; refine wpList_append_own _ rfl _ _ 36 rfl w.heap.size 22 i0 (.string ⟨#[]⟩) 1 16 Tryz.underlying36 hi hz0 hz1 hz2 rfl (by decide) _ 1 _ rfl HO2.out ⟨g, o, none⟩ 0 0 [] rfl rfl (by simp) (by simp) (by unfold maxLen; omega) (by omega) (by have := B2.out.size; omega) ?_; intro v' w3 hown3 hgrow3 _)
    obtain ⟨a9, k9, rfl⟩ := owns_ex hown3
    go_ret
    refine ⟨⟨_, rfl, ?_⟩, below_gb B2.out B2.out.size hgrow3 K1.out⟩
    have h7 := Row.of_owns hown3
    have h8 := HD0.out
    rw [List.drop_one] at h8
    simp only [List.drop_one, strs_append, h8]
    exact h7
  · go_wp2_with (at_builtin; refine wpList_append_own _ rfl _ _ 36 rfl w.heap.size 22 i0 (.string ⟨#[]⟩) 1 16 Tryz.underlying36 hi hz0 hz1 hz2 rfl (by decide) _ (m + 1) _ rfl HO2.out ⟨g, o + 1, none⟩ m (c - 1) (strs (l.drop 1)) rfl HLD.out ?_ ?_ ?_ ?_ ?_ ?_)
    · intro j u hu
      rw [Addr.add_lit]
      have h7 : (strs l)[1 + j]? = some u := by
        unfold strs at hu ⊢
        rw [List.getElem?_map, List.getElem?_drop] at hu
        rw [List.getElem?_map]; exact hu
      have h8 := HC.out _ _ h7
      have h9 := (y1.out.cell (p := ⟨g, o + (1 + j), none⟩) HG.out).trans h8
      have h10 := (B2.out.cell (p := ⟨g, o + (1 + j), none⟩) HG.out).trans h8
      rw [Nat.add_assoc]
      exact h10
    · intro u hu
      unfold strs at hu
      obtain ⟨x, -, rfl⟩ := List.mem_map.1 hu
      rfl
    · have := HL.out; unfold maxLen; omega
    · have := HL.out; omega
    · exact B2.out.size
    · intro v' w3 hown3 hgrow3 _
      obtain ⟨a9, k9, rfl⟩ := owns_ex hown3
      have HO3 := hid hown3; have HG3 := hid hgrow3
      clear hown3 hgrow3
      go_wp2_with fail
      go_ret
      refine ⟨⟨_, rfl, ?_⟩, below_gb B2.out B2.out.size HG3.out K1.out⟩
      have h7 := Row.of_owns HO3.out
      try simp only [List.drop_one] at h7
      simp only [List.drop_one, strs_append]
      exact h7
end Go.Proofs.YtpheklgnmbpobaaGreatDoor
namespace Go.Proofs.YtpheklgnmbpobaaGreatDoor
open Go.RowKit
open Go.Lib (decDigits nDigits)
set_option linter.unusedVariables false
set_option linter.unusedSimpArgs false
def beV (q : ByteArray) (t : Int) : List Nat := beL (bN (cW q)) (bN (qD q)) t.toNat
def bdE (q : ByteArray) (t : Int) (b : ByteArray) : Int := if beE q t ≠ 0 then beE q t else chkE b
def bsh (t : Int) (x : Bool × Nat × Nat) : Bool × Int × Int := (x.1, if x.1 = true then (x.2.1 : Int) - t else (x.2.1 : Int), (x.2.2 : Int))
def bd3 (q : ByteArray) (t : Int) (b : ByteArray) : Bool × Int × Int := if bdE q t b = 0 then bsh t (pdr (pkF (beV q t)) 0 1 b.data.toList) else (false, 0, 0)
def bV (x : Bool × Int × Int) : Value := .agg #[.bool x.1, .int .i64 x.2.1, .int .i64 x.2.2]
def bmE (q : ByteArray) (t k : Int) : Int := if beE q t ≠ 0 then beE q t else if k < -t ∨ t < k then 2 else 0
def bmB (q : ByteArray) (t k : Int) : ByteArray := if bmE q t k = 0 then shB ((beV q t).getD (k + t).toNat 0) (beV q t).sum else ⟨#[]⟩
def bxR (q : ByteArray) (t : Int) : List (ByteArray × ByteArray) := if beE q t = 0 then sortM ((exR (beW q t)).map (shP t)) else []
def blE (q : ByteArray) (t n : Int) : Int := if beE q t ≠ 0 then beE q t else if n < 0 ∨ 256 < n then 2 else 0
def blR (q : ByteArray) (t n : Int) : List (ByteArray × ByteArray) := if blE q t n = 0 then sortM ((lawR (beW q t) n).map (shP t)) else []
def btR (q : ByteArray) (t n : Int) : ByteArray := if blE q t n = 0 then lateR (beW q t) n else ⟨#[]⟩
section
variable {q : ByteArray} {t : Int} (h : beE q t = 0)
include h
theorem beV_W : beW q t = (beV q t).map numB ∧ (beW q t).map bN = beV q t := by
  have e := beW_is h
  exact ⟨e, by rw [e]; exact map_bN _⟩
theorem beV_wsE : wsE (beW q t) = 0 := by
  obtain ⟨m, rfl, hk⟩ := beE_ok h
  rw [beW_is h]
  exact hk.wsE
theorem beV_drE (b : ByteArray) : drE (beW q t) b = chkE b ∧ bdE q t b = chkE b := by
  unfold drE bdE
  rw [beV_wsE h, h]
  exact ⟨if_neg (by simp), if_neg (by simp)⟩
theorem beV_dr3 (b : ByteArray) : bsh t (dr3 (beW q t) b) = bd3 q t b := by
  unfold dr3 bd3
  rw [(beV_drE h b).1, (beV_drE h b).2, (beV_W h).2]
  by_cases e : chkE b = 0
  · rw [if_pos e, if_pos e]
  · rw [if_neg e, if_neg e]; rfl
theorem beV_lawE (n : Int) : lawE (beW q t) n = blE q t n := by
  unfold lawE blE
  rw [beV_wsE h, h]
theorem beV_size {x : ByteArray} (hx : x ∈ beW q t) : x.size ≤ 1000000 := by
  obtain ⟨m, rfl, hk⟩ := beE_ok h
  rw [beW_is h] at hx
  exact hk.size hx
theorem beV_len : ∃ m : Nat, t = (m : Nat) ∧ m ≤ 16 ∧ (beV q t).length = 2 * m + 1 ∧ (beW q t).length = 2 * m + 1 := by
  obtain ⟨m, rfl, hk⟩ := beE_ok h
  refine ⟨m, rfl, hk.t16, ?_, ?_⟩
  · unfold beV; rw [beL_len, Int.toNat_natCast]
  · rw [beW_is h, List.length_map, beL_len, Int.toNat_natCast]
end
theorem exL_ShOk {ws : List Nat} {S N : Nat} (hN : N ≤ 1000) : ShOk (exL ws S N) := fun p hp => by
  obtain ⟨i, h1, -, rfl⟩ := exL_mem.1 hp
  exact .inr ⟨i, by omega, rfl⟩
theorem lawP_ShOk {ws : List Nat} {t N : Nat} (hN : N ≤ 1000) : ShOk (lawP ws t N) := fun p hp => by
  have h1 : ∀ p ∈ lawL ws t N, p.1 = lateB ∨ ∃ i : Nat, i ≤ 1000 ∧ p.1 = numB i := fun p hp => by
    obtain ⟨i, h1, -, rfl⟩ := lawL_mem.1 hp
    exact .inr ⟨i, by omega, rfl⟩
  unfold lawP at hp
  split at hp
  · exact h1 p hp
  · rcases List.mem_append.1 hp with hp | hp
    · exact h1 p hp
    · rw [List.mem_singleton] at hp
      exact .inl (by rw [hp])
theorem ShOk.sort {L : List (ByteArray × ByteArray)} (h : ShOk L) : ShOk (sortM L) := fun p hp => h p (sortM_mem.1 hp)
theorem nodup_sort {L : List (ByteArray × ByteArray)} (h : (L.map keyL).Nodup) : ((sortM L).map keyL).Nodup := (((List.mergeSort_perm L _).map keyL).nodup_iff).2 h
theorem exR_sh {l : List ByteArray} (hl : l.length ≤ 64) : ShOk (exR l) ∧ ((exR l).map keyL).Nodup ∧ (exR l).length ≤ 65 := by
  unfold exR
  split
  · refine ⟨(exL_ShOk (by omega)).sort, nodup_sort (reads_exD (H := Unit) _ _ _).nd, ?_⟩
    rw [sortM_length]; have := exL_length (l.map bN) (l.map bN).sum l.length; omega
  · exact ⟨fun p hp => by simp at hp, List.nodup_nil, by simp⟩
theorem lawR_sh {l : List ByteArray} {n : Int} (hl : l.length ≤ 64) : ShOk (lawR l n) ∧ ((lawR l n).map keyL).Nodup ∧ (lawR l n).length ≤ 65 := by
  unfold lawR
  split
  · refine ⟨(lawP_ShOk (by omega)).sort, nodup_sort (reads_lawM (H := Unit) _ _ _).nd, ?_⟩
    rw [sortM_length]; have := lawP_length (l.map bN) (2 ^ n.toNat) l.length; omega
  · exact ⟨fun p hp => by simp at hp, List.nodup_nil, by simp⟩
end Go.Proofs.YtpheklgnmbpobaaGreatDoor
namespace Go.Proofs.YtpheklgnmbpobaaGreatDoor
open Go.RowKit Go.Shelf
open Go.Lib (decDigits nDigits)
set_option linter.unusedVariables false
set_option linter.unusedSimpArgs false
theorem iM_at {s : ByteArray} (h : 0 < s.size) : ((s[0].toNat : Int) == 45) = iM s := by
  obtain ⟨⟨l⟩⟩ := s
  cases l with
  | nil => exact absurd h (by decide)
  | cons b r =>
    show ((b.toNat : Int) == 45) = List.isPrefixOf [45] (b :: r)
    by_cases e : b = 45
    · subst e; rfl
    · have h1 : (45 == b) = false := by rw [beq_eq_false_iff_ne]; exact fun h => e h.symm
      have h2 : ((b.toNat : Int) == 45) = false := by
        rw [beq_eq_false_iff_ne]
        intro h3
        refine e (UInt8.toNat_inj.1 ?_)
        have : (45 : UInt8).toNat = 45 := rfl
        omega
      rw [h2, List.isPrefixOf, h1]; rfl
theorem cW_pos {q : ByteArray} (h : qE q = 0) : 0 < (cW q).size := by
  have hb := qB_whole (qE_zero h).1
  by_cases hm : iM (cW q) = true
  · refine Nat.pos_of_ne_zero fun e => ?_
    have : cW q = ⟨#[]⟩ := by
      apply ByteArray.ext
      exact Array.eq_empty_of_size_eq_zero e
    rw [this] at hm
    exact absurd hm (by decide)
  · rw [Bool.not_eq_true] at hm
    rw [(whole_is h hm).1, numB_size]
    exact nd_pos _
theorem be_cases {N D t k : Nat} (hN : 0 < N) (hD : 0 < D) :
    (nDigits (beN N D t k) ≤ 3800 ∧ pwT N (k * k) ≠ ⟨#[]⟩ ∧ pwT D (t * t - k * k) ≠ ⟨#[]⟩ ∧ natE ((· * ·)) (pwT N (k * k)) (pwT D (t * t - k * k)) = 0 ∧ natB ((· * ·)) (pwT N (k * k)) (pwT D (t * t - k * k)) = numB (beN N D t k)) ∨
    (3800 < nDigits (beN N D t k) ∧ (pwT N (k * k) = ⟨#[]⟩ ∨ (pwT N (k * k) ≠ ⟨#[]⟩ ∧ pwT D (t * t - k * k) = ⟨#[]⟩) ∨
      (pwT N (k * k) ≠ ⟨#[]⟩ ∧ pwT D (t * t - k * k) ≠ ⟨#[]⟩ ∧ natE ((· * ·)) (pwT N (k * k)) (pwT D (t * t - k * k)) ≠ 0) ∨
      (pwT N (k * k) ≠ ⟨#[]⟩ ∧ pwT D (t * t - k * k) ≠ ⟨#[]⟩ ∧ natE ((· * ·)) (pwT N (k * k)) (pwT D (t * t - k * k)) = 0 ∧ 3800 < (natB ((· * ·)) (pwT N (k * k)) (pwT D (t * t - k * k))).size))) := by
  have hne : ∀ n, numB n ≠ ⟨#[]⟩ := fun n e => by
    have h1 := numB_size n
    rw [e] at h1
    have := nd_pos n
    have h2 : (⟨#[]⟩ : ByteArray).size = 0 := rfl
    omega
  obtain ⟨X, hX⟩ : ∃ X, N ^ (k * k) = X := ⟨_, rfl⟩
  obtain ⟨Y, hY⟩ : ∃ Y, D ^ (t * t - k * k) = Y := ⟨_, rfl⟩
  have hXp : 0 < X := by rw [← hX]; exact Nat.pow_pos hN
  have hYp : 0 < Y := by rw [← hY]; exact Nat.pow_pos hD
  have hbe : beN N D t k = X * Y := by unfold beN; rw [hX, hY]
  unfold pwT
  rw [hX, hY, hbe]
  have mX : nDigits X ≤ nDigits (X * Y) := nDigits_mono (Nat.le_mul_of_pos_right X hYp)
  have mY : nDigits Y ≤ nDigits (X * Y) := nDigits_mono (Nat.le_mul_of_pos_left Y hXp)
  by_cases h1 : nDigits X ≤ 4000
  · rw [if_pos h1]
    by_cases h2 : nDigits Y ≤ 4000
    · rw [if_pos h2]
      have eB : natB ((· * ·)) (numB X) (numB Y) = resB (X * Y) := by
        unfold natB pairB
        rw [if_pos ⟨errN_numB h1, errN_numB h2⟩, bN_num, bN_num]
      have eE : natE ((· * ·)) (numB X) (numB Y) = resE (X * Y) := by
        unfold natE pairE
        rw [errN_numB h1, errN_numB h2, bN_num, bN_num]; rfl
      rw [eB, eE]
      unfold resB resE
      by_cases h3 : nDigits (X * Y) ≤ 3800
      · exact .inl ⟨h3, hne _, hne _, by rw [if_neg (by omega)], by rw [if_neg (by omega)]⟩
      · refine .inr ⟨by omega, .inr (.inr ?_)⟩
        by_cases h4 : 4000 < nDigits (X * Y)
        · exact .inl ⟨hne _, hne _, by rw [if_pos h4]; decide⟩
        · exact .inr ⟨hne _, hne _, by rw [if_neg h4], by rw [if_neg h4, numB_size]; omega⟩
    · rw [if_neg h2]
      exact .inr ⟨by omega, .inr (.inl ⟨hne _, rfl⟩)⟩
  · rw [if_neg h1]
    exact .inr ⟨by omega, .inl rfl⟩
theorem half_all (f : Nat → ByteArray) (t : Nat) : ((List.range (t + 1)).map f).reverse ++ ((List.range (t + 1)).map f).drop 1 = (List.range (2 * t + 1)).map fun j => f (beD t j) := by
  apply List.ext_getElem?
  intro j
  rw [List.getElem?_append]
  simp only [List.length_reverse, List.length_map, List.length_range]
  by_cases h : j < t + 1
  · rw [if_pos h, List.getElem?_reverse (by simpa using h)]
    simp only [List.length_map, List.length_range]
    rw [List.getElem?_map, List.getElem?_map, List.getElem?_range (by omega), List.getElem?_range (by omega)]
    show some (f _) = some (f _)
    unfold beD
    rw [if_pos (by omega)]
    congr 2
  · rw [if_neg h, List.getElem?_drop, List.getElem?_map, List.getElem?_map]
    by_cases h2 : j < 2 * t + 1
    · rw [List.getElem?_range (by omega), List.getElem?_range h2]
      show some (f _) = some (f _)
      unfold beD
      rw [if_neg (by omega)]
      congr 2
      omega
    · rw [List.getElem?_eq_none (by simp; omega), List.getElem?_eq_none (by simp; omega)]
      rfl
def hfL (N D t k : Nat) : List ByteArray := (List.range k).map fun j => numB (beN N D t j)
theorem hfL_succ (N D t k : Nat) : hfL N D t (k + 1) = hfL N D t k ++ [numB (beN N D t k)] := by
  unfold hfL
  rw [List.range_succ, List.map_append]; rfl
theorem hfL_all (N D t : Nat) : (hfL N D t (t + 1)).reverse ++ (hfL N D t (t + 1)).drop 1 = (beL N D t).map numB := by
  unfold hfL beL
  rw [half_all, List.map_map]; rfl
theorem beE_not {q : ByteArray} {m : Nat} (h0 : qE q = 0) (h1 : ¬ (cW q = ⟨#[48]⟩ ∨ iM (cW q) = true ∨ bN (qD q) < bN (cW q) ∨ (m : Int) < 0 ∨ 16 < (m : Int))) {k : Nat} (hk : k ≤ m) (h2 : 3800 < nDigits (beN (bN (cW q)) (bN (qD q)) m k)) : beE q m = 5 := by
  unfold beE
  rw [if_neg (by rw [h0]; simp), if_neg h1, if_pos]
  rw [List.any_eq_true, Int.toNat_natCast]
  exact ⟨k, List.mem_range.2 (by omega), by simpa using h2⟩
theorem beE_yes {q : ByteArray} {m : Nat} (h0 : qE q = 0) (h1 : ¬ (cW q = ⟨#[48]⟩ ∨ iM (cW q) = true ∨ bN (qD q) < bN (cW q) ∨ (m : Int) < 0 ∨ 16 < (m : Int))) (h2 : ∀ k, k ≤ m → nDigits (beN (bN (cW q)) (bN (qD q)) m k) ≤ 3800) : beE q m = 0 := by
  unfold beE
  rw [if_neg (by rw [h0]; simp), if_neg h1, if_neg]
  rw [List.any_eq_true, Int.toNat_natCast]
  rintro ⟨k, hk, h3⟩
  rw [List.mem_range] at hk
  have := h2 k (by omega)
  simp at h3
  omega
set_option maxRecDepth 100000 in
set_option maxHeartbeats 2000000 in
theorem bw_e1 (w : World) (q : ByteArray) (t : Int) (hq : q.size ≤ 100000) (hL : Lay w) (h0 : qE q ≠ 0) :
    Calls Tryz.prog 11 #[.string q, .int .i64 t] w fun e w' => (∃ u, e = .returned (.tuple #[u, .int .i64 (beE q t)]) ∧ Row w' u (strs (beW q t))) ∧ Below w.heap.size w w' := by
  have HP := hid (q_Parts w q (by omega) hL)
  have e1 : beE q t = qE q := by unfold beE; rw [if_pos h0]
  have e2 : beW q t = [] := by unfold beW; rw [e1, if_neg h0]
  rw [e1, e2]
  have e3 : pW q = ⟨#[]⟩ := by unfold pW; rw [if_neg h0]
  have e4 : pD q = ⟨#[]⟩ := by unfold pD; rw [if_neg h0]
  rw [e3, e4] at HP
  obtain ⟨z, hz⟩ : ∃ z, qE q = z := ⟨_, rfl⟩
  rw [hz] at HP h0 ⊢
  have q0 : (z != 0) = true := by simpa using h0
  clear hL hz h0 e1 e2 e3 e4
  go_enter Tryz.func11, Tryz.ntmps11
  go_wp2_with fail
  refine HP.out.mono ?_; rintro e w1 ⟨rfl, hb1⟩
  have y1 := hid hb1; clear hb1
  go_wp2_with fail
  go_ret2
  exact ⟨⟨_, rfl, Row.nil _⟩, y1.out⟩
set_option maxRecDepth 100000 in
set_option maxHeartbeats 4000000 in
theorem bw_e2 (w : World) (q : ByteArray) (t : Int) (hq : q.size ≤ 100000) (hL : Lay w) (h0 : qE q = 0) (h1 : cW q = ⟨#[48]⟩ ∨ iM (cW q) = true ∨ bN (qD q) < bN (cW q) ∨ t < 0 ∨ 16 < t) :
    Calls Tryz.prog 11 #[.string q, .int .i64 t] w fun e w' => (∃ u, e = .returned (.tuple #[u, .int .i64 (beE q t)]) ∧ Row w' u (strs (beW q t))) ∧ Below w.heap.size w w' := by
  have HP := hid (q_Parts w q (by omega) hL)
  have e1 : beE q t = 2 := by unfold beE; rw [if_neg (by rw [h0]; simp), if_pos h1]
  have e2 : beW q t = [] := by unfold beW; rw [e1, if_neg (by decide)]
  rw [e1, e2]
  have e3 : pW q = cW q := by unfold pW; rw [if_pos h0]
  have e4 : pD q = qD q := by unfold pD; rw [if_pos h0]
  rw [e3, e4, h0] at HP
  have hp := cW_pos h0
  have hm : ∀ h, ((((cW q)[0]'h).toNat : Int) == 45) = iM (cW q) := fun h => iM_at h
  have p1 : (0 : Int) < ((cW q).size : Int) := by omega
  by_cases c0 : cW q = ⟨#[48]⟩
  · rw [c0] at HP
    obtain ⟨Dn, hDn⟩ : ∃ s, qD q = s := ⟨_, rfl⟩
    rw [hDn] at HP
    clear hL h1 e1 e2 e3 e4 hp hm p1 c0 hDn h0
    go_enter Tryz.func11, Tryz.ntmps11
    go_wp2_with fail
    refine HP.out.mono ?_; rintro e w1 ⟨rfl, hb1⟩
    have y1 := hid hb1; clear hb1
    go_wp2_with fail
    go_ret2
    exact ⟨⟨_, rfl, Row.nil _⟩, y1.out⟩
  have n0 := ne_lit c0
  by_cases c1 : iM (cW q) = true
  · simp only [c1] at hm
    obtain ⟨Nn, hNn⟩ : ∃ s, cW q = s := ⟨_, rfl⟩
    obtain ⟨Dn, hDn⟩ : ∃ s, qD q = s := ⟨_, rfl⟩
    rw [hDn] at HP
    rw [hNn] at hm
    simp only [hNn] at HP n0 p1
    replace hm := hm (by omega)
    clear hL h1 e1 e2 e3 e4 hp c0 c1 hDn hNn h0
    go_enter Tryz.func11, Tryz.ntmps11
    go_wp2_with fail
    refine HP.out.mono ?_; rintro e w1 ⟨rfl, hb1⟩
    have y1 := hid hb1; clear hb1
    go_wp2_with fail
    go_ret2
    exact ⟨⟨_, rfl, Row.nil _⟩, y1.out⟩
  rw [Bool.not_eq_true] at c1
  simp only [c1] at hm
  obtain ⟨v1, v2, v3, v4, v5⟩ := whole_is h0 c1
  have HC := fun V => hid (pk_cmp V (bN (cW q)) (bN (qD q)) v4 v5)
  have hpos := ordN_pos (a := bN (cW q)) (b := bN (qD q))
  rw [← v1, ← v2] at HC
  by_cases c2 : bN (qD q) < bN (cW q)
  · rw [decide_eq_true c2] at hpos
    obtain ⟨z, hz⟩ : ∃ z, ordN (bN (cW q)) (bN (qD q)) = z := ⟨_, rfl⟩
    rw [hz] at HC hpos
    obtain ⟨Nn, hNn⟩ : ∃ s, cW q = s := ⟨_, rfl⟩
    obtain ⟨Dn, hDn⟩ : ∃ s, qD q = s := ⟨_, rfl⟩
    rw [hNn] at hm
    simp only [hNn, hDn] at HP n0 p1 HC
    replace hm := hm (by omega)
    clear hL h1 e1 e2 e3 e4 hp c0 c1 hDn hNn h0 v1 v2 v3 v4 v5 c2 hz
    go_enter Tryz.func11, Tryz.ntmps11
    go_wp2_with fail
    refine HP.out.mono ?_; rintro e w1 ⟨rfl, hb1⟩
    have y1 := hid hb1; clear hb1
    go_wp2_with fail
    refine (HC _).out.mono ?_; rintro e w2 ⟨rfl, hb2⟩
    have y2 := hid (bnext y1.out hb2); clear hb2
    go_wp2_with fail
    go_ret2
    exact ⟨⟨_, rfl, Row.nil _⟩, y2.out⟩
  rw [decide_eq_false c2] at hpos
  obtain ⟨z, hz⟩ : ∃ z, ordN (bN (cW q)) (bN (qD q)) = z := ⟨_, rfl⟩
  rw [hz] at HC hpos
  have h2 : t < 0 ∨ 16 < t := by
    rcases h1 with h | h | h | h
    · exact absurd h c0
    · rw [h] at c1; cases c1
    · exact absurd h c2
    · exact h
  obtain ⟨Nn, hNn⟩ : ∃ s, cW q = s := ⟨_, rfl⟩
  obtain ⟨Dn, hDn⟩ : ∃ s, qD q = s := ⟨_, rfl⟩
  rw [hNn] at hm
  simp only [hNn, hDn] at HP n0 p1 HC
  replace hm := hm (by omega)
  clear hL h1 e1 e2 e3 e4 hp c0 c1 hDn hNn h0 v1 v2 v3 v4 v5 c2 hz
  by_cases c3 : t < 0
  · have t1 : decide (t < 0) = true := decide_eq_true c3
    clear h2 c3
    go_enter Tryz.func11, Tryz.ntmps11
    go_wp2_with fail
    refine HP.out.mono ?_; rintro e w1 ⟨rfl, hb1⟩
    have y1 := hid hb1; clear hb1
    go_wp2_with fail
    refine (HC _).out.mono ?_; rintro e w2 ⟨rfl, hb2⟩
    have y2 := hid (bnext y1.out hb2); clear hb2
    go_wp2_with fail
    go_ret2
    exact ⟨⟨_, rfl, Row.nil _⟩, y2.out⟩
  · have t1 : decide (t < 0) = false := decide_eq_false c3
    have t2 : decide (16 < t) = true := decide_eq_true (by omega)
    clear h2 c3
    go_enter Tryz.func11, Tryz.ntmps11
    go_wp2_with fail
    refine HP.out.mono ?_; rintro e w1 ⟨rfl, hb1⟩
    have y1 := hid hb1; clear hb1
    go_wp2_with fail
    refine (HC _).out.mono ?_; rintro e w2 ⟨rfl, hb2⟩
    have y2 := hid (bnext y1.out hb2); clear hb2
    go_wp2_with fail
    go_ret2
    exact ⟨⟨_, rfl, Row.nil _⟩, y2.out⟩
end Go.Proofs.YtpheklgnmbpobaaGreatDoor
