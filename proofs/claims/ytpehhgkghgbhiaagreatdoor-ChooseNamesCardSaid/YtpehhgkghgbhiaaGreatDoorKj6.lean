/- Texts that the proof rests on, merged: Pl3, Pl4, ShK, It, Pl5, Ch3, Ch4, R1l, R1m, R2d, R2e, R2f, R2i, R1b, R1d. -/
import Derived.Test.YtpehhgkghgbhiaaGreatDoorKj5
import Derived.Maps.Own
import Derived.Maps.OwnIn
import Derived.Sort.CutIn
import Derived.Sort.KeysCollected
import Derived.Shelf.SlIter.Nil
import Derived.Shelf.SortM.Plain
import Derived.Shelf.SortM.SortNone
import Derived.Ground.GgzProg
import Derived.Ground.SlgmProg
import Derived.Test.YtpehhgkghgbhiaaGreatDoorProg
import Derived.Maps.StringElems
import Derived.Maps.OwnSet
import Derived.DataShut
import Derived.Laws.IdiomStrings
import Derived.WalkSpells
import Derived.IntWalk
namespace Go.Proofs.YtpehhgkghgbhiaaGreatDoor
open Go.RowKit Go.Shelf Go.Maps
open Go.Lib (decDigits nDigits)
set_option linter.unusedVariables false
set_option linter.unusedSimpArgs false
attribute [local go_sem] Oper.semAt_some
theorem sum_pos {l : List Nat} {x : Nat} (h : x ∈ l) (hx : x ≠ 0) : 0 < l.sum := by
  induction l with
  | nil => simp at h
  | cons a r ih =>
    rw [List.sum_cons]
    rcases List.mem_cons.1 h with rfl | h
    · omega
    · have := ih h; omega
theorem wsE_pos {l : List ByteArray} (h : wsE l = 0) : 0 < (l.map bN).sum := by
  obtain ⟨D1, -, -⟩ := wsE_ok h
  unfold wsE at h
  split at h
  · exact absurd h (by decide)
  · split at h
    · rename_i h2 h3; exact absurd h h3
    · split at h
      · rename_i h4
        obtain ⟨b, hb, hb2⟩ := List.any_eq_true.1 h4
        refine sum_pos (List.mem_map_of_mem hb) fun e => ?_
        have hb3 : b ≠ ⟨#[48]⟩ := by simpa using hb2
        obtain ⟨i, hi⟩ := List.getElem?_of_mem hb
        have e1 : ((l.map bN).map numB)[i]? = some (numB (bN b)) := by rw [List.getElem?_map, List.getElem?_map, hi]; rfl
        rw [← D1, hi] at e1
        apply hb3
        rw [Option.some.inj e1, e, numB_zero]
      · exact absurd h (by decide)
theorem lawKeyed : Keyed Tryz.prog 9 := string_keyed Tryz.underlying9
/-- The map behind the first i indexes. -/
def lawD {H : Type} (ws : List Nat) (t : Nat) : Nat → DataW H
  | 0 => .map []
  | i + 1 => if cntF ws t i < cntE ws t i then (lawD ws t i).put (.string (numB i).data.toList) (.lit (.string (shB (cnt ws t i) t).data.toList)) else lawD ws t i
/-- The whole map: what no index takes is late. -/
def lateB : ByteArray := ⟨#[108, 97, 116, 101]⟩
def lawM {H : Type} (ws : List Nat) (t N : Nat) : DataW H := if t - lwS ws t N = 0 then lawD ws t N else (lawD ws t N).put (.string [108, 97, 116, 101]) (.lit (.string (shB (t - lwS ws t N) t).data.toList))
theorem outB_size (q : Rat) : (outB q).size ≤ 10000 := by
  unfold outB
  split
  · exact (by decide : (0 : Nat) ≤ 10000)
  · rename_i h
    unfold ovQ at h
    have h1 := list_size (txQ q)
    unfold txQ at h1 ⊢
    rw [txB_list] at h1
    rw [← h1]
    simp only [List.length_append, Lib.decDigits_length]
    have e1 : (if decide (q.num < 0) = true then [45] else ([] : List UInt8)).length ≤ 1 := by split <;> simp
    have e2 : (if q.den = 1 then [] else (47 : UInt8) :: decDigits q.den).length ≤ 4001 := by
      split
      · simp
      · simp only [List.length_cons, Lib.decDigits_length]; omega
    omega
theorem shB_size (m t : Nat) : (shB m t).size ≤ maxLen := Nat.le_trans (outB_size _) (by unfold maxLen; decide)
theorem held_wide {P : Program} {Q : Exit → Act → World → Prop} {n : Nat} {id : Nat} {a : Act} {w : World} {l : List Oper} (S : World → Prop) (hm : P.follows .mixedOrders = true)
    (h : wpAnyH P .any l.toArray (Only Q) S l.toArray.size (Array.replicate l.toArray.size false) a { w with drawn := w.drawn + 1 }) : (Code.region id l.toArray true).wpIn Fence.wide n P Q a w :=
  wpIn_region_any hm (any_plain _ _ _ _ (wpAny_of_held _ _ _ _ h))
/-- What holds behind some weights: the map, what is left, the number. -/
def LawI {H : Type} (T t : Nat) (ws : List Nat) (p : List (ByteArray × ByteArray)) (W : World) : Prop := p.length ≤ ws.length ∧ W.ownsMap Tryz.prog 9 (plainElem Tryz.prog 23) (T + 1 + 1) p.length (lawD (H := H) ws t p.length) ∧
  Blk W (T + 1) #[.string (numB (t - lwS ws t p.length))] 23 ∧ Blk W (T + 1 + 1 + 1 + 1) #[.int .i64 (p.length : Nat)] 3
theorem LawI.own {H : Type} {T t C : Nat} {ws : List Nat} (hC : T + 1 + 1 < C) : OwnFrom C (LawI (H := H) T t ws) := by
  rintro s X Y row ⟨h1, h2, h3, h4⟩ hg hr
  exact ⟨h1, h2.kept hg (fun e => by have := (hr _ e.symm).1; omega), h3.kept hg (fun r e => (hr r e).2), h4.kept hg (fun r e => (hr r e).2)⟩
set_option maxRecDepth 100000 in
set_option maxHeartbeats 4000000 in
theorem p_law {H : Type} (w : World) (v : Value) (l : List ByteArray) (n : Nat) (hv : Row w v (strs l)) (hl : ∀ x ∈ l, x.size ≤ 1000000) (he : wsE l = 0) (hn : n ≤ 256) (hL : Lay w) :
    Calls Tryz.prog 87 #[v, .int .i64 (n : Nat)] w fun e w' => (∃ B, e = .returned (.tuple #[.map (some B), .int .i64 0]) ∧ w'.ownsMap Tryz.prog 9 (plainElem Tryz.prog 23) B (l.length + 1) (lawM (H := H) (l.map bN) (2 ^ n) l.length)) ∧ Below w.heap.size w w' := by
  have PC := fun V hV => hid (p_check V v l hV hl)
  have PE := fun V hws hV hLV => hid (p_ends V v (l.map bN) hws hV hLV)
  have PP := fun V hLV => hid (pk_pow2 V n hn hLV)
  obtain ⟨D1, D2, D3⟩ := wsE_ok he
  have he' := he
  rw [he] at PC
  have HL := hid hL; have HV := hid hv
  obtain ⟨a, c, rfl, q1, q2, -⟩ := hv.openS
  obtain ⟨N, hN⟩ : ∃ N, l.length = N := ⟨_, rfl⟩
  have HN := hid hN
  obtain ⟨ws, hws⟩ : ∃ ws, l.map bN = ws := ⟨_, rfl⟩
  have hlen : ws.length = N := by rw [← hws, List.length_map]; exact hN
  rw [hws] at PE D1 D2 ⊢
  rw [hN] at PC PE q1 HV D3 ⊢
  have HWS := hid D2; have HD1 := hid D1
  have HPOS : Hid (0 < ws.sum) := by rw [← hws]; exact wsE_pos he'
  obtain ⟨m, rfl⟩ : ∃ m, N = m + 1 := ⟨N - 1, by omega⟩
  have HLEN := hid hlen
  have hm : m < 64 := by have := D2.len; omega
  clear hv hL hl hN D1 D2 D3 hws hlen he he'
  have s1 : decide ((n : Int) < 0) = false := by simp
  have s2 : decide ((256 : Int) < (n : Int)) = false := by simp; omega
  obtain ⟨T0, hT0⟩ : ∃ s, numB (2 ^ n) = s := ⟨_, rfl⟩
  have HT0 := hid hT0
  rw [hT0] at PP
  have hmm := @run_makeMap Tryz.prog
  clear hT0
  refine (callsIn_wide (n := 9)).1 ?_
  refine callsIn_of_wp_marks Tryz.func87 rfl trivial ?_ rfl
  simp only [Tryz.ntmps87, List.size_toArray, List.length_cons, List.length_nil, Nat.reduceAdd, Nat.reduceSub, Array.replicate_succ, Array.replicate_zero, List.push_toArray, List.append_toArray, List.nil_append, List.cons_append]
  gi_wp2_with (refine ⟨trivial, ?_⟩; gi_at_call 76; refine (callsIn_wide.2 (PC _ HV.out).out).mono ?_; rintro e w1 ⟨rfl, hb1⟩
               have y1 := hid hb1; clear hb1)
  refine ⟨trivial, ?_⟩
  refine (callsIn_wide.2 (PE _ HWS.out (by rw [← HD1.out]; exact HV.out.call y1.out) (HL.out.call y1.out)).out).mono ?_; rintro e w2 ⟨⟨u, rfl, hu⟩, hb2⟩
  have y2 := hid (bnext y1.out hb2)
  clear hb2
  have hu2 := hid hu
  obtain ⟨a5, c5, rfl, r1, r2, r3⟩ := hu.openS
  rw [endL_length] at hu2 r1 ⊢
  obtain ⟨g, o, rfl, hg, hc⟩ := r3 m _ (endL_get (by rw [HLEN.out]; omega))
  rw [pre_all (by rw [HLEN.out]; omega)] at hc
  rw [HLEN.out] at r1 ⊢
  obtain ⟨S0, hS0⟩ : ∃ s, numB ws.sum = s := ⟨_, rfl⟩
  have HS0 := hid hS0
  rw [hS0] at hc
  have e1 : IntKind.i64.wrap (((m + 1 : Nat) : Int) - 1) = (m : Int) := by rw [IntWalk.i64_in _ ⟨by omega, by omega⟩]; omega
  have b1 : (0 : Int) ≤ (m : Int) := by omega
  have b2 : (m : Int) < (m : Int) + 1 := by omega
  clear hu hu2 r3 hS0
  gi_wp2_with fail
  have A3 := hid ((Below.refl w2.heap.size w2).alloc (Nat.le_refl _) (.cells #[.string S0] 23))
  have X3 := hid (Blk.new w2 #[.string S0] 23)
  refine ⟨trivial, ?_⟩
  refine (callsIn_wide.2 (PP _ ((HL.out.call y2.out).call A3.out)).out).mono ?_; rintro e w3 ⟨rfl, hb3⟩
  have X4 := hid (X3.out.call hb3)
  have y3 := hid (bnext y2.out (A3.out.trans (hb3.mono A3.out.size)))
  have hlt := hid (show w2.heap.size < w3.heap.size from X4.out.lt)
  clear hb3 hc hg
  gi_wp2_with fail
  refine ⟨trivial, ?_⟩
  refine (callsIn_wide.2 (p_scan _ _ _ _)).mono ?_; rintro e w' ⟨rfl, rfl⟩
  gi_wp2_with fail
  obtain ⟨W0, hW0⟩ : ∃ W0, ((((((w3.alloc (.cells #[.string T0] 23)).alloc (.cells #[.string T0] 23)).alloc (.map #[] 0)).alloc (.cells #[.map (some (w3.heap.size + 1 + 1))] 102)).alloc (.cells #[.int .i64 0] 3)).alloc (.cells #[.slice a (m + 1) c] 55)) = W0 := ⟨_, rfl⟩
  have d0 : Blk W0 w3.heap.size #[.string T0] 23 := by rw [← hW0]; exact (((((Blk.new w3 _ _).alloc _).alloc _).alloc _).alloc _).alloc _
  have d1 : Blk W0 (w3.heap.size + 1) #[.string T0] 23 := by rw [← hW0]; exact ((((Blk.made _ _ _ (by simp)).alloc _).alloc _).alloc _).alloc _
  have d2 : W0.ownsMap Tryz.prog 9 (plainElem (H := H) Tryz.prog 23) (w3.heap.size + 1 + 1) 0 (.map []) := by
    rw [← hW0]
    have h := World.ownsMap_made (H := H) ((w3.alloc (.cells #[.string T0] 23)).alloc (.cells #[.string T0] 23)) Tryz.prog 9 (plainElem Tryz.prog 23)
    simp only [World.size_alloc] at h
    exact ((h.alloc _).alloc _).alloc _
  have d3 : Blk W0 (w3.heap.size + 1 + 1 + 1) #[.map (some (w3.heap.size + 1 + 1))] 102 := by rw [← hW0]; exact ((Blk.made _ _ _ (by simp)).alloc _).alloc _
  have d4 : Blk W0 (w3.heap.size + 1 + 1 + 1 + 1) #[.int .i64 0] 3 := by rw [← hW0]; exact (Blk.made _ _ _ (by simp)).alloc _
  have d5 : Blk W0 (w3.heap.size + 1 + 1 + 1 + 1 + 1) #[.slice a (m + 1) c] 55 := by rw [← hW0]; exact Blk.made _ _ _ (by simp)
  have d6 : Below w3.heap.size w3 W0 := by
    rw [← hW0]
    exact ((((((Below.refl _ _).alloc (Nat.le_refl _) _).alloc (by simp) _).alloc (by simp <;> omega) _).alloc (by simp <;> omega) _).alloc (by simp <;> omega) _).alloc (by simp <;> omega) _
  have d7 : W0.heap.size = w3.heap.size + 1 + 1 + 1 + 1 + 1 + 1 := by rw [← hW0]; simp
  rw [hW0]
  have d8 : Blk W0 w2.heap.size #[.string S0] 23 := X4.out.call d6
  have Y0 := hid d0; have Y1 := hid d1; have Y2 := hid d2; have Y3 := hid d3; have Y4 := hid d4; have Y5 := hid d5; have HB0 := hid d6; have Z0 := hid d7; have Y8 := hid d8
  clear d0 d1 d2 d3 d4 d5 d6 d7 d8 hW0
  obtain ⟨T, hT⟩ : ∃ T, w3.heap.size = T := ⟨_, rfl⟩
  rw [hT] at Y0 Y1 Y2 Y3 Y4 Y5 HB0 Z0 hlt ⊢
  have HTT := hid hT
  clear hT
  have hread : ∀ W1 W2, Below W0.heap.size W0 W1 → KpE (T + 1) (T + 1 + 1 + 1 + 1 + 1) W1 W2 → W2.cell? ⟨T + 1 + 1 + 1 + 1 + 1, 0, none⟩ = some (.slice a (m + 1) c) ∧ Row W2 (.slice a (m + 1) c) (strs (ws.map numB)) ∧ Lay W2 := fun W1 W2 b1 b2 => by
    have hs := b1.size
    have hz := Z0.out
    obtain ⟨r1, r2⟩ := b2.rest (by omega) (by omega)
    have g1 : Blk W2 (T + 1 + 1 + 1 + 1 + 1) #[.slice a (m + 1) c] 55 := r2.trans (Y5.out.call b1)
    have hb : Below w.heap.size w W2 := by
      have k1 := y3.out
      have k2 := HB0.out
      have k3 := k1.size
      have k4 := HTT.out
      exact ((k1.trans (k2.mono (by omega))).trans (b1.mono (by omega))).trans (r1.mono (by omega))
    exact ⟨g1.cell 0, by rw [← HD1.out]; exact HV.out.call hb, HL.out.call hb⟩
  refine range_ok (by omega) (gf := 155) (lb := #[.pointer (some ⟨T + 1 + 1 + 1 + 1 + 1, 0, none⟩)]) rfl (enters_of Tryz.func155 (by kernel_rfl) rfl)
    (scan_feeds (Kp := KpE (T + 1) (T + 1 + 1 + 1 + 1 + 1)) 8 (by omega) W0 _ _ ws HWS.out (KpE.refl _ _) KpE.trans hread (fun _ _ => KpE.of_below)) KpE.trans (KpE.put (by have := Z0.out; omega) (by have := Z0.out; omega)) (Below.refl _ _) (fun _ => rfl)
    (fun p W => (LawI (H := H) T (2 ^ n) ws p W ∧ Blk W (T + 1 + 1 + 1) #[.map (some (T + 1 + 1))] 102 ∧ Blk W (T + 1 + 1 + 1 + 1 + 1) #[.slice a (m + 1) c] 55) ∧ Below (T + 1) W0 W)
    (fun c p W => False)
    (OwnFrom.and (fun s X Y row hs hg hr => ⟨LawI.own (by have := Z0.out; omega) s X Y row hs.1 hg hr, hs.2.1.kept hg (fun r e => (hr r e).2), hs.2.2.kept hg (fun r e => (hr r e).2)⟩) (ownFrom_below (by have := Z0.out; omega) (by have := Z0.out; omega)))
    (fun c s X Y row hs hg hr => hs)
    ⟨⟨⟨Nat.zero_le _, Y2.out, by rw [List.length_nil, lwS, Nat.sub_zero, HT0.out]; exact Y1.out, Y4.out⟩, Y3.out, Y5.out⟩, Below.refl _ _⟩ ?act ?assign ?body ?done ?stop
  case assign =>
    intro l x W K hK
    gi_wp2
    exact hK
  case body =>
    rintro l p ⟨s, x⟩ W ⟨hd, hs, y, hy, hx⟩ ⟨⟨⟨h1, hmap, hlate, hnum⟩, h3, h5⟩, hB⟩
    dsimp only at hs hx
    subst hs hx
    obtain ⟨i, hi'⟩ : ∃ i, p.length = i := ⟨_, rfl⟩
    rw [hi'] at hd hy hmap hlate hnum ⊢
    have HI := hid hi'
    have hi3 : i < 64 := by have := HWS.out.len; omega
    have hS : 0 < ws.sum := HPOS.out
    have nt := two_nd (u := n) (by omega)
    have n1 := HWS.out.pre i
    have n2 := HWS.out.pre (i + 1)
    have n3 := HWS.out.dig y (List.mem_of_getElem? hy)
    have nS := HWS.out.sum
    have m1 : nDigits (pre ws i * 2 ^ n) ≤ 3902 := nd_mul n1 nt (by omega)
    have m2 : nDigits (pre ws (i + 1) * 2 ^ n) ≤ 3902 := nd_mul n2 nt (by omega)
    have C1 := fun V hV => hid (pk_times V (pre ws i) (2 ^ n) (by omega) (by omega) (by omega) hV)
    have C2 := fun V hV => hid (n_DivMod V (pre ws i * 2 ^ n) ws.sum (by omega) (by omega) hS hV)
    have C3 := fun V hV => hid (pk_plus V (pre ws i) y (by omega) (by omega) (by rw [← pre_succ hy]; omega) hV)
    rw [← pre_succ hy] at C3
    have C4 := fun V hV => hid (pk_times V (pre ws (i + 1)) (2 ^ n) (by omega) (by omega) (by omega) hV)
    have C5 := fun V hV => hid (n_DivMod V (pre ws (i + 1) * 2 ^ n) ws.sum (by omega) (by omega) hS hV)
    obtain ⟨R0, hR0⟩ : ∃ s, numB (pre ws (i + 1)) = s := ⟨_, rfl⟩
    obtain ⟨M1, hM1⟩ : ∃ s, numB (pre ws (i + 1) * 2 ^ n) = s := ⟨_, rfl⟩
    obtain ⟨Q1, hQ1⟩ : ∃ s, numB (pre ws (i + 1) * 2 ^ n / ws.sum) = s := ⟨_, rfl⟩
    obtain ⟨E1, hE1⟩ : ∃ s, numB (pre ws (i + 1) * 2 ^ n % ws.sum) = s := ⟨_, rfl⟩
    obtain ⟨P0, hP0⟩ : ∃ s, numB (pre ws i) = s := ⟨_, rfl⟩
    obtain ⟨X0, hX0⟩ : ∃ s, numB y = s := ⟨_, rfl⟩
    obtain ⟨M0, hM0⟩ : ∃ s, numB (pre ws i * 2 ^ n) = s := ⟨_, rfl⟩
    obtain ⟨Q0, hQ0⟩ : ∃ s, numB (pre ws i * 2 ^ n / ws.sum) = s := ⟨_, rfl⟩
    obtain ⟨E0, hE0⟩ : ∃ s, numB (pre ws i * 2 ^ n % ws.sum) = s := ⟨_, rfl⟩
    rw [hP0, hX0, hR0] at C3
    rw [hR0, HT0.out, hM1] at C4
    rw [hM1, HS0.out, hQ1, hE1] at C5
    have HCE := hid (show numB (cntE ws (2 ^ n) i) = Q1 from hQ1)
    have HBD : Hid (nDigits (cntF ws (2 ^ n) i) ≤ 4000 ∧ nDigits (cntE ws (2 ^ n) i) ≤ 4000) := ⟨by have := nDigits_mono (cntF_le (ws := ws) (2 ^ n) hS (i := i)); omega, by have := nDigits_mono (Nat.div_le_self (pre ws (i + 1) * 2 ^ n) ws.sum); unfold cntE; omega⟩
    have HCB : Hid (nDigits (cnt ws (2 ^ n) i) ≤ 4000 ∧ nDigits (2 ^ n) ≤ 4000) := ⟨by have := nDigits_mono (Nat.le_trans (cnt_le ws (2 ^ n) i hS) (Nat.sub_le _ _)); omega, by omega⟩
    have HBD2 : Hid (nDigits (pre ws i * 2 ^ n / ws.sum) ≤ 4000) := by have := nDigits_mono (Nat.div_le_self (pre ws i * 2 ^ n) ws.sum); exact (by omega : nDigits (pre ws i * 2 ^ n / ws.sum) ≤ 4000)
    clear hR0 hM1 hQ1 hE1
    rw [hP0, HT0.out, hM0] at C1
    rw [hM0, HS0.out, hQ0, hE0] at C2
    rw [hP0, hX0]
    have HP0 := hid hP0; have HX0 := hid hX0; have HM0 := hid hM0; have HQ0 := hid hQ0; have HE0 := hid hE0
    have HY := hid hy; have HMAP := hid hmap; have HLATE := hid hlate; have HNUM := hid hnum; have H3 := hid h3; have H5 := hid h5; have HB := hid hB; have HD := hid hd; have HS := hid hS
    have HTWO := hid (Y0.out.below hB (by omega))
    have HALL := hid (Y8.out.below hB (by have := hlt.out; omega))
    have hLay : Hid (Lay W) := by
      have k1 := y3.out
      have k2 := HB0.out
      have k4 := HTT.out
      exact (HL.out.call y3.out).call ((by rw [k4]; exact k2.trans (hB.mono (by omega))))
    clear hy hmap hlate hnum h3 h5 hB hd hS hP0 hX0 hM0 hQ0 hE0 nt n1 n2 n3 nS m1 m2 hi'
    have c0 := HTWO.out.cell 0
    have c1 := HALL.out.cell 0
    simp at c0 c1
    gi_wp2_with fail
    have KK : Hid (∀ w', Below W.heap.size W w' → w'.cell? ⟨T, 0, none⟩ = some (.string T0) ∧ w'.cell? ⟨w2.heap.size, 0, none⟩ = some (.string S0)) := fun w' hb => ⟨(HTWO.out.call hb).cell 0, (HALL.out.call hb).cell 0⟩
    refine held_round (fun w' => w'.cell? ⟨T, 0, none⟩ = some (.string T0) ∧ w'.cell? ⟨w2.heap.size, 0, none⟩ = some (.string S0)) (by kernel_rfl) (by kernel_rfl) ?_
    refine held_more (is := [0, 1, 3]) (g := 9) (by kernel_rfl) rfl (KK.out _ (Below.refl _ _).drew) (by kernel_rfl) ?_
    iterate 3
      refine ⟨_, rfl, ?_⟩
      apply Exists.intro
      refine ⟨.inl ⟨by rfl, ?_⟩, ?_⟩
      · (intro W' hW'; obtain ⟨q1, q2⟩ := hW'; go_simp; try (with_reducible rfl))
      (dsimp only [Act.put]; try simp only [List.setIfInBounds_toArray, List.set_cons_zero, List.set_cons_succ])
    refine held_one (i := 2) (by kernel_rfl) (by rfl) (by rfl) ?_
    go_wp2_with fail
    refine (C1 _ (hLay.out.call (Below.refl _ _).drew)).out.mono ?_; rintro e w4 ⟨rfl, hb4⟩
    have x4 := hid (show Below W.heap.size W w4 from (Below.refl _ _).drew.trans hb4)
    clear hb4
    go_wp2_with fail
    refine ⟨KK.out _ x4.out, ?_⟩
    refine held_one (i := 4) (by kernel_rfl) (by rfl) (by rfl) ?_
    go_wp2_with fail
    refine (C2 _ (hLay.out.call x4.out)).out.mono ?_; rintro e w5 ⟨rfl, hb5⟩
    have x5 := hid (bnext x4.out hb5)
    clear hb5
    go_wp2_with fail
    refine ⟨KK.out _ x5.out, ?_⟩
    refine held_more (is := [5, 6, 7, 8, 9, 10, 11]) (g := 0) (by kernel_rfl) rfl (KK.out _ x5.out) (by kernel_rfl) ?_
    iterate 7
      refine ⟨_, rfl, ?_⟩
      apply Exists.intro
      refine ⟨.inl ⟨by rfl, ?_⟩, ?_⟩
      · (intro W' hW'; obtain ⟨q1, q2⟩ := hW'; go_simp; try (with_reducible rfl))
      (dsimp only [Act.put]; try simp only [List.setIfInBounds_toArray, List.set_cons_zero, List.set_cons_succ])
    refine wpAnyH_done (by kernel_rfl) ?_ _
    simp only [Only]
    have HF : Hid (cntF ws (2 ^ n) i = pre ws i * 2 ^ n / ws.sum + (if pre ws i * 2 ^ n % ws.sum ≠ 0 then 1 else 0)) := rfl
    obtain ⟨F0, hF0⟩ : ∃ s, numB (cntF ws (2 ^ n) i) = s := ⟨_, rfl⟩
    have HQF := hid hF0
    have C7 := fun V => hid (pk_cmp V (cntE ws (2 ^ n) i) (cntF ws (2 ^ n) i) HBD.out.2 HBD.out.1)
    rw [HCE.out, hF0] at C7
    obtain ⟨z, hz⟩ : ∃ z, ordN (cntE ws (2 ^ n) i) (cntF ws (2 ^ n) i) = z := ⟨_, rfl⟩
    rw [hz] at C7
    have HZ := hid (show decide (z > 0) = decide (cntF ws (2 ^ n) i < cntE ws (2 ^ n) i) from by rw [← hz]; exact ordN_pos)
    clear hF0 hz
    obtain ⟨tb, htb⟩ : ∃ b, (E0.toList == [48]) = b := ⟨_, rfl⟩
    gi_upto_if 65 with fail
    have HTB := hid htb
    clear htb
    gi_cut [16] from 23 (fun s16 wc => s16 = .string F0 ∧ Below W.heap.size W wc)
    case first =>
      by_cases hr0 : pre ws i * 2 ^ n % ws.sum = 0
      · have hF : numB (cntF ws (2 ^ n) i) = Q0 := by rw [HF.out, if_neg (by simpa using hr0), Nat.add_zero]; exact HQ0.out
        have HE := hid (hF.symm.trans HQF.out)
        obtain rfl : true = tb := by rw [← HTB.out, ← HE0.out, hr0, numB_zero, Lib.toList_data]; rfl
        clear hF hr0
        gi_wp2_with fail
        gi_meet
        case rel => exact ⟨by rw [HE.out], x5.out⟩
      · have hF : cntF ws (2 ^ n) i = pre ws i * 2 ^ n / ws.sum + 1 := by rw [HF.out, if_pos hr0]
        have he0 : ¬ E0 = ⟨[48].toArray⟩ := by rw [← HE0.out, ← numB_zero]; exact numB_ne hr0
        obtain rfl : false = tb := by rw [← HTB.out]; exact (ne_lit he0).symm
        have C6 := fun V hV => hid (pk_plus V (pre ws i * 2 ^ n / ws.sum) 1 HBD2.out (by rw [nDigits_one]; omega) (by rw [← hF]; exact HBD.out.1) hV)
        rw [HQ0.out, numB_one, ← hF, HQF.out] at C6
        clear hF hr0 he0
        gi_wp2_with fail
        refine ⟨trivial, ?_⟩
        refine (CallsIn.inRound _ (callsIn_wide.2 (C6 _ (hLay.out.call x5.out)).out)).mono ?_; rintro e w6 ⟨rfl, hb6⟩
        have xF := hid (bnext x5.out hb6)
        clear hb6
        gi_wp2_with fail
        gi_meet
        case rel => exact ⟨rfl, xF.out⟩
    case rest =>
      obtain ⟨rfl, hxF⟩ := hcut
      have xF := hid hxF
      clear hxF
      gi_wp2_with fail
      refine held_round (fun w' => w'.cell? ⟨T, 0, none⟩ = some (.string T0) ∧ w'.cell? ⟨w2.heap.size, 0, none⟩ = some (.string S0)) (by kernel_rfl) (by kernel_rfl) ?_
      refine held_more (is := [0, 1, 3, 5]) (g := 10) (by kernel_rfl) rfl (KK.out _ xF.out.drew) (by kernel_rfl) ?_
      iterate 4
        refine ⟨_, rfl, ?_⟩
        apply Exists.intro
        refine ⟨.inl ⟨by rfl, ?_⟩, ?_⟩
        · (intro W' hW'; obtain ⟨q1, q2⟩ := hW'; go_simp; try (with_reducible rfl))
        (dsimp only [Act.put]; try simp only [List.setIfInBounds_toArray, List.set_cons_zero, List.set_cons_succ])
      refine held_one (i := 2) (by kernel_rfl) (by rfl) (by rfl) ?_
      go_wp2_with fail
      refine (C3 _ (hLay.out.call xF.out.drew)).out.mono ?_; rintro e w7 ⟨rfl, hb7⟩
      have x7 := hid (bnext xF.out.drew hb7)
      clear hb7
      go_wp2_with fail
      refine ⟨KK.out _ x7.out, ?_⟩
      refine held_one (i := 4) (by kernel_rfl) (by rfl) (by rfl) ?_
      go_wp2_with fail
      refine (C4 _ (hLay.out.call x7.out)).out.mono ?_; rintro e w8 ⟨rfl, hb8⟩
      have x8 := hid (bnext x7.out hb8)
      clear hb8
      go_wp2_with fail
      refine ⟨KK.out _ x8.out, ?_⟩
      refine held_one (i := 6) (by kernel_rfl) (by rfl) (by rfl) ?_
      go_wp2_with fail
      refine (C5 _ (hLay.out.call x8.out)).out.mono ?_; rintro e w9 ⟨rfl, hb9⟩
      have x9 := hid (bnext x8.out hb9)
      clear hb9
      go_wp2_with fail
      refine ⟨KK.out _ x9.out, ?_⟩
      refine held_more (is := [7, 8, 9, 10, 11, 12, 13]) (g := 0) (by kernel_rfl) rfl (KK.out _ x9.out) (by kernel_rfl) ?_
      iterate 7
        refine ⟨_, rfl, ?_⟩
        apply Exists.intro
        refine ⟨.inl ⟨by rfl, ?_⟩, ?_⟩
        · (intro W' hW'; obtain ⟨q1, q2⟩ := hW'; go_simp; try (with_reducible rfl))
        (dsimp only [Act.put]; try simp only [List.setIfInBounds_toArray, List.set_cons_zero, List.set_cons_succ])
      refine wpAnyH_done (by kernel_rfl) ?_ _
      simp only [Only]
      gi_wp2_with fail
      refine ⟨trivial, ?_⟩
      refine (CallsIn.inRound _ (callsIn_wide.2 (C7 _).out)).mono ?_; rintro e w10 ⟨rfl, hb10⟩
      have x10 := hid (bnext x9.out hb10)
      clear hb10
      have k4 := (HNUM.out.call x10.out).cell 0
      have k5 := (HNUM.out.call x10.out).free 0
      simp at k4
      have wi : IntKind.i64.wrap ((i : Int) + 1) = ((i + 1 : Nat) : Int) := by rw [IntWalk.i64_in _ ⟨by omega, by omega⟩]; omega
      by_cases hlt2 : cntF ws (2 ^ n) i < cntE ws (2 ^ n) i
      · have z0 : decide (z > 0) = true := by rw [HZ.out]; simpa using hlt2
        have HLT2 := hid hlt2
        have hT := two_nd (u := n) (by omega)
        have C8 := fun V hV => hid (pk_less V (cntE ws (2 ^ n) i) (cntF ws (2 ^ n) i) HBD.out.2 HBD.out.1 (Nat.le_of_lt hlt2) hV)
        have hcl := cnt_le ws (2 ^ n) i HS.out
        have C9 := fun V hV => hid (pk_less V (2 ^ n - lwS ws (2 ^ n) i) (cnt ws (2 ^ n) i) (by have := nDigits_mono (Nat.sub_le (2 ^ n) (lwS ws (2 ^ n) i)); omega) (by have := nDigits_mono (Nat.le_trans hcl (Nat.sub_le _ _)); omega) hcl hV)
        obtain ⟨K0, hK0⟩ : ∃ s, numB (cnt ws (2 ^ n) i) = s := ⟨_, rfl⟩
        rw [HCE.out, HQF.out, show numB (cntE ws (2 ^ n) i - cntF ws (2 ^ n) i) = K0 from hK0] at C8
        obtain ⟨G0, hG0⟩ : ∃ s, numB (2 ^ n - lwS ws (2 ^ n) i) = s := ⟨_, rfl⟩
        obtain ⟨G1, hG1⟩ : ∃ s, numB (2 ^ n - lwS ws (2 ^ n) i - cnt ws (2 ^ n) i) = s := ⟨_, rfl⟩
        rw [hG0, hK0, hG1] at C9
        have HLT := hid (hG0 ▸ HLATE.out : Blk W (T + 1) #[.string G0] 23)
        have HK0 := hid hK0; have HG1 := hid hG1
        clear hlt2 hT hcl hK0 hG0 hG1 k4 k5
        gi_wp2_with fail
        refine ⟨trivial, ?_⟩
        refine (CallsIn.inRound _ (callsIn_wide.2 (C8 _ (hLay.out.call x10.out)).out)).mono ?_; rintro e w11 ⟨rfl, hb11⟩
        have x11 := hid (bnext x10.out hb11)
        have k6 := (HLT.out.call x11.out).cell 0
        have k7 := (HLT.out.call x11.out).free 0
        simp at k6
        clear hb11
        gi_wp2_with fail
        refine ⟨trivial, ?_⟩
        refine (CallsIn.inRound _ (callsIn_wide.2 (C9 _ (hLay.out.call x11.out)).out)).mono ?_; rintro e w12 ⟨rfl, hb12⟩
        have x12 := hid (bnext x11.out hb12)
        clear hb12 k6 k7
        have k7 := (HLT.out.call x12.out).free 0
        have k8 := (HLT.out.call x12.out).cell 0
        simp at k8
        gi_wp2_with fail
        have hz0 := Z0.out
        have hsz := HB.out.size
        have hx := x12.out.size
        obtain ⟨V, hV⟩ : ∃ V, w12.setCell ⟨T + 1, 0, none⟩ (.string G1) = V := ⟨_, rfl⟩
        have v3 : Blk V (T + 1 + 1 + 1) #[.map (some (T + 1 + 1))] 102 := by rw [← hV]; exact (H3.out.call x12.out).other (a := ⟨T + 1, 0, none⟩) (by simp) _
        have v4 : Blk V (T + 1 + 1 + 1 + 1) #[.int .i64 (i : Nat)] 3 := by rw [← hV]; exact (HNUM.out.call x12.out).other (a := ⟨T + 1, 0, none⟩) (by simp <;> omega) _
        have v0 : Blk V T #[.string T0] 23 := by rw [← hV]; exact (HTWO.out.call x12.out).other (a := ⟨T + 1, 0, none⟩) (by simp) _
        have v5 : Blk V (T + 1 + 1 + 1 + 1 + 1) #[.slice a (m + 1) c] 55 := by rw [← hV]; exact (H5.out.call x12.out).other (a := ⟨T + 1, 0, none⟩) (by simp <;> omega) _
        have v1 : Blk V (T + 1) #[.string G1] 23 := by rw [← hV]; exact (HLT.out.call x12.out).set 0 _
        have vm : V.ownsMap Tryz.prog 9 (plainElem (H := H) Tryz.prog 23) (T + 1 + 1) i (lawD ws (2 ^ n) i) := by
          rw [← hV]
          exact (HMAP.out.kept (row := none) ⟨x12.out.os, x12.out.tape, x12.out.output, x12.out.size, fun k hk _ => x12.out.block k hk⟩ (by simp)).kept (grownBy_setCell' w12 (T + 1) (.string G1)) (by simp)
        have vb : Below (T + 1) W V := by rw [← hV]; exact (x12.out.mono (by omega)).setCell (by simp) _
        have vk : KeepsFrom W0.heap.size W V := by
          rw [← hV]
          exact KeepsFrom.trans ⟨x12.out.size, fun k o hk ho hc => (x12.out.block k (Array.getElem?_eq_some_iff.1 ho).1).trans ho⟩ ((KeepsOthers.setCell _ _ _).from _)
        have vL : Lay V := by
          have q := HL.out.lt
          have h1 := y3.out.size
          have h2 := HTT.out
          exact Lay.below hLay.out vb ⟨Nat.lt_of_lt_of_le q.1 (by omega), Nat.lt_of_lt_of_le q.2 (by omega)⟩
        have hsv := vb.size
        have V0 := hid v0; have V1 := hid v1; have V3 := hid v3; have V4 := hid v4; have V5 := hid v5; have VM := hid vm; have VB := hid vb; have VK := hid vk; have VL := hid vL; have HSV := hid hsv
        have KV : Hid (∀ w', Below V.heap.size V w' → w'.cell? ⟨T, 0, none⟩ = some (.string T0) ∧ w'.cell? ⟨T + 1 + 1 + 1, 0, none⟩ = some (.map (some (T + 1 + 1))) ∧ w'.cell? ⟨T + 1 + 1 + 1 + 1, 0, none⟩ = some (.int .i64 (i : Nat))) := fun w' hb => ⟨(V0.out.call hb).cell 0, (V3.out.call hb).cell 0, (V4.out.call hb).cell 0⟩
        have C10 := fun V hV => hid (s_Itoa V i (by omega) hV)
        have C11 := fun V hV => hid (pk_make V (cnt ws (2 ^ n) i) (2 ^ n) HCB.out.1 HCB.out.2 (Nat.ne_of_gt (Nat.pow_pos (by omega))) hV)
        obtain ⟨I0, hI0⟩ : ∃ s, numB i = s := ⟨_, rfl⟩
        obtain ⟨J0, hJ0⟩ : ∃ s, shB (cnt ws (2 ^ n) i) (2 ^ n) = s := ⟨_, rfl⟩
        obtain ⟨oe, hoe⟩ : ∃ s, outE (qmk false (cnt ws (2 ^ n) i) (2 ^ n)) = s := ⟨_, rfl⟩
        rw [hI0] at C10
        rw [HK0.out, HT0.out, hJ0, hoe] at C11
        have HI0 := hid hI0; have HJ0 := hid hJ0
        rw [hV]
        clear v0 v1 v3 v4 v5 vm vb vk vL hsv hV hI0 hJ0 hoe k7 k8 hz0 hsz hx
        refine held_round (fun w' => w'.cell? ⟨T, 0, none⟩ = some (.string T0) ∧ w'.cell? ⟨T + 1 + 1 + 1, 0, none⟩ = some (.map (some (T + 1 + 1))) ∧ w'.cell? ⟨T + 1 + 1 + 1 + 1, 0, none⟩ = some (.int .i64 (i : Nat))) (by kernel_rfl) (by kernel_rfl) ?_
        refine held_more (is := [0, 1, 3, 4]) (g := 6) (by kernel_rfl) rfl (KV.out _ (Below.refl _ _).drew) (by kernel_rfl) ?_
        iterate 4
          refine ⟨_, rfl, ?_⟩
          apply Exists.intro
          refine ⟨.inl ⟨by rfl, ?_⟩, ?_⟩
          · (intro W' hW'; obtain ⟨q1, q2, q3⟩ := hW'; go_simp; try (with_reducible rfl))
          (dsimp only [Act.put]; try simp only [List.setIfInBounds_toArray, List.set_cons_zero, List.set_cons_succ])
        refine held_one (i := 2) (by kernel_rfl) (by rfl) (by rfl) ?_
        go_wp2_with fail
        refine (C10 _ (VL.out.call (Below.refl _ _).drew)).out.mono ?_; rintro e w13 ⟨rfl, hb13⟩
        have x13 := hid (show Below V.heap.size V w13 from (Below.refl _ _).drew.trans hb13)
        clear hb13
        go_wp2_with fail
        refine ⟨KV.out _ x13.out, ?_⟩
        refine held_one (i := 5) (by kernel_rfl) (by rfl) (by rfl) ?_
        go_wp2_with fail
        refine (C11 _ (VL.out.call x13.out)).out.mono ?_; rintro e w14 ⟨rfl, hb14⟩
        have x14 := hid (bnext x13.out hb14)
        clear hb14
        go_wp2_with fail
        refine ⟨KV.out _ x14.out, ?_⟩
        refine held_more (is := [6, 7, 8]) (g := 1) (by kernel_rfl) rfl (KV.out _ x14.out) (by kernel_rfl) ?_
        iterate 3
          refine ⟨_, rfl, ?_⟩
          apply Exists.intro
          refine ⟨.inl ⟨by rfl, ?_⟩, ?_⟩
          · (intro W' hW'; obtain ⟨q1, q2, q3⟩ := hW'; go_simp; try (with_reducible rfl))
          (dsimp only [Act.put]; try simp only [List.setIfInBounds_toArray, List.set_cons_zero, List.set_cons_succ])
        refine held_one (i := 9) (by kernel_rfl) (by rfl) (by rfl) ?_
        have hIs : I0.size ≤ maxLen := by rw [← HI0.out, numB_size]; have := nDigits_le (n := i) (k := 2) (by omega) (by omega); unfold maxLen; omega
        have hJs : J0.size ≤ maxLen := by rw [← HJ0.out]; exact shB_size _ _
        have lt15 := HSV.out
        refine wpList_mapUpdate_own _ rfl _ _ _ 102 rfl 9 23 lawKeyed Tryz.underlying102 _ (T + 1 + 1) i _ rfl (VM.out.kept (row := none) ⟨x14.out.os, x14.out.tape, x14.out.output, x14.out.size, fun k hk _ => x14.out.block k hk⟩ (by simp)) (by unfold maxLen; omega) _ _ _ rfl rfl (Go.WideMaps.keyOf_string_mk Tryz.underlying9 hIs) _ [] (plainElem_string Tryz.underlying23 hJs) ?_
        intro w15 hown hgrow
        have U3 := hid ((V3.out.call x14.out).grown hgrow (fun e => by injection e with e; omega))
        have U4 := hid ((V4.out.call x14.out).grown hgrow (fun e => by injection e with e; omega))
        have U5 := hid ((V5.out.call x14.out).grown hgrow (fun e => by injection e with e; omega))
        have U0 := hid ((V0.out.call x14.out).grown hgrow (fun e => by injection e with e; omega))
        have U1 := hid ((V1.out.call x14.out).grown hgrow (fun e => by injection e with e; omega))
        have UM := hid hown
        have UB := hid (below_gb (VB.out.trans (x14.out.mono (by have := VB.out.size; have := Z0.out; have := HB.out.size; omega))) (by have := x14.out.size; have := Z0.out; have := HB.out.size; omega) hgrow (by omega))
        have UK : Hid (KeepsFrom W0.heap.size W w15) := VK.out.trans (KeepsFrom.trans ⟨x14.out.size, fun k o hk ho hc => (x14.out.block k (Array.getElem?_eq_some_iff.1 ho).1).trans ho⟩ ⟨hgrow.size, fun k o hk ho hc => (hgrow.block k (Array.getElem?_eq_some_iff.1 ho).1 (by have := Z0.out; simp; omega)).trans ho⟩)
        have m3 := U3.out.cell 0
        have m0 := U0.out.cell 0
        have m4 := U4.out.cell 0
        have m5 := U4.out.free 0
        simp at m0 m3 m4
        clear hown hgrow lt15
        go_wp2_with fail
        refine ⟨⟨m0, m3, m4⟩, ?_⟩
        refine wpAnyH_done (by kernel_rfl) ?_ _
        simp only [Only]
        gi_wp2_with fail
        have hz0 := Z0.out
        have hsz := HB.out.size
        have hx := UB.out.size
        have g5 := U5.out.other (a := ⟨T + 1 + 1 + 1 + 1, 0, none⟩) (by simp <;> omega) (.int .i64 ((i + 1 : Nat) : Int))
        have g3 := U3.out.other (a := ⟨T + 1 + 1 + 1 + 1, 0, none⟩) (by simp <;> omega) (.int .i64 ((i + 1 : Nat) : Int))
        have g1 := U1.out.other (a := ⟨T + 1 + 1 + 1 + 1, 0, none⟩) (by simp <;> omega) (.int .i64 ((i + 1 : Nat) : Int))
        have g4 := U4.out.set 0 (.int .i64 ((i + 1 : Nat) : Int))
        have gm := UM.out.kept (grownBy_setCell' w15 (T + 1 + 1 + 1 + 1) (.int .i64 ((i + 1 : Nat) : Int))) (by simp <;> omega)
        have eD : lawD (H := H) ws (2 ^ n) (i + 1) = (lawD ws (2 ^ n) i).put (.string (numB i).data.toList) (.lit (.string (shB (cnt ws (2 ^ n) i) (2 ^ n)).data.toList)) := by rw [lawD, if_pos HLT2.out]
        have eS : 2 ^ n - lwS ws (2 ^ n) (i + 1) = 2 ^ n - lwS ws (2 ^ n) i - cnt ws (2 ^ n) i := by rw [lwS]; omega
        refine ⟨KeepsFrom.trans UK.out ((KeepsOthers.setCell _ _ _).from _), ⟨by simpa [World.setCell] using hx, fun _ _ => ⟨UB.out.setCell (by simp <;> omega) _, g5.trans (Eq.symm H5.out)⟩⟩, ⟨⟨?_, ?_, ?_, ?_⟩, g3, g5⟩, (HB.out.trans UB.out).setCell (by simp <;> omega) _⟩
        · rw [List.length_append, List.length_singleton, HI.out]; exact HD.out
        · rw [List.length_append, List.length_singleton, HI.out, eD, HI0.out, HJ0.out]; exact gm
        · rw [List.length_append, List.length_singleton, HI.out, eS, HG1.out]; exact g1
        · rw [List.length_append, List.length_singleton, HI.out]; exact g4
      · have z0 : decide (z > 0) = false := by rw [HZ.out]; simpa using hlt2
        have HLT2 := hid hlt2
        clear hlt2
        gi_wp2_with fail
        have hz0 := Z0.out
        have hsz := HB.out.size
        have hx := x10.out.size
        have g5 := (H5.out.call x10.out).other (a := ⟨T + 1 + 1 + 1 + 1, 0, none⟩) (by simp <;> omega) (.int .i64 ((i + 1 : Nat) : Int))
        have g3 := (H3.out.call x10.out).other (a := ⟨T + 1 + 1 + 1 + 1, 0, none⟩) (by simp <;> omega) (.int .i64 ((i + 1 : Nat) : Int))
        have g1 := (HLATE.out.call x10.out).other (a := ⟨T + 1 + 1 + 1 + 1, 0, none⟩) (by simp <;> omega) (.int .i64 ((i + 1 : Nat) : Int))
        have g4 := (HNUM.out.call x10.out).set 0 (.int .i64 ((i + 1 : Nat) : Int))
        have gm := (HMAP.out.kept (row := none) ⟨x10.out.os, x10.out.tape, x10.out.output, x10.out.size, fun k hk _ => x10.out.block k hk⟩ (by simp)).kept (grownBy_setCell' w10 (T + 1 + 1 + 1 + 1) (.int .i64 ((i + 1 : Nat) : Int))) (by simp <;> omega)
        have eD : lawD (H := H) ws (2 ^ n) (i + 1) = lawD ws (2 ^ n) i := by rw [lawD, if_neg HLT2.out]
        have eS : lwS ws (2 ^ n) (i + 1) = lwS ws (2 ^ n) i := by rw [lwS, cnt]; have := HLT2.out; omega
        refine ⟨KeepsFrom.trans ⟨x10.out.size, fun k o hk ho hc => (x10.out.block k (Array.getElem?_eq_some_iff.1 ho).1).trans ho⟩ ((KeepsOthers.setCell _ _ _).from _), ⟨by simpa [World.setCell] using x10.out.size, fun _ _ => ⟨(x10.out.mono (by omega)).setCell (by simp <;> omega) _, g5.trans (Eq.symm H5.out)⟩⟩, ⟨⟨?_, ?_, ?_, ?_⟩, g3, g5⟩, (HB.out.trans (x10.out.mono (by omega))).setCell (by simp <;> omega) _⟩
        · rw [List.length_append, List.length_singleton, HI.out]; exact HD.out
        · rw [List.length_append, List.length_singleton, HI.out, eD]; exact gm.mono (Nat.le_succ _)
        · rw [List.length_append, List.length_singleton, HI.out, eS]; exact g1
        · rw [List.length_append, List.length_singleton, HI.out]; exact g4
  case done =>
    rintro D' xs W hD hS ⟨⟨⟨h1, hmap, hlate, hnum⟩, h3, h5⟩, hB⟩ hK
    rw [hS] at hmap hlate
    have hlw := lwS_fit ws (2 ^ n) ws.length HPOS.out
    have nt := two_nd (u := n) (by omega)
    have hnd : Hid (nDigits (2 ^ n - lwS ws (2 ^ n) ws.length) ≤ 4000 ∧ nDigits (2 ^ n) ≤ 4000) := ⟨by have := nDigits_mono (Nat.sub_le (2 ^ n) (lwS ws (2 ^ n) ws.length)); omega, by omega⟩
    obtain ⟨L, hL⟩ : ∃ L, 2 ^ n - lwS ws (2 ^ n) ws.length = L := ⟨_, rfl⟩
    rw [hL] at hlate hnd
    have HLL := hid hL
    obtain ⟨L0, hL0⟩ : ∃ s, numB L = s := ⟨_, rfl⟩
    rw [hL0] at hlate
    have HL0 := hid hL0
    have HMAP := hid hmap; have HLATE := hid hlate; have H3 := hid h3; have HB := hid hB; have HK := hid hK; have HDD := hid hD; have HWL := hid HLEN.out
    have hLay : Hid (Lay W) := by
      have k1 := y3.out
      have k2 := HB0.out
      have k4 := HTT.out
      exact (HL.out.call y3.out).call ((by rw [k4]; exact k2.trans (hB.mono (by omega))))
    have HTWO := hid (Y0.out.below hB (by omega))
    have c0 := HTWO.out.cell 0
    have c1 := HLATE.out.cell 0
    have c3 := H3.out.cell 0
    simp at c0 c1 c3
    clear hS h1 hmap hlate hnum h3 h5 hB hK hD hL hL0 hlw nt
    by_cases hz : L = 0
    · have hl0 : L0 = ⟨#[48]⟩ := by rw [← HL0.out, hz, numB_zero]
      subst hl0
      have HZ := hid hz
      clear hz
      gi_wp2_with fail
      refine marks_end HK.out (v := .tuple #[.map (some (T + 1 + 1)), .int .i64 0]) (by simp [results, Tryz.results87, go_sem]) ⟨⟨_, rfl, ?_⟩, ?_⟩
      · have hm2 := HMAP.out.kept (grownBy_putObj' W D' (.deferred none)) (fun e => by injection e with e; have := HDD.out; have := Z0.out; omega)
        rw [lawM, if_pos (by rw [← HWL.out, HLL.out, HZ.out]), ← HWL.out]
        exact hm2.mono (Nat.le_succ _)
      · have k1 := y3.out
        have k2 := HTT.out
        have k3 := k1.size
        refine ((k1.trans (HB0.out.mono (by omega))).trans (HB.out.mono (by omega))).trans (belowK_b (w := w) (Nat.le_refl _) _ D' _ _ (by have := Z0.out; have := HDD.out; omega) HK.out rfl rfl)
    · have he0 : ¬ L0 = ⟨[48].toArray⟩ := by rw [← HL0.out, ← numB_zero]; exact numB_ne hz
      have hne := ne_lit he0
      have HNZ := hid hz
      have C1 := fun V hV => hid (pk_make V L (2 ^ n) hnd.out.1 hnd.out.2 (Nat.ne_of_gt (Nat.pow_pos (by omega))) hV)
      obtain ⟨J0, hJ0⟩ : ∃ s, shB L (2 ^ n) = s := ⟨_, rfl⟩
      obtain ⟨oe, hoe⟩ : ∃ s, outE (qmk false L (2 ^ n)) = s := ⟨_, rfl⟩
      rw [HL0.out, HT0.out, hJ0, hoe] at C1
      have HJ0 := hid hJ0
      have KV : Hid (∀ w', Below W.heap.size W w' → w'.cell? ⟨T, 0, none⟩ = some (.string T0) ∧ w'.cell? ⟨T + 1, 0, none⟩ = some (.string L0) ∧ w'.cell? ⟨T + 1 + 1 + 1, 0, none⟩ = some (.map (some (T + 1 + 1)))) := fun w' hb => ⟨(HTWO.out.call hb).cell 0, (HLATE.out.call hb).cell 0, (H3.out.call hb).cell 0⟩
      clear hz he0 hJ0 hoe c0 c3
      gi_wp2_with fail
      refine held_wide (fun w' => w'.cell? ⟨T, 0, none⟩ = some (.string T0) ∧ w'.cell? ⟨T + 1, 0, none⟩ = some (.string L0) ∧ w'.cell? ⟨T + 1 + 1 + 1, 0, none⟩ = some (.map (some (T + 1 + 1)))) (by kernel_rfl) ?_
      refine held_more (is := [0, 1, 2]) (g := 5) (by kernel_rfl) rfl (KV.out _ (Below.refl _ _).drew) (by kernel_rfl) ?_
      iterate 3
        refine ⟨_, rfl, ?_⟩
        apply Exists.intro
        refine ⟨.inl ⟨by rfl, ?_⟩, ?_⟩
        · (intro W' hW'; obtain ⟨q1, q2, q3⟩ := hW'; go_simp; try (with_reducible rfl))
        (dsimp only [Act.put]; try simp only [List.setIfInBounds_toArray, List.set_cons_zero, List.set_cons_succ])
      refine held_one (i := 3) (by kernel_rfl) (by rfl) (by rfl) ?_
      go_wp2_with fail
      refine (C1 _ (hLay.out.call (Below.refl _ _).drew)).out.mono ?_; rintro e w4 ⟨rfl, hb4⟩
      have x4 := hid (show Below W.heap.size W w4 from (Below.refl _ _).drew.trans hb4)
      clear hb4
      go_wp2_with fail
      refine ⟨KV.out _ x4.out, ?_⟩
      refine held_more (is := [4, 5, 6]) (g := 1) (by kernel_rfl) rfl (KV.out _ x4.out) (by kernel_rfl) ?_
      iterate 3
        refine ⟨_, rfl, ?_⟩
        apply Exists.intro
        refine ⟨.inl ⟨by rfl, ?_⟩, ?_⟩
        · (intro W' hW'; obtain ⟨q1, q2, q3⟩ := hW'; go_simp; try (with_reducible rfl))
        (dsimp only [Act.put]; try simp only [List.setIfInBounds_toArray, List.set_cons_zero, List.set_cons_succ])
      refine held_one (i := 7) (by kernel_rfl) (by rfl) (by rfl) ?_
      have hJs : J0.size ≤ maxLen := by rw [← HJ0.out]; exact shB_size _ _
      have hm64 : ws.length ≤ 64 := by have := HLEN.out; omega
      refine wpList_mapUpdate_own _ rfl _ _ _ 102 rfl 9 23 lawKeyed Tryz.underlying102 _ (T + 1 + 1) ws.length _ rfl (HMAP.out.kept (row := none) ⟨x4.out.os, x4.out.tape, x4.out.output, x4.out.size, fun k hk _ => x4.out.block k hk⟩ (by simp)) (by unfold maxLen; omega) _ _ _ rfl rfl (Go.WideMaps.keyOf_string_mk Tryz.underlying9 (by unfold maxLen; decide)) _ [] (plainElem_string Tryz.underlying23 hJs) ?_
      intro w15 hown hgrow
      have U3 := hid ((H3.out.call x4.out).grown hgrow (fun e => by injection e with e; omega))
      have U0 := hid ((HTWO.out.call x4.out).grown hgrow (fun e => by injection e with e; omega))
      have U1 := hid ((HLATE.out.call x4.out).grown hgrow (fun e => by injection e with e; omega))
      have UM := hid hown
      have UB := hid (below_gb ((HB.out).trans (x4.out.mono (by have := HB.out.size; have := Z0.out; omega))) (by have := x4.out.size; have := Z0.out; have := HB.out.size; omega) hgrow (by omega))
      have UK : Hid (w15.heap[D']? = some (.deferred (some []))) := by
        have hl := (Array.getElem?_eq_some_iff.1 HK.out).1
        have h1 := x4.out.block D' hl
        have h2 := hgrow.block D' (by have := x4.out.size; omega) (by have := HDD.out; have := Z0.out; simp; omega)
        rw [h2, h1]; exact HK.out
      have m3 := U3.out.cell 0
      have m0 := U0.out.cell 0
      have m1 := U1.out.cell 0
      simp at m0 m1 m3
      clear hown hgrow hm64 c1
      go_wp2_with fail
      refine ⟨⟨m0, m1, m3⟩, ?_⟩
      refine wpAnyH_done (by kernel_rfl) ?_ _
      simp only [Only]
      gi_wp2_with fail
      refine marks_end UK.out (v := .tuple #[.map (some (T + 1 + 1)), .int .i64 0]) (by simp [results, Tryz.results87, go_sem]) ⟨⟨_, rfl, ?_⟩, ?_⟩
      · have hm2 := UM.out.kept (grownBy_putObj' w15 D' (.deferred none)) (fun e => by injection e with e; have := HDD.out; have := Z0.out; omega)
        rw [lawM, if_neg (by rw [← HWL.out, HLL.out]; exact HNZ.out), ← HWL.out, HLL.out, HJ0.out]
        exact hm2
      · have k1 := y3.out
        have k2 := HTT.out
        have k3 := k1.size
        refine ((k1.trans (HB0.out.mono (by omega))).trans (UB.out.mono (by omega))).trans (belowK_b (w := w) (Nat.le_refl _) _ D' _ _ (by have := Z0.out; have := HDD.out; omega) UK.out rfl rfl)
  case stop =>
    rintro D' c p W hD - h hK
    exact h.elim
end Go.Proofs.YtpehhgkghgbhiaaGreatDoor
namespace Go.Proofs.YtpehhgkghgbhiaaGreatDoor
open Go.RowKit Go.Maps
open Go.Lib (decDigits nDigits)
set_option linter.unusedVariables false
/-- A pair's key, as bytes. -/
def keyL (p : ByteArray × ByteArray) : List UInt8 := p.1.data.toList
/-- D holds the pairs of L and no others. -/
structure Reads {H : Type} (D : DataW H) (L : List (ByteArray × ByteArray)) : Prop where
  map : IsMap D
  nd : (L.map keyL).Nodup
  has : ∀ k : List UInt8, Maps.has D (.string k) = true ↔ k ∈ L.map keyL
  look : ∀ p ∈ L, ∀ z, D.atKey (.string (keyL p)) z = .lit (.string p.2.data.toList)
theorem Reads.nil {H : Type} : Reads (.map [] : DataW H) [] :=
  ⟨isMap_empty, by simp, fun k => by simp [Maps.has_eq], fun p h => by simp at h⟩
theorem Reads.put {H : Type} {D : DataW H} {L : List (ByteArray × ByteArray)} (h : Reads D L) {k v : ByteArray} (hk : k.data.toList ∉ L.map keyL) :
    Reads (D.put (.string k.data.toList) (.lit (.string v.data.toList))) (L ++ [(k, v)]) := by
  refine ⟨h.map.put _ _, ?_, fun x => ?_, fun p hp z => ?_⟩
  · rw [List.map_append]
    refine List.nodup_append.2 ⟨h.nd, by simp, fun a ha b hb => ?_⟩
    simp [keyL] at hb
    subst hb
    exact fun e => hk (e ▸ ha)
  · rw [List.map_append, List.mem_append, ← h.has x]
    by_cases hx : x = k.data.toList
    · subst hx
      rw [has_put_same h.map (show WideAt.IsKeyLit (.string k.data.toList) from trivial)]
      simp [keyL]
    · rw [has_put_other (fun e => hx (by injection e))]
      simp [keyL, hx]
  · rcases List.mem_append.1 hp with hp | hp
    · rw [atKey_put_other (fun e => hk ?_), h.look p hp]
      injection e with e
      rw [← e]
      exact List.mem_map_of_mem hp
    · simp at hp
      subst hp
      exact atKey_put_same h.map (show WideAt.IsKeyLit (.string k.data.toList) from trivial) _ _
/-- Pairs by their keys. -/
def sortM (L : List (ByteArray × ByteArray)) : List (ByteArray × ByteArray) := L.mergeSort (fun p q => leB (keyL p) (keyL q))
theorem sortM_keys (L : List (ByteArray × ByteArray)) : (sortM L).map keyL = (L.map keyL).mergeSort leB := List.map_mergeSort (fun _ _ _ _ => rfl)
theorem sortM_mem {L : List (ByteArray × ByteArray)} {p : ByteArray × ByteArray} : p ∈ sortM L ↔ p ∈ L := List.mem_mergeSort
theorem sortM_length (L : List (ByteArray × ByteArray)) : (sortM L).length = L.length := List.length_mergeSort L
theorem leB_trans : ∀ a b c : List UInt8, leB a b = true → leB b c = true → leB a c = true := fun a b c h1 h2 => by simp only [leB, decide_eq_true_eq] at *; exact List.le_trans h1 h2
theorem leB_total : ∀ a b : List UInt8, (leB a b || leB b a) = true := fun a b => by simp only [leB, Bool.or_eq_true, decide_eq_true_eq]; exact List.le_total a b
theorem sortM_sorted (L : List (ByteArray × ByteArray)) : (sortM L).Pairwise (fun p q => leB (keyL p) (keyL q) = true) :=
  List.pairwise_mergeSort (le := fun p q => leB (keyL p) (keyL q)) (fun a b c => leB_trans (keyL a) (keyL b) (keyL c)) (fun a b => leB_total (keyL a) (keyL b)) L
/-- The datum's keys, sorted, are the pairs' keys, sorted. -/
theorem Reads.keys {H : Type} {P : Program} {k : TypeId} {R : Value → Option (DataW H × List MemPlace)} {w : World} {b n : Nat} {D : DataW H} {L : List (ByteArray × ByteArray)} (h : Reads D L) (hown : w.ownsMap P k R b n D) (K : Keyed P k) (hk : P.underlying k = some .string) {ss : List (List UInt8)} (hp : ss.Perm (strKeys D)) :
    ss.mergeSort leB = (sortM L).map keyL := by
  have hc : Collected D (fun _ => false) (L.map keyL) := ⟨h.nd, fun x => by rw [h.has x]; simp⟩
  have hp2 := hc.perm hown K hk (fun _ => rfl)
  rw [sortM_keys]
  exact mergeSort_of_perm (hp.trans hp2.symm)
theorem Reads.size {H : Type} {P : Program} {k : TypeId} {R : Value → Option (DataW H × List MemPlace)} {w : World} {b n : Nat} {D : DataW H} {L : List (ByteArray × ByteArray)} (h : Reads D L) (hown : w.ownsMap P k R b n D) (K : Keyed P k) (hk : P.underlying k = some .string) :
    Maps.size D = L.length := by
  have hc : Collected D (fun _ => false) (L.map keyL) := ⟨h.nd, fun x => by rw [h.has x]; simp⟩
  have hp2 := hc.perm hown K hk (fun _ => rfl)
  have := hp2.length_eq
  rw [List.length_map] at this
  rw [this]
  obtain ⟨es, rfl⟩ := h.map
  simp [strKeys, Maps.size]
/-- The cells of some masses. -/
def massC (L : List (ByteArray × ByteArray)) : List Value := L.flatMap (fun p => [.string p.1, .string p.2])
theorem massC_length (L : List (ByteArray × ByteArray)) : (massC L).length = L.length * 2 := by
  unfold massC
  induction L with
  | nil => rfl
  | cons p r ih => rw [List.flatMap_cons, List.length_append, ih, List.length_cons]; simp; omega
theorem massC_append (L M : List (ByteArray × ByteArray)) : massC (L ++ M) = massC L ++ massC M := by simp [massC]
theorem massC_get {L : List (ByteArray × ByteArray)} : ∀ {i : Nat} {p : ByteArray × ByteArray}, L[i]? = some p → (massC L)[2 * i]? = some (.string p.1) ∧ (massC L)[2 * i + 1]? = some (.string p.2) := by
  induction L with
  | nil => intro i p h; simp at h
  | cons q r ih =>
    intro i p h
    cases i with
    | zero => simp at h; subst h; exact ⟨rfl, rfl⟩
    | succ i =>
      have h' : r[i]? = some p := by simpa using h
      obtain ⟨h1, h2⟩ := ih h'
      have e : massC (q :: r) = [.string q.1, .string q.2] ++ massC r := rfl
      rw [e, show 2 * (i + 1) = 2 + 2 * i by omega]
      constructor
      · rw [List.getElem?_append_right (by simp)]; simpa using h1
      · rw [List.getElem?_append_right (by simp <;> omega)]
        simp only [List.length_cons, List.length_nil]
        rw [show 2 + 2 * i + 1 - (0 + 1 + 1) = 2 * i + 1 by omega]
        exact h2
theorem MRow.of_owns {w : World} {base n : Nat} {e : TypeId} {v : Value} {L : List (ByteArray × ByteArray)} (h : w.ownsRow base e 2 v n (massC L)) : MRow w v L := by
  have hn : n = L.length := by have := h.1; rw [massC_length] at this; omega
  subst hn
  refine ⟨?_⟩
  have hh := h
  rcases h.2 with ⟨rfl, h0⟩ | ⟨g, cap, cur, rfl, hb, hg, h1, h2, h3, h4⟩
  · exact ⟨none, 0, by rw [h0], by omega, by omega, fun i x hx => by have := (List.getElem?_eq_some_iff.1 hx).1; omega⟩
  · refine ⟨some ⟨g, 0, none⟩, cap, rfl, h1, by unfold maxLen at h2; exact h2, fun i x hx => ⟨g, 0, rfl, (Array.getElem?_eq_some_iff.1 hg).1, ?_⟩⟩
    obtain ⟨m1, m2⟩ := massC_get hx
    have k1 := hh.cells rfl _ _ m1
    have k2 := hh.cells rfl _ _ m2
    rw [Addr.add_lit] at k1 k2
    rw [← Nat.add_assoc] at k2
    exact ⟨k1, k2⟩
/-- The pairs of pick.law's map behind i indexes. -/
def lawL (ws : List Nat) (t : Nat) : Nat → List (ByteArray × ByteArray)
  | 0 => []
  | i + 1 => if cntF ws t i < cntE ws t i then lawL ws t i ++ [(numB i, shB (cnt ws t i) t)] else lawL ws t i
/-- All of them. -/
def lawP (ws : List Nat) (t N : Nat) : List (ByteArray × ByteArray) := if t - lwS ws t N = 0 then lawL ws t N else lawL ws t N ++ [(lateB, shB (t - lwS ws t N) t)]
theorem lawL_mem {ws : List Nat} {t : Nat} {p : ByteArray × ByteArray} : ∀ {N : Nat}, p ∈ lawL ws t N ↔ ∃ i, i < N ∧ cntF ws t i < cntE ws t i ∧ p = (numB i, shB (cnt ws t i) t)
  | 0 => by simp [lawL]
  | N + 1 => by
    unfold lawL
    have ih := @lawL_mem ws t p N
    by_cases h : cntF ws t N < cntE ws t N
    · rw [if_pos h, List.mem_append, ih, List.mem_singleton]
      constructor
      · rintro (⟨i, h1, h2, h3⟩ | rfl)
        · exact ⟨i, by omega, h2, h3⟩
        · exact ⟨N, by omega, h, rfl⟩
      · rintro ⟨i, h1, h2, h3⟩
        rcases Nat.lt_or_ge i N with h4 | h4
        · exact .inl ⟨i, h4, h2, h3⟩
        · obtain rfl : i = N := by omega
          exact .inr h3
    · rw [if_neg h, ih]
      constructor
      · rintro ⟨i, h1, h2, h3⟩
        exact ⟨i, by omega, h2, h3⟩
      · rintro ⟨i, h1, h2, h3⟩
        rcases Nat.lt_or_ge i N with h4 | h4
        · exact ⟨i, h4, h2, h3⟩
        · obtain rfl : i = N := by omega
          exact absurd h2 h
theorem lawL_length (ws : List Nat) (t : Nat) : ∀ N, (lawL ws t N).length ≤ N
  | 0 => by simp [lawL]
  | N + 1 => by
    unfold lawL
    have := lawL_length ws t N
    split <;> simp <;> omega
theorem lawP_length (ws : List Nat) (t N : Nat) : (lawP ws t N).length ≤ N + 1 := by
  unfold lawP
  have := lawL_length ws t N
  split <;> simp <;> omega
theorem numB_late (i : Nat) : (numB i).data.toList ≠ lateB.data.toList := by
  intro e
  have h : (108 : UInt8) ∈ decDigits i := by
    rw [← numB_list, e]; decide
  exact absurd (allDig_dec i 108 h) (by decide)
theorem reads_lawD {H : Type} (ws : List Nat) (t : Nat) : ∀ N, Reads (lawD (H := H) ws t N) (lawL ws t N)
  | 0 => Reads.nil
  | N + 1 => by
    have ih := reads_lawD (H := H) ws t N
    unfold lawD lawL
    by_cases h : cntF ws t N < cntE ws t N
    · rw [if_pos h, if_pos h]
      refine ih.put fun hm => ?_
      obtain ⟨p, hp, he⟩ := List.mem_map.1 hm
      obtain ⟨i, h1, -, rfl⟩ := lawL_mem.1 hp
      simp only [keyL, numB_list] at he
      have := dec_inj he
      omega
    · rw [if_neg h, if_neg h]; exact ih
theorem reads_lawM {H : Type} (ws : List Nat) (t N : Nat) : Reads (lawM (H := H) ws t N) (lawP ws t N) := by
  have ih := reads_lawD (H := H) ws t N
  unfold lawM lawP
  by_cases h : t - lwS ws t N = 0
  · rw [if_pos h, if_pos h]; exact ih
  · rw [if_neg h, if_neg h]
    refine ih.put (k := lateB) fun hm => ?_
    obtain ⟨p, hp, he⟩ := List.mem_map.1 hm
    obtain ⟨i, h1, -, rfl⟩ := lawL_mem.1 hp
    exact numB_late i he
end Go.Proofs.YtpehhgkghgbhiaaGreatDoor
namespace Go.Proofs
open Go.Shelf
def Tryz.keysK_ren : Go.Shelf.Ren := ⟨fun | 7 => 125 | 10 => 159 | n => n, fun | 23 => 102 | 26 => 9 | 3 => 23 | 28 => 151 | 0 => 0 | 27 => 150 | 33 => 106 | 4 => 4 | n => n, fun | n => n⟩
theorem Tryz.keysK : Go.Proofs.SlLaysZ.n7 Tryz.prog Tryz.keysK_ren := {
  mixed := by kernel_rfl
  f7 := ⟨Tryz.f125.name, by decide, Tryz.func125.trans (congrArg some (by kernel_rfl))⟩
  f10 := ⟨Tryz.f159.name, by decide, Tryz.func159.trans (congrArg some (by kernel_rfl))⟩
  t0 := Tryz.underlying0
  a0 := Tryz.isAgg0
  z0 := Tryz.sizeOf0
  v0 := Tryz.zeroValue0
  t4 := Tryz.underlying4
  a4 := Tryz.isAgg4
  z4 := Tryz.sizeOf4
  v4 := Tryz.zeroValue4
  t23 := Tryz.underlying102
  a23 := Tryz.isAgg102
  z23 := Tryz.sizeOf102
  v23 := Tryz.zeroValue102
  t26 := Tryz.underlying9
  a26 := Tryz.isAgg9
  z26 := Tryz.sizeOf9
  v26 := Tryz.zeroValue9
  t27 := Tryz.underlying150
  a27 := Tryz.isAgg150
  z27 := Tryz.sizeOf150
  v27 := Tryz.zeroValue150
  t28 := Tryz.underlying151
  a28 := Tryz.isAgg151
  z28 := Tryz.sizeOf151
  v28 := Tryz.zeroValue151
  t33 := Tryz.underlying106
  a33 := Tryz.isAgg106
  z33 := Tryz.sizeOf106
  v33 := Tryz.zeroValue106 }
def Tryz.sortedK_ren : Go.Shelf.Ren := ⟨fun | 6 => 124 | 8 => 157 | 9 => 158 | 11 => 188 | 13 => 190 | 12 => 189 | 23 => 231 | 24 => 218 | 14 => 222 | 15 => 223 | 16 => 224 | 17 => 225 | 18 => 226 | 19 => 227 | 20 => 228 | 21 => 229 | 22 => 230 | 25 => 245 | 26 => 246 | 27 => 247 | 28 => 248 | 29 => 249 | 30 => 250 | 31 => 256 | n => n, fun | 26 => 9 | 28 => 151 | 24 => 148 | 0 => 0 | 3 => 3 | 37 => 155 | 48 => 234 | 50 => 124 | 4 => 4 | 40 => 238 | 39 => 237 | 45 => 154 | 5 => 5 | 9 => 9 | 51 => 255 | 55 => 259 | 57 => 269 | 58 => 270 | 33 => 106 | n => n, fun | n => n⟩
theorem Tryz.sortedK : Go.Proofs.SlLaysZ.n6 Tryz.prog Tryz.sortedK_ren := {
  mixed := by kernel_rfl
  f6 := ⟨Tryz.f124.name, by decide, Tryz.func124.trans (congrArg some (by kernel_rfl))⟩
  f8 := ⟨Tryz.f157.name, by decide, Tryz.func157.trans (congrArg some (by kernel_rfl))⟩
  f11 := ⟨Tryz.f188.name, by decide, Tryz.func188.trans (congrArg some (by kernel_rfl))⟩
  t0 := Tryz.underlying0
  a0 := Tryz.isAgg0
  z0 := Tryz.sizeOf0
  v0 := Tryz.zeroValue0
  t24 := Tryz.underlying148
  a24 := Tryz.isAgg148
  z24 := Tryz.sizeOf148
  v24 := Tryz.zeroValue148
  t26 := Tryz.underlying9
  a26 := Tryz.isAgg9
  z26 := Tryz.sizeOf9
  v26 := Tryz.zeroValue9
  t28 := Tryz.underlying151
  a28 := Tryz.isAgg151
  z28 := Tryz.sizeOf151
  v28 := Tryz.zeroValue151
  i26 := by kernel_rfl }
def Tryz.sortK_ren : Go.Shelf.Ren := ⟨fun | 6 => 158 | 8 => 190 | 9 => 189 | 19 => 231 | 20 => 218 | 21 => 222 | 22 => 223 | 23 => 224 | 24 => 225 | 25 => 226 | 26 => 227 | 27 => 228 | 28 => 229 | 29 => 230 | 36 => 245 | 31 => 246 | 32 => 247 | 37 => 248 | 38 => 249 | 39 => 250 | 41 => 256 | n => n, fun | 27 => 148 | 29 => 9 | 3 => 3 | 32 => 155 | 26 => 148 | 0 => 0 | 44 => 234 | 46 => 124 | 4 => 4 | 36 => 238 | 35 => 237 | 41 => 154 | 5 => 5 | 9 => 9 | 53 => 255 | 57 => 259 | 63 => 269 | 64 => 270 | n => n, fun | n => n⟩
theorem Tryz.sortK : Go.Proofs.SlLaysM.n6 Tryz.prog Tryz.sortK_ren := {
  mixed := by kernel_rfl
  f6 := ⟨Tryz.f158.name, by decide, Tryz.func158.trans (congrArg some (by kernel_rfl))⟩
  f8 := Tryz.func190.trans (congrArg some (by kernel_rfl))
  f9 := ⟨Tryz.f189.name, by decide, Tryz.func189.trans (congrArg some (by kernel_rfl))⟩
  f19 := Tryz.func231.trans (congrArg some (by kernel_rfl))
  f20 := Tryz.func218.trans (congrArg some (by kernel_rfl))
  f21 := ⟨Tryz.f222.name, by decide, Tryz.func222.trans (congrArg some (by kernel_rfl))⟩
  f22 := ⟨Tryz.f223.name, by decide, Tryz.func223.trans (congrArg some (by kernel_rfl))⟩
  f23 := ⟨Tryz.f224.name, by decide, Tryz.func224.trans (congrArg some (by kernel_rfl))⟩
  f24 := ⟨Tryz.f225.name, by decide, Tryz.func225.trans (congrArg some (by kernel_rfl))⟩
  f25 := ⟨Tryz.f226.name, by decide, Tryz.func226.trans (congrArg some (by kernel_rfl))⟩
  f26 := ⟨Tryz.f227.name, by decide, Tryz.func227.trans (congrArg some (by kernel_rfl))⟩
  f27 := ⟨Tryz.f228.name, by decide, Tryz.func228.trans (congrArg some (by kernel_rfl))⟩
  f28 := ⟨Tryz.f229.name, by decide, Tryz.func229.trans (congrArg some (by kernel_rfl))⟩
  f29 := ⟨Tryz.f230.name, by decide, Tryz.func230.trans (congrArg some (by kernel_rfl))⟩
  f31 := Tryz.func246.trans (congrArg some (by kernel_rfl))
  f32 := Tryz.func247.trans (congrArg some (by kernel_rfl))
  f36 := ⟨Tryz.f245.name, by decide, Tryz.func245.trans (congrArg some (by kernel_rfl))⟩
  f37 := ⟨Tryz.f248.name, by decide, Tryz.func248.trans (congrArg some (by kernel_rfl))⟩
  f38 := ⟨Tryz.f249.name, by decide, Tryz.func249.trans (congrArg some (by kernel_rfl))⟩
  f39 := ⟨Tryz.f250.name, by decide, Tryz.func250.trans (congrArg some (by kernel_rfl))⟩
  f41 := ⟨Tryz.f256.name, by decide, Tryz.func256.trans (congrArg some (by kernel_rfl))⟩
  t0 := Tryz.underlying0
  a0 := Tryz.isAgg0
  z0 := Tryz.sizeOf0
  v0 := Tryz.zeroValue0
  t3 := Tryz.underlying3
  a3 := Tryz.isAgg3
  z3 := Tryz.sizeOf3
  v3 := Tryz.zeroValue3
  t4 := Tryz.underlying4
  a4 := Tryz.isAgg4
  z4 := Tryz.sizeOf4
  v4 := Tryz.zeroValue4
  t5 := Tryz.underlying5
  a5 := Tryz.isAgg5
  z5 := Tryz.sizeOf5
  v5 := Tryz.zeroValue5
  t9 := Tryz.underlying9
  a9 := Tryz.isAgg9
  z9 := Tryz.sizeOf9
  v9 := Tryz.zeroValue9
  t26 := Tryz.underlying148
  a26 := Tryz.isAgg148
  z26 := Tryz.sizeOf148
  v26 := Tryz.zeroValue148
  t27 := Tryz.underlying148
  a27 := Tryz.isAgg148
  z27 := Tryz.sizeOf148
  v27 := Tryz.zeroValue148
  t29 := Tryz.underlying9
  a29 := Tryz.isAgg9
  z29 := Tryz.sizeOf9
  v29 := Tryz.zeroValue9
  t32 := Tryz.underlying155
  a32 := Tryz.isAgg155
  z32 := Tryz.sizeOf155
  v32 := Tryz.zeroValue155
  t35 := Tryz.underlying237
  a35 := Tryz.isAgg237
  z35 := Tryz.sizeOf237
  v35 := Tryz.zeroValue237
  t36 := Tryz.underlying238
  a36 := Tryz.isAgg238
  z36 := Tryz.sizeOf238
  v36 := Tryz.zeroValue238
  t41 := Tryz.underlying154
  a41 := Tryz.isAgg154
  z41 := Tryz.sizeOf154
  v41 := Tryz.zeroValue154
  t44 := Tryz.underlying234
  a44 := Tryz.isAgg234
  z44 := Tryz.sizeOf234
  v44 := Tryz.zeroValue234
  t46 := Tryz.underlying124
  a46 := Tryz.isAgg124
  z46 := Tryz.sizeOf124
  v46 := Tryz.zeroValue124
  t53 := Tryz.underlying255
  a53 := Tryz.isAgg255
  z53 := Tryz.sizeOf255
  v53 := Tryz.zeroValue255
  t57 := Tryz.underlying259
  a57 := Tryz.isAgg259
  z57 := Tryz.sizeOf259
  v57 := Tryz.zeroValue259
  t63 := Tryz.underlying269
  a63 := Tryz.isAgg269
  z63 := Tryz.sizeOf269
  v63 := Tryz.zeroValue269
  t64 := Tryz.underlying270
  a64 := Tryz.isAgg270
  z64 := Tryz.sizeOf270
  v64 := Tryz.zeroValue270 }
end Go.Proofs
namespace Go.Proofs
open Go.RowKit Go.Maps Go.Sort Go.Shelf
theorem Tryz.sortsK (m : Nat) : AnyZ.SortsIn Tryz.prog Tryz.sortedK_ren Fence.wide m :=
  ⟨fun blk off cap ss W hH hblk hsz => callsIn_wide.2 (AnyM.slices_Sort_string Tryz.sortK blk off cap ss W hH hblk hsz),
   fun p cap W => callsIn_wide.2 (AnyM.slices_Sort_string_none Tryz.sortK p cap W)⟩
theorem Tryz.maps_keys (mb : Option Nat) (W : World) : CallsIn Fence.wide 5 Tryz.prog 125 #[.map mb] W fun e w' => e = .returned (.func (.func 159) #[] #[.pointer (some ⟨W.heap.size, 0, none⟩)]) ∧ w' = W.alloc (.cells #[.map mb] 102) :=
  AnyZ.keys_in Tryz.keysK Fence.wide 5 trivial rfl mb W
set_option maxHeartbeats 1000000 in
theorem Tryz.sorted_keys {H : Type} (b nn : Nat) (D0 : DataW H) (R : Value → Option (DataW H × List MemPlace)) (w : World) (hown : w.ownsMap Tryz.prog 9 R b nn D0) (hmax : Maps.size D0 ≤ maxLen) (hbytes : Maps.size D0 * 16 ≤ 140737488355328) :
    CallsIn Fence.wide 5 Tryz.prog 124 #[.func (.func 159) #[] #[.pointer (some ⟨w.heap.size, 0, none⟩)]] (w.alloc (.cells #[.map (some b)] 102)) fun e w' => ∃ (v : Value) (ss : List (List UInt8)), e = .returned v ∧ ss.Perm (strKeys D0) ∧
      w'.ownsRow (w.alloc (.cells #[.map (some b)] 102)).heap.size 9 1 v ss.length ((ss.mergeSort (fun x y => decide (x ≤ y))).map encStr) ∧ (v = .slice none 0 0 ↔ ss = []) ∧ Below (w.alloc (.cells #[.map (some b)] 102)).heap.size (w.alloc (.cells #[.map (some b)] 102)) w' := by
  have hbl := hown.lt
  have hseq : SeqGives Fence.wide 2 Tryz.prog 159 #[.pointer (some ⟨w.heap.size, 0, none⟩)] encStr (fun ss => ss.Perm (strKeys D0)) (Maps.size D0) (w.alloc (.cells #[.map (some b)] 102)) :=
    AnyZ.keys_gives (ρ := Tryz.keysK_ren) { Tryz.keysK with } Fence.wide _ trivial rfl (by omega) w.heap.size b nn D0 _ (by simp) (by simp) (by
      obtain ⟨es, clock, hb, Ft, hs, hD⟩ := hown
      exact ⟨es, clock, (Below.heap_alloc _ _ b hbl).trans hb, Ft, hs, hD⟩)
  exact AnyZ.sorted_in Tryz.sortedK Fence.wide 5 trivial trivial trivial trivial rfl (by omega) (Tryz.sortsK _) (enters_of Tryz.func158 (by kernel_rfl) rfl) 159 #[.pointer (some ⟨w.heap.size, 0, none⟩)] trivial (enters_of Tryz.func159 (by kernel_rfl) rfl) _ _ hmax hbytes _ hseq
set_option maxHeartbeats 1000000 in
theorem Tryz.sorted_keys_nil (w : World) :
    CallsIn Fence.wide 5 Tryz.prog 124 #[.func (.func 159) #[] #[.pointer (some ⟨w.heap.size, 0, none⟩)]] (w.alloc (.cells #[.map none] 102)) fun e w' => ∃ (v : Value) (ss : List (List UInt8)), e = .returned v ∧ ss = [] ∧
      w'.ownsRow (w.alloc (.cells #[.map none] 102)).heap.size 9 1 v ss.length ((ss.mergeSort (fun x y => decide (x ≤ y))).map encStr) ∧ (v = .slice none 0 0 ↔ ss = []) ∧ Below (w.alloc (.cells #[.map none] 102)).heap.size (w.alloc (.cells #[.map none] 102)) w' := by
  have hseq : SeqGives Fence.wide 2 Tryz.prog 159 #[.pointer (some ⟨w.heap.size, 0, none⟩)] encStr (fun ss : List (List UInt8) => ss = []) 0 (w.alloc (.cells #[.map none] 102)) :=
    AnyZ.keys_gives_nil (ρ := Tryz.keysK_ren) { Tryz.keysK with } Fence.wide _ trivial rfl w.heap.size _ (by simp) (by simp)
  exact AnyZ.sorted_in Tryz.sortedK Fence.wide 5 trivial trivial trivial trivial rfl (by omega) (Tryz.sortsK _) (enters_of Tryz.func158 (by kernel_rfl) rfl) 159 #[.pointer (some ⟨w.heap.size, 0, none⟩)] trivial (enters_of Tryz.func159 (by kernel_rfl) rfl) _ 0 (Nat.zero_le _) (by omega) _ hseq
end Go.Proofs
namespace Go.Proofs.YtpehhgkghgbhiaaGreatDoor
open Go.RowKit Go.Shelf Go.Maps
open Go.Lib (decDigits nDigits)
set_option linter.unusedVariables false
set_option linter.unusedSimpArgs false
theorem info_mass : (Tryz.prog.info? 41).map (fun i => (i.zero, i.size, i.bytes)) = some (some (.agg #[.string ⟨#[]⟩, .string ⟨#[]⟩]), 2, 32) := by kernel_rfl
theorem zero_num (w : World) : (zeroValue 23).run Tryz.prog w = .ok (.string ⟨#[]⟩) w := by kernel_rfl
theorem encStr_at {l : List (List UInt8)} {i : Nat} {k : List UInt8} (h : l[i]? = some k) : (l.map encStr)[i]? = some (.string ⟨k.toArray⟩) := by
  rw [List.getElem?_map, h]; rfl
theorem look_run {H : Type} {w : World} {B nn : Nat} {D : DataW H} {L : List (ByteArray × ByteArray)} (hown : w.ownsMap Tryz.prog 9 (plainElem Tryz.prog 23) B nn D) (hR : Reads D L) {p : ByteArray × ByteArray} (hp : p ∈ L) (hk : (keyL p).length ≤ maxLen) :
    (Instr.lookup 102 (.map (some B)) (.string p.1) false).run Tryz.prog w = .ok (.string p.2) w := by
  have hk2 : keyOf Tryz.prog 9 (.string p.1) = some (.string p.1.data.toList) := by
    have := Go.WideMaps.keyOf_string_mk Tryz.underlying9 (s := p.1) (by simpa [keyL] using hk)
    simpa using this
  obtain ⟨v, ps, h1, h2⟩ := hown.lookup lawKeyed Tryz.underlying102 (zero_num w) (plainElem_string Tryz.underlying23 (s := ⟨#[]⟩) (Nat.zero_le _)) hk2
  rw [show D.atKey (.string p.1.data.toList) (.lit (.string (⟨#[]⟩ : ByteArray).data.toList)) = .lit (.string p.2.data.toList) from hR.look p hp _] at h2
  obtain ⟨s, rfl, h3, -⟩ := plainElem_string_inv Tryz.underlying23 h2
  simp only [Prod.mk.injEq, DataW.lit.injEq, Lit.string.injEq] at h3
  rw [h1, ba_ext h3.1]
set_option maxRecDepth 100000 in
set_option maxHeartbeats 2000000 in
theorem p_listed {H : Type} (w : World) (B nn : Nat) (D : DataW H) (L : List (ByteArray × ByteArray)) (hown : w.ownsMap Tryz.prog 9 (plainElem Tryz.prog 23) B nn D) (hR : Reads D L) (hl : L.length ≤ 1000) (hkl : ∀ p ∈ L, (keyL p).length ≤ 1000) :
    Calls Tryz.prog 79 #[.map (some B)] w fun e w' => (∃ v, e = .returned v ∧ MRow w' v (sortM L)) ∧ Below w.heap.size w w' := by
  have hsz := hR.size hown lawKeyed Tryz.underlying9
  have HK := hid (callsIn_wide.1 (Tryz.maps_keys (some B) w))
  have HS := hid (callsIn_wide.1 (Tryz.sorted_keys B nn D _ w hown (by rw [hsz]; unfold maxLen; omega) (by rw [hsz]; omega)))
  have HKEYS := hid (fun ss => hR.keys (ss := ss) hown lawKeyed Tryz.underlying9)
  have HOWN := hid hown; have HR := hid hR; have HL := hid hl; have HKL := hid hkl
  obtain ⟨i0, hi, hz0, hz1, hz2⟩ := info_parts info_mass
  clear hown hR hl hkl hsz
  go_enter Tryz.func79, Tryz.ntmps79
  go_wp2_with fail
  refine HK.out.mono ?_; rintro e w1 ⟨rfl, rfl⟩
  go_wp2_with fail
  refine HS.out.mono ?_; rintro e w2 ⟨v, ss, rfl, hp, hown2, -, hb⟩
  rw [HKEYS.out ss hp] at hown2
  have hlen : ss.length = (sortM L).length := by
    have h := congrArg List.length (HKEYS.out ss hp)
    rw [List.length_mergeSort, List.length_map] at h
    exact h
  rw [hlen] at hown2
  obtain ⟨n, hn⟩ : ∃ n, (sortM L).length = n := ⟨_, rfl⟩
  have hn2 : n ≤ 1000 := by rw [← hn, sortM_length]; exact HL.out
  rw [hn] at hown2
  obtain ⟨a, c, rfl⟩ := owns_ex hown2
  have hrow := Row.of_owns hown2
  have HROW := hid hrow
  have HN := hid hn
  have hcap := hrow.len.2
  have hB : Below w.heap.size w w2 := ((Below.refl _ _).alloc (Nat.le_refl _) _).trans (hb.mono (by simp))
  have HB := hid hB
  have hBL := HOWN.out.lt
  unfold maxLen at hcap
  clear hlen hn hown2 hrow hb hB hp
  go_wp2_with fail
  go_loopw [3, 10] (fun s3 s10 wr => ∃ i : Nat, s10 = .int .i64 (i : Nat) ∧ i ≤ n ∧ Hid (wr.ownsRow w2.heap.size 41 2 s3 i (massC ((sortM L).take i))) ∧ Hid (Below w2.heap.size w2 wr)) (fun s3 s10 wr => n - (intOf s10).toNat)
  case atStart => exact ⟨0, rfl, Nat.zero_le _, ⟨rfl, .inl ⟨rfl, rfl⟩⟩, Below.refl _ _⟩
  case round =>
    obtain ⟨i, rfl, hi2, hO, hB⟩ := hrel
    by_cases hlt : i < n
    · obtain ⟨p, hp⟩ : ∃ x, (sortM L)[i]? = some x := ⟨_, List.getElem?_eq_getElem (by rw [HN.out]; exact hlt)⟩
      have hpm : p ∈ L := sortM_mem.1 (List.mem_of_getElem? hp)
      obtain ⟨g, o, rfl, hg, hc⟩ := HROW.out.at (encStr_at (show ((sortM L).map keyL)[i]? = some (keyL p) by rw [List.getElem?_map, hp]; rfl))
      have hc2 := (hB.out.cell (p := ⟨g, o + i, none⟩) hg).trans hc
      have e1 : (⟨(keyL p).toArray⟩ : ByteArray) = p.1 := by simp [keyL]
      rw [e1] at hc2
      have hb2 : Below w.heap.size w _ := HB.out.trans (hB.out.mono HB.out.size)
      have hrun := look_run (HOWN.out.kept (row := none) ⟨hb2.os, hb2.tape, hb2.output, hb2.size, fun k hk _ => hb2.block k hk⟩ (by simp)) HR.out hpm (by have := HKL.out p hpm; unfold maxLen; omega)
      obtain ⟨pk, pv⟩ := p
      dsimp only at hrun hc2
      have HP := hid hp
      have b1 : (0 : Int) ≤ (i : Int) := by omega
      have b2 : (i : Int) < (n : Int) := by omega
      clear hp hpm hc e1 hg hb2
      have hbs := HB.out.size
      go_wp2_with (at_builtin; refine wpList_append_own _ rfl _ _ 27 rfl w2.heap.size 41 i0 (.agg #[.string ⟨#[]⟩, .string ⟨#[]⟩]) 2 32 Tryz.underlying27 hi hz0 hz1 hz2 rfl (by decide) _ i _ rfl (hO.out.alloc _) ⟨wr.heap.size, 0, none⟩ 1 1 [.string pk, .string pv] rfl rfl (cell_two_new wr (.string pk) (.string pv) 41) (by simp [Value.oneCell']) (by unfold maxLen; omega) (by omega) (by have := hB.out.size; simp; omega) ?_; intro v' w3 hown3 hgrow3 _)
      have hO3 := hid (show w3.ownsRow w2.heap.size 41 2 v' (i + 1) (massC ((sortM L).take (i + 1))) by
        rw [List.take_add_one, HP.out, Option.toList_some, massC_append]; exact hown3)
      have hB3 : Hid (Below w2.heap.size w2 w3) := by
        refine (hB.out.alloc hB.out.size _).trans ⟨hgrow3.os, hgrow3.tape, hgrow3.output, hgrow3.size, fun k hk => hgrow3.block k (by have := hB.out.size; simp; omega) (fun e => ?_)⟩
        have := (hO.out.lt k e.symm).1
        omega
      clear hown3 hgrow3
      go_wp2_with fail
      go_roundw
      case rel => exact ⟨i + 1, by go_num, by omega, hO3, hB3⟩
      case measure => simp [intOf] <;> omega
    · obtain rfl : i = n := by omega
      have q1 : decide ((i : Int) < (i : Int)) = false := by simp
      have h := hO.out
      rw [List.take_of_length_le (by rw [HN.out]; exact Nat.le_refl _)] at h
      have hM := MRow.of_owns h
      have HM := hid hM
      have hB2 := hid (HB.out.trans (hB.out.mono HB.out.size))
      clear hlt hM h
      go_wp2_with fail
      go_ret
      exact ⟨⟨_, rfl, HM.out⟩, hB2.out⟩
end Go.Proofs.YtpehhgkghgbhiaaGreatDoor
namespace Go.Proofs.YtpehhgkghgbhiaaGreatDoor
open Go.RowKit Go.Shelf Go.Maps
open Go.Lib (decDigits nDigits)
set_option linter.unusedVariables false
set_option linter.unusedSimpArgs false
theorem lawKeyedI : Keyed Tryz.prog 3 := int_keyed Tryz.underlying3
/-- Block g holds the powers of c that have been asked for, kept in the map of block B. -/
structure PwI (W : World) (g B c k : Nat) : Prop where
  blk : Blk W g #[.string (numB c), .map (some B)] 95
  ex : ∃ D : DataW Unit, W.ownsMap Tryz.prog 3 (plainElem Tryz.prog 23) B k D ∧ ∀ j : Nat, Maps.has D (.int .i64 j) = true → ∀ z, D.atKey (.int .i64 j) z = .lit (.string (numB (c ^ j)).data.toList)
theorem PwI.kept {W W' : World} {g B c k : Nat} {row : Option Nat} (h : PwI W g B c k) (hg : W.grownBy W' row) (h1 : some g ≠ row) (h2 : some B ≠ row) : PwI W' g B c k := by
  obtain ⟨b, D, h3, h4⟩ := h
  exact ⟨b.grown hg (Ne.symm h1), D, h3.kept hg h2, h4⟩
theorem PwI.mono {W : World} {g B c k k' : Nat} (h : PwI W g B c k) (hk : k ≤ k') : PwI W g B c k' := by
  obtain ⟨b, D, h3, h4⟩ := h
  exact ⟨b, D, h3.mono hk, h4⟩
theorem keyI {j : Nat} (h : j ≤ 1000000) : keyOf Tryz.prog 3 (.int .i64 (j : Nat)) = some (.int .i64 (j : Nat)) :=
  keyOf_int_mk Tryz.underlying3 ((Lit.wf_int_iff _ _).2 (by
    show (-9223372036854775808 : Int) ≤ j ∧ (j : Int) ≤ 9223372036854775807
    omega))
set_option maxRecDepth 100000 in
set_option maxHeartbeats 2000000 in
theorem ch_of (w : World) (g B c k j : Nat) (h : PwI w g B c k) (hgB : g ≠ B) (hc : nDigits c ≤ 4000) (hj : j ≤ 1000000) (hd : nDigits (c ^ j) ≤ 4000) (hk : k ≤ 1000000) (hL : Lay w) :
    Calls Tryz.prog 68 #[.pointer (some ⟨g, 0, none⟩), .int .i64 (j : Nat)] w fun e w' => e = .returned (.string (numB (c ^ j))) ∧ (PwI w' g B c (k + 1) ∧ w.grownBy w' (some B)) := by
  obtain ⟨blk, D, hown, hD⟩ := h
  have r0 := blk.cell 0
  have r1 := blk.cell 1
  simp at r0 r1
  have PP := hid (n_Pow_ok w (numB c) j (errN_numB hc) (by omega) (by rw [bN_num]; exact hd) hL)
  rw [bN_num] at PP
  obtain ⟨v, ps, hrun, hv⟩ := hown.look_ok lawKeyedI Tryz.underlying93 (zero_num w) (plainElem_string Tryz.underlying23 (s := ⟨#[]⟩) (Nat.zero_le _)) (keyI hj)
  have hsz : (numB (c ^ j)).size ≤ maxLen := by rw [numB_size]; unfold maxLen; omega
  have BLK := hid blk; have OWN := hid hown; have HD := hid hD; have SZ := hid hsz
  cases hh : Maps.has D (.int .i64 (j : Int))
  · rw [hh] at hrun
    rw [atKey_of_not_has hh] at hv
    obtain ⟨s, rfl, h3, -⟩ := plainElem_string_inv Tryz.underlying23 hv
    simp only [Prod.mk.injEq, DataW.lit.injEq, Lit.string.injEq] at h3
    obtain rfl : s = ⟨#[]⟩ := (ba_ext (a := ⟨#[]⟩) (b := s) h3.1).symm
    obtain ⟨R, hR⟩ : ∃ s, numB (c ^ j) = s := ⟨_, rfl⟩
    have HR := hid hR
    rw [hR] at PP SZ ⊢
    clear blk hown hD hsz hv h3 hR
    go_enter Tryz.func68, Tryz.ntmps68
    go_wp2_with fail
    refine PP.out.mono ?_; rintro e w1 ⟨rfl, hb1⟩
    have k1 := hid (BLK.out.call hb1)
    have r0' := k1.out.cell 0
    have r1' := k1.out.cell 1
    simp at r0' r1'
    have G1 := hid (below_grown hb1 (some B))
    have O1 := hid (OWN.out.kept (below_grown hb1 none) (by simp))
    have BW := hid hb1.size
    clear hb1 hrun r0 r1
    go_wp2_with (at_mapUpdate; refine wpList_mapUpdate_own _ rfl _ _ _ 93 rfl 3 23 lawKeyedI Tryz.underlying93 _ B k _ rfl O1.out (by unfold maxLen; omega) _ _ _ rfl rfl (keyI hj) _ [] (plainElem_string Tryz.underlying23 SZ.out) ?_; intro w2 hown2 hgrow2; have O2 := hid hown2; have G2 := hid hgrow2; clear hown2 hgrow2)
    go_ret
    refine ⟨rfl, ⟨k1.out.grown G2.out (fun e => hgB (Option.some.inj e).symm), _, O2.out, fun i hi z => ?_⟩, G1.out.trans G2.out⟩
    have hmap := OWN.out.isMap
    by_cases e : (i : Int) = (j : Int)
    · obtain rfl : i = j := by omega
      rw [atKey_put_same hmap (show WideAt.IsKeyLit (.int .i64 (i : Int)) from trivial), ← HR.out]
    · have e' : (Lit.int .i64 (i : Int)) ≠ Lit.int .i64 (j : Int) := fun h => e (by injection h)
      rw [has_put_other e'] at hi
      rw [atKey_put_other e']
      exact HD.out i hi z
  · rw [hh] at hrun
    rw [HD.out j hh] at hv
    obtain ⟨s, rfl, h3, -⟩ := plainElem_string_inv Tryz.underlying23 hv
    simp only [Prod.mk.injEq, DataW.lit.injEq, Lit.string.injEq] at h3
    obtain rfl : s = numB (c ^ j) := (ba_ext h3.1).symm
    obtain ⟨R, hR⟩ : ∃ s, numB (c ^ j) = s := ⟨_, rfl⟩
    rw [hR] at hrun ⊢
    clear blk hown hD hsz hv h3 hR PP
    go_enter Tryz.func68, Tryz.ntmps68
    go_wp2_with fail
    go_ret
    exact ⟨rfl, ⟨BLK.out, D, OWN.out.mono (Nat.le_succ _), HD.out⟩, below_grown (Below.refl _ _) _⟩
end Go.Proofs.YtpehhgkghgbhiaaGreatDoor
namespace Go.Proofs.YtpehhgkghgbhiaaGreatDoor
open Go.RowKit Go.Shelf Go.Maps
open Go.Lib (decDigits nDigits)
set_option linter.unusedVariables false
set_option linter.unusedSimpArgs false
/-- All old blocks but two are as they were. -/
structure Kp2 (b1 b2 : Nat) (W W' : World) : Prop where
  os : W'.os = W.os
  tape : W'.tape = W.tape
  output : W'.output = W.output
  size : W.heap.size ≤ W'.heap.size
  block : ∀ i, i < W.heap.size → i ≠ b1 → i ≠ b2 → W'.heap[i]? = W.heap[i]?
theorem Kp2.refl (b1 b2 : Nat) (W : World) : Kp2 b1 b2 W W := ⟨rfl, rfl, rfl, Nat.le_refl _, fun _ _ _ _ => rfl⟩
theorem Kp2.trans {b1 b2 : Nat} {A B C : World} (h : Kp2 b1 b2 A B) (k : Kp2 b1 b2 B C) : Kp2 b1 b2 A C :=
  ⟨k.os.trans h.os, k.tape.trans h.tape, k.output.trans h.output, Nat.le_trans h.size k.size, fun i hi h1 h2 => (k.block i (Nat.lt_of_lt_of_le hi h.size) h1 h2).trans (h.block i hi h1 h2)⟩
theorem Kp2.of_below {b1 b2 : Nat} {A B : World} (h : Below A.heap.size A B) : Kp2 b1 b2 A B := ⟨h.os, h.tape, h.output, h.size, fun i hi _ _ => h.block i hi⟩
theorem Kp2.of_grown1 {b1 b2 : Nat} {A B : World} (h : A.grownBy B (some b1)) : Kp2 b1 b2 A B := ⟨h.os, h.tape, h.output, h.size, fun i hi h1 _ => h.block i hi (fun e => h1 (Option.some.inj e))⟩
theorem Kp2.of_grown2 {b1 b2 : Nat} {A B : World} (h : A.grownBy B (some b2)) : Kp2 b1 b2 A B := ⟨h.os, h.tape, h.output, h.size, fun i hi _ h1 => h.block i hi (fun e => h1 (Option.some.inj e))⟩
theorem Kp2.cell {b1 b2 : Nat} {A B : World} (h : Kp2 b1 b2 A B) {g o : Nat} (hg : g < A.heap.size) (h1 : g ≠ b1) (h2 : g ≠ b2) : B.cell? ⟨g, o, none⟩ = A.cell? ⟨g, o, none⟩ :=
  World.cell?_of_block (w := A) (h.block g hg h1 h2)
theorem Kp2.below {b1 b2 : Nat} {w A B : World} (h : Kp2 b1 b2 A B) (hb : Below w.heap.size w A) (h1 : w.heap.size ≤ b1) (h2 : w.heap.size ≤ b2) : Below w.heap.size w B :=
  hb.trans ⟨h.os, h.tape, h.output, h.size, fun i hi => h.block i (Nat.lt_of_lt_of_le hi hb.size) (by omega) (by omega)⟩
theorem ownsRow_keep {w w' : World} {base : Nat} {e : TypeId} {size : Nat} {v : Value} {n : Nat} {xs : List Value} (h : w.ownsRow base e size v n xs) (hb : ∀ g, v.ownBlock = some g → w'.heap[g]? = w.heap[g]?) : w'.ownsRow base e size v n xs := by
  refine ⟨h.1, ?_⟩
  rcases h.2 with h0 | ⟨g, cap, cur, rfl, h1, h2, h3⟩
  · exact .inl h0
  · exact .inr ⟨g, cap, cur, rfl, h1, (hb g rfl).trans h2, h3⟩
theorem Lay.grownK {w w' : World} {B : Nat} (h : Lay w) (hg : w.grownBy w' (some B)) (hB : LayLt B) (hlt : B ≤ w.heap.size) : Lay w' :=
  h.below ⟨hg.os, hg.tape, hg.output, hg.size, fun i hi => hg.block i (by omega) (fun e => by have := Option.some.inj e; omega)⟩ hB
/-- The two tables of powers and the bound, as the closure finds them. -/
structure WtI (W : World) (gb g1 g2 gn gd Bn Bd n d B k : Nat) : Prop where
  cb : W.cell? ⟨gb, 0, none⟩ = some (.int .i64 (B : Nat))
  c1 : W.cell? ⟨g1, 0, none⟩ = some (.pointer (some ⟨gn, 0, none⟩))
  c2 : W.cell? ⟨g2, 0, none⟩ = some (.pointer (some ⟨gd, 0, none⟩))
  pn : PwI W gn Bn n k
  pd : PwI W gd Bd d k
/-- The blocks are different ones. -/
structure WtD (gb g1 g2 gn gd Bn Bd : Nat) : Prop where
  b1 : gb ≠ Bn
  b2 : gb ≠ Bd
  c1 : g1 ≠ Bn
  c2 : g1 ≠ Bd
  d1 : g2 ≠ Bn
  d2 : g2 ≠ Bd
  n1 : gn ≠ Bn
  n2 : gn ≠ Bd
  e1 : gd ≠ Bn
  e2 : gd ≠ Bd
  bb : Bn ≠ Bd
theorem WtI.kept {W W' : World} {gb g1 g2 gn gd Bn Bd n d B k : Nat} {row : Option Nat} (h : WtI W gb g1 g2 gn gd Bn Bd n d B k) (hg : W.grownBy W' row) (hb : some gb ≠ row) (h1 : some g1 ≠ row) (h2 : some g2 ≠ row) (h3 : some gn ≠ row) (h4 : some gd ≠ row) (h5 : some Bn ≠ row) (h6 : some Bd ≠ row) : WtI W' gb g1 g2 gn gd Bn Bd n d B k :=
  ⟨hg.cell h.cb hb, hg.cell h.c1 h1, hg.cell h.c2 h2, h.pn.kept hg h3 h5, h.pd.kept hg h4 h6⟩
theorem WtI.below {W W' : World} {gb g1 g2 gn gd Bn Bd n d B k : Nat} (h : WtI W gb g1 g2 gn gd Bn Bd n d B k) (hb : Below W.heap.size W W') : WtI W' gb g1 g2 gn gd Bn Bd n d B k :=
  h.kept (below_grown hb none) (by simp) (by simp) (by simp) (by simp) (by simp) (by simp) (by simp)
theorem WtI.low {W W' : World} {gb g1 g2 gn gd Bn Bd n d B k H : Nat} (h : WtI W gb g1 g2 gn gd Bn Bd n d B k) (hb : Below H W W') (l1 : gb < H) (l2 : g1 < H) (l3 : g2 < H) (l4 : gn < H) (l5 : gd < H) (l6 : Bn < H) (l7 : Bd < H) : WtI W' gb g1 g2 gn gd Bn Bd n d B k := by
  have hc : ∀ {g : Nat} {v : Value}, g < H → W.cell? ⟨g, 0, none⟩ = some v → W'.cell? ⟨g, 0, none⟩ = some v := fun hl hv => (hb.cell (p := ⟨_, 0, none⟩) hl).trans hv
  have hp : ∀ {g B c : Nat}, g < H → B < H → PwI W g B c k → PwI W' g B c k := fun hg hB hP => by
    obtain ⟨b, D, ⟨es, clock, k1, k2⟩, k3⟩ := hP
    refine ⟨?_, D, ⟨es, clock, (hb.block _ hB).trans k1, k2⟩, k3⟩
    unfold Blk at *
    rw [hb.block _ hg]; exact b
  exact ⟨hc l1 h.cb, hc l2 h.c1, hc l3 h.c2, hp l4 l6 h.pn, hp l5 l7 h.pd⟩
set_option maxRecDepth 100000 in
set_option maxHeartbeats 4000000 in
theorem ch_W2 (w : World) (gb g1 g2 gn gd Bn Bd n d B k : Nat) (u : Int) (h : WtI w gb g1 g2 gn gd Bn Bd n d B k) (hD : WtD gb g1 g2 gn gd Bn Bd) (ok : ChOk n d B) (hn : nDigits n ≤ 1000) (hd : nDigits d ≤ 1000) (hk : k ≤ 1000) (hB : B ≤ 1000) (hL : Lay w) (hLn : LayLt Bn) (hLd : LayLt Bd) :
    Calls Tryz.prog 65 #[.int .i64 u, .pointer (some ⟨gb, 0, none⟩), .pointer (some ⟨g1, 0, none⟩), .pointer (some ⟨g2, 0, none⟩)] w fun e w' => e = .returned (.string (numB (cwN n d B u))) ∧ (WtI w' gb g1 g2 gn gd Bn Bd n d B (k + 1) ∧ Kp2 Bn Bd w w') := by
  obtain ⟨x1, x2, x3⟩ := cw_exp B u
  obtain ⟨e1, he1⟩ : ∃ e, ((B : Int) + clp B u).toNat = e := ⟨_, rfl⟩
  obtain ⟨e2, he2⟩ : ∃ e, ((B : Int) - clp B u).toNat = e := ⟨_, rfl⟩
  have l1 := clp_lo B u
  have l2 := clp_hi B u
  have ew : cwN n d B u = n ^ e1 * d ^ e2 := by unfold cwN; rw [he1, he2]
  rw [he1] at x1
  rw [he2] at x2
  rw [he1, he2] at x3
  have fit := ok.fits u
  rw [ew] at fit ⊢
  have p1 := (ok.pow (k := e1) (by omega)).1
  have p2 := (ok.pow (k := e2) (by omega)).2
  have CC := fun V => hid (ch_clamped V u B)
  obtain ⟨z, hz⟩ : ∃ z, clp B u = z := ⟨_, rfl⟩
  rw [hz] at CC he1 he2 l1 l2
  have w0 : IntKind.i64.wrap (-(B : Int)) = -(B : Int) := IntWalk.i64_in _ ⟨by omega, by omega⟩
  have w1 : IntKind.i64.wrap ((B : Int) + z) = (e1 : Int) := by rw [IntWalk.i64_in _ ⟨by omega, by omega⟩]; omega
  have w2 : IntKind.i64.wrap ((B : Int) - z) = (e2 : Int) := by rw [IntWalk.i64_in _ ⟨by omega, by omega⟩]; omega
  have O1 := fun V hV hL => hid (ch_of V gn Bn n k e1 hV hD.n1 (by omega) (by omega) (by omega) (by omega) hL)
  have O2 := fun V hV hL => hid (ch_of V gd Bd d k e2 hV hD.e2 (by omega) (by omega) (by omega) (by omega) hL)
  have f1 : nDigits (n ^ e1) ≤ 4000 := by omega
  have f2 : nDigits (d ^ e2) ≤ 4000 := by omega
  have f3 : nDigits (n ^ e1 * d ^ e2) ≤ 4000 := by omega
  have PT := fun V hV => hid (n_Mul V (numB (n ^ e1)) (numB (d ^ e2)) (numB_sz f1) (numB_sz f2) hV)
  rw [natB_num f1 f2 f3] at PT
  obtain ⟨oe, hoe⟩ : ∃ z, natE (· * ·) (numB (n ^ e1)) (numB (d ^ e2)) = z := ⟨_, rfl⟩
  rw [hoe] at PT
  obtain ⟨A1, hA1⟩ : ∃ s, numB (n ^ e1) = s := ⟨_, rfl⟩
  obtain ⟨A2, hA2⟩ : ∃ s, numB (d ^ e2) = s := ⟨_, rfl⟩
  obtain ⟨A3, hA3⟩ : ∃ s, numB (n ^ e1 * d ^ e2) = s := ⟨_, rfl⟩
  rw [hA1] at O1
  rw [hA2] at O2
  rw [hA1, hA2, hA3] at PT
  rw [hA3]
  have H := hid h; have HD := hid hD; have HL := hid hL; have HLn := hid hLn; have HLd := hid hLd
  have zn : Bn ≤ w.heap.size := by obtain ⟨D, o, -⟩ := h.pn.ex; exact Nat.le_of_lt o.lt
  have zd : Bd ≤ w.heap.size := by obtain ⟨D, o, -⟩ := h.pd.ex; exact Nat.le_of_lt o.lt
  have ZN := hid zn; have ZD := hid zd
  have c0 := h.cb; have c1 := h.c1; have c2 := h.c2
  have KK : Hid (∀ w', Kp2 Bn Bd w w' → w'.cell? ⟨gb, 0, none⟩ = some (.int .i64 (B : Nat)) ∧ w'.cell? ⟨g1, 0, none⟩ = some (.pointer (some ⟨gn, 0, none⟩)) ∧ w'.cell? ⟨g2, 0, none⟩ = some (.pointer (some ⟨gd, 0, none⟩))) := fun w' hb =>
    ⟨(hb.cell (cell_lt H.out.cb) HD.out.b1 HD.out.b2).trans H.out.cb, (hb.cell (cell_lt H.out.c1) HD.out.c1 HD.out.c2).trans H.out.c1, (hb.cell (cell_lt H.out.c2) HD.out.d1 HD.out.d2).trans H.out.c2⟩
  clear h hD hL hLn hLd zn zd x1 x2 x3 he1 he2 l1 l2 fit ew p1 p2 hz hA1 hA2 hA3 hn hd hk hB ok f1 f2 f3 hoe
  go_enter Tryz.func65, Tryz.ntmps65
  go_wp2_with fail
  refine (CC _).out.mono ?_; rintro e wz ⟨rfl, rfl⟩
  go_wp2_with fail
  refine held_plain [0, 1, 2, 3, 5, 6, 7, 8] 8 (fun w' => w'.cell? ⟨gb, 0, none⟩ = some (.int .i64 (B : Nat)) ∧ w'.cell? ⟨g1, 0, none⟩ = some (.pointer (some ⟨gn, 0, none⟩)) ∧ w'.cell? ⟨g2, 0, none⟩ = some (.pointer (some ⟨gd, 0, none⟩))) (by kernel_rfl) (by kernel_rfl) (by kernel_rfl) (by kernel_rfl) (KK.out _ (Kp2.of_below (Below.refl _ _).drew)) ?_
  iterate 8
    refine ⟨_, rfl, ?_⟩
    apply Exists.intro
    refine ⟨.inl ⟨by rfl, ?_⟩, ?_⟩
    · (intro W' hW'; obtain ⟨q1, q2, q3⟩ := hW'; go_simp; try (with_reducible rfl))
    (dsimp only [Act.put]; try simp only [List.setIfInBounds_toArray, List.set_cons_zero, List.set_cons_succ])
  refine held_one (i := 4) (by kernel_rfl) (by rfl) (by rfl) ?_
  go_wp2_with fail
  refine (O1 _ (H.out.pn.kept (row := none) (below_grown (Below.refl _ _).drew none) (by simp) (by simp)) (HL.out.call (Below.refl _ _).drew)).out.mono ?_; rintro e w3 ⟨rfl, hp3, hg3⟩
  have P3 := hid hp3
  have G3 := hid hg3
  have K3 : Hid (Kp2 Bn Bd w w3) := (Kp2.of_below (Below.refl _ _).drew).trans (Kp2.of_grown1 hg3)
  have L3 : Hid (Lay w3) := (HL.out.call (Below.refl _ _).drew).grownK hg3 HLn.out ZN.out
  have Q3 : Hid (PwI w3 gd Bd d k) := (H.out.pd.kept (row := none) (below_grown (Below.refl _ _).drew none) (by simp) (by simp)).kept hg3 (fun e => HD.out.e1 (Option.some.inj e)) (fun e => HD.out.bb (Option.some.inj e).symm)
  clear hp3 hg3
  go_wp2_with fail
  refine ⟨KK.out _ K3.out, ?_⟩
  refine held_one (i := 9) (by kernel_rfl) (by rfl) (by rfl) ?_
  go_wp2_with fail
  refine (O2 _ Q3.out L3.out).out.mono ?_; rintro e w4 ⟨rfl, hp4, hg4⟩
  have P4 := hid hp4
  have R4 : Hid (PwI w4 gn Bn n (k + 1)) := P3.out.kept hg4 (fun e => HD.out.n2 (Option.some.inj e)) (fun e => HD.out.bb (Option.some.inj e))
  have K4 : Hid (Kp2 Bn Bd w w4) := K3.out.trans (Kp2.of_grown2 hg4)
  have L4 : Hid (Lay w4) := L3.out.grownK hg4 HLd.out (Nat.le_trans ZD.out K3.out.size)
  clear hp4 hg4
  go_wp2_with fail
  refine ⟨KK.out _ K4.out, ?_⟩
  refine held_one (i := 10) (by kernel_rfl) (by rfl) (by rfl) ?_
  go_wp2_with fail
  refine (PT _ L4.out).out.mono ?_; rintro e w5 ⟨rfl, hb5⟩
  have K5 : Hid (Kp2 Bn Bd w w5) := K4.out.trans (Kp2.of_below hb5)
  have P5 : Hid (PwI w5 gd Bd d (k + 1)) := P4.out.kept (below_grown hb5 none) (by simp) (by simp)
  have R5 : Hid (PwI w5 gn Bn n (k + 1)) := R4.out.kept (below_grown hb5 none) (by simp) (by simp)
  clear hb5
  go_wp2_with fail
  refine ⟨KK.out _ K5.out, ?_⟩
  refine held_more (is := [11, 12, 13, 14, 15]) (g := 0) (by kernel_rfl) rfl (KK.out _ K5.out) (by kernel_rfl) ?_
  iterate 5
    refine ⟨_, rfl, ?_⟩
    apply Exists.intro
    refine ⟨.inl ⟨by rfl, ?_⟩, ?_⟩
    · (intro W' hW'; obtain ⟨q1, q2, q3⟩ := hW'; go_simp; try (with_reducible rfl))
    (dsimp only [Act.put]; try simp only [List.setIfInBounds_toArray, List.set_cons_zero, List.set_cons_succ])
  refine wpAnyH_done (by kernel_rfl) ?_ _
  simp only [Only]
  go_wp2_with fail
  go_ret
  have q := KK.out _ K5.out
  exact ⟨rfl, ⟨q.1, q.2.1, q.2.2, R5.out, P5.out⟩, K5.out⟩
theorem Kp2.low {b1 b2 : Nat} {w A B : World} (h : Kp2 b1 b2 w A) (hb : Below w.heap.size A B) : Kp2 b1 b2 w B :=
  ⟨hb.os.trans h.os, hb.tape.trans h.tape, hb.output.trans h.output, Nat.le_trans h.size hb.size, fun i hi h1 h2 => (hb.block i hi).trans (h.block i hi h1 h2)⟩
/-- A call of the closure for an element, at any world that meets the invariant. -/
def EachOk (F : Nat) (cs : Array Value) (l : List Int) (f : Int → ByteArray) (Inv : Nat → World → Prop) (b1 b2 : Nat) : Prop :=
  ∀ W i x, l[i]? = some x → Inv i W → Calls Tryz.prog F (#[.int .i64 x] ++ cs) W fun e w' => e = .returned (.string (f x)) ∧ (Inv (i + 1) w' ∧ Kp2 b1 b2 W w')
set_option maxRecDepth 100000 in
set_option maxHeartbeats 4000000 in
theorem ch_each (w : World) (v : Value) (l : List Int) (F : Nat) (cs : Array Value) (f : Int → ByteArray) (Inv : Nat → World → Prop) (b1 b2 : Nat) (hv : ∀ W, Kp2 b1 b2 w W → Row W v (zs l)) (hl : l.length ≤ 1000) (hen : ∀ args w, (callFunc F args).run Tryz.prog w = .ok (.enter F args) w)
    (hF : EachOk F cs l f Inv b1 b2) (h0 : Inv 0 w) (hK : ∀ i W W', Inv i W → Below w.heap.size W W' → Inv i W') (hb1 : b1 < w.heap.size) (hb2 : b2 < w.heap.size) :
    Calls Tryz.prog 64 #[v, .func (.func F) #[] cs] w fun e w' => (∃ u, e = .returned u ∧ Row w' u (strs (l.map f))) ∧ Kp2 b1 b2 w w' := by
  obtain ⟨i0, hi, hz0, hz1, hz2⟩ := info_parts info_num
  have HV := hid hv; have HF := hid hF; have HK := hid hK; have B1 := hid hb1; have B2 := hid hb2; have I0 := hid h0
  obtain ⟨a, c, rfl, q1, q2, -⟩ := (hv w (Kp2.refl _ _ _)).openZ
  obtain ⟨n, hn⟩ : ∃ n, l.length = n := ⟨_, rfl⟩
  rw [hn] at HV q1 hl ⊢
  have HN := hid hn
  clear hv hF hK hb1 hb2 h0 hn
  go_enter Tryz.func64, Tryz.ntmps64
  go_wp2_with fail
  go_loopw [5, 10] (fun oo ii wr => ∃ i : Nat, ii = .int .i64 i ∧ i ≤ n ∧ Hid (wr.ownsRow w.heap.size 23 1 oo i (strs ((l.map f).take i))) ∧ Hid (Inv i wr) ∧ Hid (Kp2 b1 b2 w wr)) (fun oo ii wr => n - (intOf ii).toNat)
  case atStart => exact ⟨0, rfl, Nat.zero_le _, World.ownsRow_nil _ _ _ _, I0.out, Kp2.refl _ _ _⟩
  case round =>
    obtain ⟨i, rfl, hi', hO, hI, hB⟩ := hrel
    by_cases hlt : i < n
    · obtain ⟨x, hx⟩ : ∃ x, l[i]? = some x := ⟨_, List.getElem?_eq_getElem (by rw [HN.out]; exact hlt)⟩
      obtain ⟨g, o, rfl, hg, hc⟩ := (HV.out wr hB.out).at (zs_get hx)
      have C := hid (HF.out wr i x hx hI.out)
      have b1' : (0 : Int) ≤ (i : Int) := by omega
      have b2' : (i : Int) < (n : Int) := by omega
      have wi : IntKind.i64.wrap ((i : Int) + 1) = ((i + 1 : Nat) : Int) := by rw [IntWalk.i64_in _ ⟨by omega, by omega⟩]; omega
      have hR : (l.map f)[i]? = some (f x) := by rw [List.getElem?_map, hx]; rfl
      obtain ⟨R, hR2⟩ : ∃ R, f x = R := ⟨_, rfl⟩
      rw [hR2] at C hR
      have HR := hid hR
      clear hx hg hR hR2
      go_wp2_with fail
      refine C.out.mono ?_; rintro e w8 ⟨rfl, hI8, hK8⟩
      have I8 := hid hI8; have K8 := hid hK8
      have O8 := hid (ownsRow_keep hO.out (w' := w8) (fun g hg => hK8.block g (hO.out.lt g hg).2 (by have := (hO.out.lt g hg).1; have := B1.out; omega) (by have := (hO.out.lt g hg).1; have := B2.out; omega)))
      have S8 := hid (show w.heap.size ≤ w8.heap.size from Nat.le_trans hB.out.size hK8.size)
      clear hI8 hK8 hc
      go_wp2_with (at_builtin; refine wpList_append_own _ rfl _ _ 55 rfl w.heap.size 23 i0 (.string ⟨#[]⟩) 1 16 Tryz.underlying55 hi hz0 hz1 hz2 rfl (by decide) _ i _ rfl (O8.out.alloc _) ⟨w8.heap.size, 0, none⟩ 1 1 [.string R] rfl rfl (cell_one_new w8 (.string R) 23) (by simp [Value.oneCell']) (by unfold maxLen; omega) (by omega) (by have := S8.out; simp; omega) ?_; intro v' w3 hown3 hgrow3 _)
      have hO3 := hid (show w3.ownsRow w.heap.size 23 1 v' (i + 1) (strs ((l.map f).take (i + 1))) by
        rw [List.take_add_one, HR.out, Option.toList_some, strs_append]; exact hown3)
      have hL3 : Below w.heap.size w8 w3 := by
        refine ((Below.refl w.heap.size w8).alloc S8.out _).trans ⟨hgrow3.os, hgrow3.tape, hgrow3.output, hgrow3.size, fun k hk => hgrow3.block k (by have := S8.out; simp; omega) (fun e => ?_)⟩
        have := (O8.out.lt k e.symm).1
        omega
      have I3 := hid (HK.out _ _ _ I8.out hL3)
      have K3 : Hid (Kp2 b1 b2 w w3) := (hB.out.trans K8.out).low hL3
      clear hown3 hgrow3 hL3
      go_wp2_with fail
      go_roundw
      case rel => exact ⟨i + 1, by go_num, by omega, hO3, I3, K3⟩
      case measure => simp [intOf] <;> omega
    · obtain rfl : i = n := by omega
      have q0 : decide ((i : Int) < (i : Int)) = false := by simp
      have HR := hid (Row.of_owns hO.out)
      have ET : Hid ((l.map f).take i = l.map f) := List.take_of_length_le (by rw [List.length_map, HN.out]; exact Nat.le_refl _)
      clear hlt
      go_wp2_with fail
      go_ret
      exact ⟨⟨_, rfl, by rw [← ET.out]; exact HR.out⟩, hB.out⟩
end Go.Proofs.YtpehhgkghgbhiaaGreatDoor
namespace Go.Proofs.YtpehhgkghgbhiaaGreatDoor
open Go.RowKit
open Go.Lib (decDigits nDigits)
set_option linter.unusedVariables false
theorem make_bytes (n : Nat) (hn : n ≤ 100000000) (W : World) : (Instr.makeSlice 98 (.int .i64 (n : Int)) (.int .i64 (n : Int))).run Tryz.prog W = .ok (.slice (some ⟨W.heap.size, 0, none⟩) n n) (W.alloc (.cells (madeCells #[.int .u8 0] n) 5)) :=
  run_make_row' (P := Tryz.prog) 98 5 (.int .u8 0) 1 Tryz.underlying98 (by kernel_rfl) rfl .i64 .i64 n (by omega) (by omega) W
theorem r1_Write_zero (w : World) (v : Value) (h : IsN .i64 w v 0) : Calls Tryz.prog 47 #[v] w fun e w' => e = .returned (numV 0) ∧ Below w.heap.size w w' := by
  obtain ⟨a, c, rfl, _⟩ := h.openI
  have hl : (limbs 0).length = 0 := by rw [limbs_zero]; rfl
  rw [hl]
  have e : numV 0 = .string ⟨#[48]⟩ := by rw [numV, dec_zero]
  have E := hid e
  clear h hl e
  go_enter Tryz.func47, Tryz.ntmps47
  go_wp2_with fail
  go_ret
  exact ⟨by rw [E.out]; rfl, Below.refl _ _⟩
set_option maxRecDepth 100000 in
set_option maxHeartbeats 1000000 in
theorem r1_Write_pos (w : World) (v : Value) (n : Nat) (h : IsN .i64 w v n) (h0 : 0 < n) (hl : (limbs n).length ≤ 1000000) : Calls Tryz.prog 47 #[v] w fun e w' => e = .returned (numV n) ∧ Below w.heap.size w w' := by
  obtain ⟨a, c, rfl, h1, h2, h3⟩ := h.openI
  have H3 := hid h3; clear h3 h
  obtain ⟨L, hL⟩ : ∃ L, (limbs n).length = L := ⟨_, rfl⟩
  have hLp : 0 < L := by rw [← hL]; exact List.length_pos_iff.2 (fun e => by have := limbs_nil.1 e; omega)
  rw [hL] at h1 hl ⊢
  have HL := hid hL; clear hL
  have q0 : ((L : Int) == 0) = false := by simp; omega
  have hmk : ∀ W : World, (Instr.makeSlice 98 (.int .i64 (9 * (L : Int))) (.int .i64 (9 * (L : Int)))).run Tryz.prog W = .ok (.slice (some ⟨W.heap.size, 0, none⟩) (9 * L) (9 * L)) (W.alloc (.cells (madeCells #[.int .u8 0] (9 * L)) 5)) := fun W => by
    have := make_bytes (9 * L) (by omega) W
    rwa [Int.natCast_mul] at this
  go_enter Tryz.func47, Tryz.ntmps47
  go_wp2_with fail
  clear hmk q0
  go_loopw [4, 5, 6] (fun ii nn kk wr => ∃ (i : Nat) (bs : List UInt8), ii = .int .i64 i ∧ i ≤ L ∧ Hid (WrI n i bs) ∧ Hid (BArr 5 wr w.heap.size bs) ∧ Hid (Below w.heap.size w wr)) (fun ii _ _ _ => L - (intOf ii).toNat)
  case atStart => exact ⟨0, _, rfl, Nat.zero_le _, WrI.start n, by rw [HL.out]; exact BArr.made w 5 (9 * L), (Below.refl _ _).alloc (Nat.le_refl _) _⟩
  case round =>
    obtain ⟨i, bs, rfl, hi, hW, hO, hB⟩ := hrel
    by_cases hlt : i < L
    · obtain ⟨x, hx⟩ : ∃ x, (limbs n)[L - 1 - i]? = some x := ⟨_, List.getElem?_eq_getElem (by rw [HL.out]; omega)⟩
      obtain ⟨g, o, rfl, hg, hc⟩ := H3.out _ x hx
      have d1 := (hB.out.cell (p := ⟨g, o + (L - 1 - i), none⟩) hg).trans hc
      have hxl := (sm_limbs n).get hx
      have HX := hid hx; clear hx hc
      go_wp2_with fail
      go_loopw [5, 6] (fun nn kk wq => ∃ (k y : Nat) (t : Int) (bs : List UInt8), nn = .int .i64 y ∧ kk = .int .i64 t ∧ t = (k : Int) - 1 ∧ k ≤ 9 ∧ y < 1000000000 ∧ Hid (WrJ n i x k y bs) ∧ Hid (BArr 5 wq w.heap.size bs) ∧ Hid (Below w.heap.size w wq)) (fun _ kk _ => (intOf kk + 1).toNat)
      case atStart => exact ⟨9, x, _, bs, rfl, rfl, by omega, by omega, hxl, hW.out.enter, hO, hB⟩
      case round =>
        obtain ⟨k, y, t, bs2, rfl, rfl, ht, hk, hy, hJ, hO2, hB2⟩ := hrel
        have hbl := hid (show bs2.length = 9 * L from by rw [hJ.out.len, HL.out])
        cases k with
        | zero =>
          obtain rfl : t = -1 := by omega
          clear ht
          have HN := hid (hJ.out.leave (by rw [HL.out]; exact HX.out) (by rw [HL.out]; exact hlt))
          go_wp2_with fail
          go_roundw
          case rel => exact ⟨i + 1, bs2, by go_num, by omega, HN, hO2, hB2⟩
          case measure => simp [intOf] <;> omega
        | succ k =>
          obtain rfl : t = (k : Int) := by omega
          clear ht
          have HN := hid (hJ.out.next (by omega) (by rw [HL.out]; exact hlt))
          obtain ⟨z, hz⟩ : ∃ z, bs2[9 * i + k]? = some z := ⟨_, List.getElem?_eq_getElem (by rw [hbl.out]; omega)⟩
          have d3 := hO2.out.cell hz
          have d4 := hO2.out.free (9 * i + k)
          clear hz
          go_wp2_with fail
          go_roundw
          case rel =>
            refine ⟨k, y / 10, _, bs2.set (9 * i + k) (UInt8.ofNat (48 + y % 10)), by go_num, rfl, by omega, by omega, by omega, HN, ?_, below_set hB2.out (Nat.le_refl _) _⟩
            have hz : (48 + (y : Int) % 10) = ((UInt8.ofNat (48 + y % 10)).toNat : Int) := by rw [digit_ofNat (by omega)]; omega
            rw [hz]
            exact hO2.out.set _ _
          case measure => simp [intOf] <;> omega
    · obtain rfl : i = L := by omega
      obtain ⟨hdig, hval⟩ := WrI.done (by have := hW.out; rw [← HL.out] at this; exact this)
      have HD := hid hdig; have HV := hid hval
      have hbl := hid (show bs.length = 9 * i from by rw [hW.out.len, HL.out])
      clear hdig hval
      go_wp2_with fail
      go_loop [3] (fun b => ∃ r : Nat, r + 1 ≤ 9 * i ∧ b = .slice (some ⟨w.heap.size, r, none⟩) (9 * i - r) (9 * i - r) ∧ Hid (dv (bs.drop r) = n)) (fun b => match b with | .slice _ m _ => m | _ => 0)
      case atStart => exact ⟨0, by omega, rfl, by rw [Hid, List.drop_zero]; exact HV.out⟩
      case round =>
        obtain ⟨r, hr, rfl, hv⟩ := hrel
        obtain ⟨z, hz⟩ : ∃ z, bs[r]? = some z := ⟨_, List.getElem?_eq_getElem (by rw [hbl.out]; omega)⟩
        have d3 := hO.out.cell hz
        obtain ⟨m, hm⟩ : ∃ m, m = 9 * i - r := ⟨_, rfl⟩
        rw [← hm]
        have hm1 : 1 ≤ m := by omega
        have hm9 : m ≤ 9000000 := by omega
        have HM := hid hm
        by_cases hgo : 1 < m ∧ z = 48
        · obtain ⟨g1, rfl⟩ := hgo
          have q1 : decide ((1 : Int) < (m : Int)) = true := by simp; omega
          have HN := hid (dv_zero_head hz)
          clear hz hm
          go_wp2_with fail
          go_round
          case rel => exact ⟨r + 1, by have := HM.out; omega, by rw [show 9 * i - (r + 1) = m - 1 by have := HM.out; omega], by rw [Hid, HN.out]; exact hv.out⟩
          case measure => simp; omega
        · have hfin := hid (strip_done HD.out hv.out (by rw [hbl.out]; omega) (by
            rw [hbl.out]
            by_cases h1 : 1 < m
            · right
              rw [hz]
              intro e
              injection e with e
              exact hgo ⟨h1, e⟩
            · left; omega))
          have hcv : (convert 98 9 (.slice (some ⟨w.heap.size, r, none⟩) m m)).run Tryz.prog wr = .ok (numV n) wr := by
            have hlen : (bs.drop r).length = m := by rw [List.length_drop, hbl.out, hm]
            have := Go.run_convert_bytes_back (P := Tryz.prog) wr 98 9 5 ⟨w.heap.size, r, none⟩ m (bs.drop r) Tryz.underlying98 Tryz.underlying5 Tryz.underlying9 (fun j hj => by
              rw [Addr.add_lit]
              refine hO.out.cell ?_
              have h2 : r + j < bs.length := by rw [hlen] at hj; rw [hbl.out]; omega
              rw [List.getElem?_eq_getElem h2, List.getElem_drop])
            rw [hlen, hfin.out] at this
            exact this
          by_cases h1 : 1 < m
          · have q1 : decide ((1 : Int) < (m : Int)) = true := by simp; omega
            have q2 : ((z.toNat : Int) == 48) = false := by
              rw [beq_eq_false_iff_ne]
              intro e
              refine hgo ⟨h1, ?_⟩
              have : z.toNat = (48 : UInt8).toNat := by simp; omega
              exact UInt8.toNat_inj.1 this
            clear hz hm hgo h1
            go_wp2_with fail
            go_ret
            exact ⟨rfl, hB.out⟩
          · obtain rfl : m = 1 := by omega
            clear hz hm hgo h1
            go_wp2_with fail
            go_ret
            exact ⟨rfl, hB.out⟩
end Go.Proofs.YtpehhgkghgbhiaaGreatDoor
namespace Go.Proofs.YtpehhgkghgbhiaaGreatDoor
open Go.RowKit
open Go.Lib (decDigits nDigits)
set_option linter.unusedVariables false
set_option maxRecDepth 100000 in
set_option maxHeartbeats 1000000 in
theorem r1_Check (w : World) (s : ByteArray) (hs : s.size ≤ 9223372036854775807) : Calls Tryz.prog 55 #[.string s] w fun e w' => e = .returned (.int .i64 (errN s.data.toList)) ∧ w = w' := by
  have hsl := hid (show s.data.toList.length = s.size from by simp)
  by_cases h0 : s.size = 0
  · have hnil : s.data.toList = [] := List.eq_nil_of_length_eq_zero (by rw [hsl.out, h0])
    obtain rfl : s = ⟨#[]⟩ := by
      cases s with
      | mk d => simp at hnil; rw [hnil]
    clear hsl h0 hnil hs
    go_enter Tryz.func55, Tryz.ntmps55
    go_wp2_with fail
    go_ret
    exact ⟨ret_int (by rw [errN_bad]; exact fun h => h.1 rfl), rfl⟩
  · have hpos : 0 < s.size := by omega
    have hne : s.data.toList.isEmpty = false := by
      rw [List.isEmpty_eq_false_iff]
      intro e
      have := hsl.out; rw [e] at this; simp at this; omega
    have hn : ¬ s.toList = [] := by rw [Go.ByteArray.toList_eq]; intro e; rw [e] at hne; cases hne
    have hn2 : s.toList.isEmpty = false := by rw [Go.ByteArray.toList_eq]; exact hne
    have hb0 := hid (byte_get hpos)
    clear hne
    by_cases hz : s[0] = 48 ∧ 1 < s.size
    · have q1 : ((s[0].toNat : Int) == 48) = true := by rw [hz.1]; rfl
      have q2 : decide ((1 : Int) < (s.size : Int)) = true := by simp; omega
      have hbad := hid (show ¬ isForm s.data.toList from fun h => by
        rcases h.2.1 with h1 | h1
        · have := congrArg List.length h1
          rw [hsl.out] at this; simp at this; omega
        · rw [List.head?_eq_getElem?, hb0.out, hz.1] at h1
          exact h1 rfl)
      clear hz
      go_enter Tryz.func55, Tryz.ntmps55
      go_wp2_with fail
      go_ret
      exact ⟨ret_int (by rw [errN_bad hbad.out]), rfl⟩
    · have hform : allDig s.data.toList → isForm s.data.toList := fun hd => by
        refine ⟨fun e => by have := hsl.out; rw [e] at this; simp at this; omega, ?_, hd⟩
        by_cases h48 : s[0] = 48
        · left
          have h1 : s.data.toList.length = 1 := by
            have : ¬ 1 < s.size := fun h => hz ⟨h48, h⟩
            rw [hsl.out]; omega
          match hm : s.data.toList, h1 with
          | [c], _ =>
            have := hb0.out
            rw [hm] at this
            simp at this
            rw [this, h48]
        · right
          rw [List.head?_eq_getElem?, hb0.out]
          simpa using h48
      have HF := hid hform
      have hI : (((s[0].toNat : Int) == 48) = false ∧ decide ((1 : Int) < (s.size : Int)) = decide ((1 : Int) < (s.size : Int))) ∨ (((s[0].toNat : Int) == 48) = true ∧ decide ((1 : Int) < (s.size : Int)) = false) := by
        by_cases h48 : s[0] = 48
        · right
          have : ¬ 1 < s.size := fun h => hz ⟨h48, h⟩
          refine ⟨by rw [h48]; rfl, by simp; omega⟩
        · left
          refine ⟨?_, rfl⟩
          rw [beq_eq_false_iff_ne]
          intro e
          refine h48 ?_
          have : s[0].toNat = (48 : UInt8).toNat := by simp; omega
          exact UInt8.toNat_inj.1 this
      clear hform hz
      rcases hI with ⟨q1, -⟩ | ⟨q1, q2⟩
      all_goals
        go_enter Tryz.func55, Tryz.ntmps55
        go_wp2_with fail
        clear q1
        go_loop [3] (fun ii => ∃ i : Nat, ii = .int .i64 i ∧ i ≤ s.size ∧ Hid (∀ (j : Nat) (b : UInt8), j < i → s.data.toList[j]? = some b → isDig b = true)) (fun ii => s.size - (intOf ii).toNat)
        case atStart => exact ⟨0, rfl, Nat.zero_le _, fun j b hj => absurd hj (by omega)⟩
        case round =>
          obtain ⟨i, rfl, hi, hI⟩ := hrel
          by_cases hlt : i < s.size
          · have hb := hid (byte_get hlt)
            have hbad : ¬ isDig s[i] = true → ¬ isForm s.data.toList := fun h hf => h (hf.2.2 _ (List.mem_of_getElem? hb.out))
            by_cases c1 : s[i].toNat < 48
            · have q1 : decide ((s[i].toNat : Int) < 48) = true := by simp; omega
              have hB := hid (hbad (fun e => by have := isDig_iff.1 e; omega))
              clear hbad c1
              go_wp2_with fail
              go_ret
              exact ⟨ret_int (by rw [errN_bad hB.out]), rfl⟩
            · by_cases c2 : 57 < s[i].toNat
              · have q1 : decide ((s[i].toNat : Int) < 48) = false := by simp; omega
                have q2 : decide ((57 : Int) < (s[i].toNat : Int)) = true := by simp; omega
                have hB := hid (hbad (fun e => by have := isDig_iff.1 e; omega))
                clear hbad c1 c2
                go_wp2_with fail
                go_ret
                exact ⟨ret_int (by rw [errN_bad hB.out]), rfl⟩
              · have q1 : decide ((s[i].toNat : Int) < 48) = false := by simp; omega
                have q2 : decide ((57 : Int) < (s[i].toNat : Int)) = false := by simp; omega
                have hD := hid (isDig_iff.2 (show 48 ≤ s[i].toNat ∧ s[i].toNat ≤ 57 by omega))
                clear hbad c1 c2
                go_wp2_with fail
                go_round
                case rel => exact ⟨i + 1, by go_num, by omega, fun j b hj hjb => by
                  by_cases e : j = i
                  · subst e; have := hb.out; rw [hjb] at this; cases this; exact hD.out
                  · exact hI.out j b (by omega) hjb⟩
                case measure => simp [intOf] <;> omega
          · obtain rfl : i = s.size := by omega
            have hF := hid (HF.out fun b hb => by
              obtain ⟨j, hj⟩ := List.getElem?_of_mem hb
              exact hI.out j b (by have := (List.getElem?_eq_some_iff.1 hj).1; rw [hsl.out] at this; exact this) hj)
            by_cases hlong : 4000 < s.size
            · have q3 : decide ((4000 : Int) < (s.size : Int)) = true := by simp; omega
              have HL := hid hlong; clear hlong
              go_wp2_with fail
              go_ret
              exact ⟨ret_int (by rw [errN_long hF.out (by rw [hsl.out]; exact HL.out)]), rfl⟩
            · have q3 : decide ((4000 : Int) < (s.size : Int)) = false := by simp; omega
              have HL := hid hlong; clear hlong
              go_wp2_with fail
              go_ret
              exact ⟨ret_int (by rw [errN_ok hF.out (by rw [hsl.out]; exact HL.out)]), rfl⟩
end Go.Proofs.YtpehhgkghgbhiaaGreatDoor
namespace Go.Proofs.YtpehhgkghgbhiaaGreatDoor
open Go.RowKit
set_option linter.unusedVariables false
theorem r2_digits (w : World) (s : ByteArray) (hs : s.size ≤ 9223372036854775807) : Calls Tryz.prog 81 #[.string s] w fun e w' =>
    e = .returned (.bool (formB s.data.toList)) ∧ w = w' := by
  by_cases hf : formB s.data.toList = true
  · by_cases hl : 4000 < s.data.toList.length
    · have H5 := hid (show errN s.data.toList = 5 from by rw [errN, if_pos hf, if_pos hl])
      have HF := hid hf
      rw [hf]
      clear hf hl
      go_enter Tryz.func81, Tryz.ntmps81
      go_wp2_with fail
      refine (r1_Check _ s hs).mono ?_; rintro e w1 ⟨rfl, rfl⟩
      rw [H5.out]
      go_wp2_with fail
      go_ret
      exact ⟨rfl, rfl⟩
    · have H5 := hid (show errN s.data.toList = 0 from by rw [errN, if_pos hf, if_neg hl])
      have HF := hid hf
      rw [hf]
      clear hf hl
      go_enter Tryz.func81, Tryz.ntmps81
      go_wp2_with fail
      refine (r1_Check _ s hs).mono ?_; rintro e w1 ⟨rfl, rfl⟩
      rw [H5.out]
      go_wp2_with fail
      go_ret
      exact ⟨rfl, rfl⟩
  · have H5 := hid (show errN s.data.toList = 3 from by rw [errN, if_neg hf])
    have hf' : formB s.data.toList = false := by simpa using hf
    rw [hf']
    clear hf hf'
    go_enter Tryz.func81, Tryz.ntmps81
    go_wp2_with fail
    refine (r1_Check _ s hs).mono ?_; rintro e w1 ⟨rfl, rfl⟩
    rw [H5.out]
    go_wp2_with fail
    go_ret
    exact ⟨rfl, rfl⟩
end Go.Proofs.YtpehhgkghgbhiaaGreatDoor
namespace Go.Proofs.YtpehhgkghgbhiaaGreatDoor
open Go.RowKit
set_option linter.unusedVariables false
/-- k is the place of the first slash, or the text's length. -/
def isSlash (l : List UInt8) (k : Nat) : Prop := k ≤ l.length ∧ (∀ (j : Nat) (b : UInt8), j < k → l[j]? = some b → b ≠ 47) ∧ (k < l.length → l[k]? = some 47)
theorem r2_slash (w : World) (s : ByteArray) (hs : s.size ≤ 9223372036854775807) : Calls Tryz.prog 80 #[.string s] w fun e w' =>
    (∃ k : Nat, e = .returned (.int .i64 k) ∧ isSlash s.data.toList k) ∧ w = w' := by
  have hsl := hid (show s.data.toList.length = s.size from by simp)
  go_enter Tryz.func80, Tryz.ntmps80
  go_wp2_with fail
  go_loop [3] (fun ii => ∃ i : Nat, ii = .int .i64 i ∧ i ≤ s.size ∧ Hid (∀ (j : Nat) (b : UInt8), j < i → s.data.toList[j]? = some b → b ≠ 47)) (fun ii => s.size - (intOf ii).toNat)
  case atStart => exact ⟨0, rfl, Nat.zero_le _, fun j b hj => absurd hj (by omega)⟩
  case round =>
    obtain ⟨i, rfl, hi, hI⟩ := hrel
    by_cases hlt : i < s.size
    · have hb := hid (byte_get hlt)
      by_cases c1 : s[i] = 47
      · have q1 : ((s[i].toNat : Int) == 47) = true := by rw [c1]; rfl
        have hB := hid c1
        clear c1
        go_wp2_with fail
        go_ret
        exact ⟨⟨i, rfl, by rw [hsl.out]; omega, hI.out, fun _ => by rw [hb.out, hB.out]⟩, rfl⟩
      · have q1 : ((s[i].toNat : Int) == 47) = false := by
          rw [beq_eq_false_iff_ne]
          intro e
          refine c1 ?_
          have : s[i].toNat = (47 : UInt8).toNat := by simp; omega
          exact UInt8.toNat_inj.1 this
        have hB := hid c1
        clear c1
        go_wp2_with fail
        go_round
        case rel => exact ⟨i + 1, by go_num, by omega, fun j b hj hjb => by
          by_cases e : j = i
          · subst e; rw [hb.out] at hjb; cases hjb; exact hB.out
          · exact hI.out j b (by omega) hjb⟩
        case measure => simp [intOf] <;> omega
    · have e1 : i = s.size := by omega
      subst e1
      go_wp2_with fail
      go_ret
      exact ⟨⟨s.size, rfl, by rw [hsl.out]; omega, hI.out, fun h => by rw [hsl.out] at h; omega⟩, rfl⟩
end Go.Proofs.YtpehhgkghgbhiaaGreatDoor
namespace Go.Proofs.YtpehhgkghgbhiaaGreatDoor
open Go.RowKit
set_option linter.unusedVariables false
theorem r2_integer_minus (w : World) (s : ByteArray) (hs : s.size ≤ 9223372036854775807) (h0 : 0 < s.size) (h1 : s[0] = 45) : Calls Tryz.prog 54 #[.string s] w fun e w' =>
    e = .returned (.tuple #[.bool true, .string (s.extract 1 s.size), .bool (formB (s.extract 1 s.size).data.toList && !decide ((s.extract 1 s.size).data.toList = [48]))]) ∧ w = w' := by
  have q0 : decide ((0 : Int) < (s.size : Int)) = true := by simp; omega
  have q1 : ((s[0].toNat : Int) == 45) = true := by rw [h1]; rfl
  have H0 := hid h1
  clear h1
  have hts : (s.extract 1 s.size).size ≤ 9223372036854775807 := by simp; omega
  obtain ⟨t, ht⟩ : ∃ t, s.extract 1 s.size = t := ⟨_, rfl⟩
  rw [ht] at hts ⊢
  have HT := hid ht
  obtain ⟨f, hf⟩ : ∃ f, formB t.data.toList = f := ⟨_, rfl⟩
  rw [hf]
  have HF := hid hf
  clear ht hf
  go_enter Tryz.func54, Tryz.ntmps54
  go_wp2_with fail
  rw [HT.out]
  refine (r2_digits _ t hts).mono ?_; rintro e w1 ⟨rfl, rfl⟩
  rw [HF.out]
  cases f
  · go_wp2_with fail
    exact bodyPost_ret (v := .tuple #[.bool true, .string t, .bool false]) (by simp [results, Tryz.results54, go_sem]) rfl ⟨by simp, rfl⟩
  · go_wp2_with fail
    refine bodyPost_ret (v := .tuple #[.bool true, .string t, .bool (!(t.toList == [48]))]) (by simp [results, Tryz.results54, go_sem]) rfl ⟨?_, rfl⟩
    rw [Go.ByteArray.toList_eq]
    simp
    exact Bool.eq_iff_iff.2 (by simp)
theorem r2_integer_plain (w : World) (s : ByteArray) (hs : s.size ≤ 9223372036854775807) (h1 : ∀ h : 0 < s.size, s[0] ≠ 45) : Calls Tryz.prog 54 #[.string s] w fun e w' =>
    e = .returned (.tuple #[.bool false, .string s, .bool (formB s.data.toList)]) ∧ w = w' := by
  obtain ⟨f, hf⟩ : ∃ f, formB s.data.toList = f := ⟨_, rfl⟩
  rw [hf]
  have HF := hid hf
  clear hf
  by_cases h0 : 0 < s.size
  · have q0 : decide ((0 : Int) < (s.size : Int)) = true := by simp; omega
    have q1 : ((s[0].toNat : Int) == 45) = false := by
      rw [beq_eq_false_iff_ne]
      intro e
      refine h1 h0 ?_
      have : s[0].toNat = (45 : UInt8).toNat := by simp; omega
      exact UInt8.toNat_inj.1 this
    clear h1
    go_enter Tryz.func54, Tryz.ntmps54
    go_wp2_with fail
    refine (r2_digits _ s hs).mono ?_; rintro e w1 ⟨rfl, rfl⟩
    rw [HF.out]
    cases f
    all_goals
      go_wp2_with fail
      exact bodyPost_ret (v := .tuple #[.bool false, .string s, .bool _]) (by simp [results, Tryz.results54, go_sem]) rfl ⟨rfl, rfl⟩
  · obtain rfl : s = ⟨#[]⟩ := by
      apply ByteArray.ext
      exact Array.eq_empty_of_size_eq_zero (by have : s.data.size = s.size := rfl; omega)
    clear h1 h0 hs
    go_enter Tryz.func54, Tryz.ntmps54
    go_wp2_with fail
    refine (r2_digits _ ⟨#[]⟩ (Nat.zero_le _)).mono ?_; rintro e w1 ⟨rfl, rfl⟩
    rw [HF.out]
    cases f
    all_goals
      go_wp2_with fail
      exact bodyPost_ret (v := .tuple #[.bool false, .string ⟨#[]⟩, .bool _]) (by simp [results, Tryz.results54, go_sem]) rfl ⟨rfl, rfl⟩
end Go.Proofs.YtpehhgkghgbhiaaGreatDoor
namespace Go.Proofs.YtpehhgkghgbhiaaGreatDoor
open Go.RowKit
open Go.Lib (decDigits nDigits)
set_option linter.unusedVariables false
theorem ba_list_iff {a b : ByteArray} : a.data.toList = b.data.toList ↔ a = b := ⟨ba_ext, fun e => by rw [e]⟩
theorem r2_integer (w : World) (s : ByteArray) (hs : s.size ≤ 9223372036854775807) : Calls Tryz.prog 54 #[.string s] w fun e w' =>
    e = .returned (.tuple #[.bool (iM s), .string (iD s), .bool (iB s)]) ∧ w = w' := by
  have hl : s.data.toList.length = s.size := by simp
  by_cases h : ∃ h0 : 0 < s.size, s[0] = 45
  · obtain ⟨h0, h1⟩ := h
    have hg := byte_get h0
    rw [h1] at hg
    obtain ⟨t, ht⟩ : ∃ t, s.data.toList = 45 :: t := by
      cases hc : s.data.toList with
      | nil => rw [hc] at hg; simp at hg
      | cons b t => rw [hc] at hg; simp at hg; exact ⟨t, by rw [hg]⟩
    have hM : iM s = true := by unfold iM Lib.hasPrefix; rw [ht]; simp [List.isPrefixOf]
    have hD : iD s = s.extract 1 s.size := by
      apply ba_ext
      rw [extract_list, ht]
      unfold iD Lib.trimPrefix
      rw [show Lib.hasPrefix s.data.toList [45] = true from hM, ht]
      have : s.size = t.length + 1 := by rw [← hl, ht]; simp
      simp [this]
    have H := r2_integer_minus w s hs h0 h1
    rw [← hD] at H
    have e : iB s = (formB (iD s).data.toList && !decide ((iD s).data.toList = [48])) := by
      unfold iB fB
      rw [hM, Bool.true_and]
      have : decide (iD s = ⟨#[48]⟩) = decide ((iD s).data.toList = [48]) := decide_eq_decide.2 (by rw [← ba_list_iff])
      rw [this]
    rw [hM, e]
    exact H
  · have h1 : ∀ h : 0 < s.size, s[0] ≠ 45 := fun h0 e => h ⟨h0, e⟩
    have hM : iM s = false := by
      unfold iM Lib.hasPrefix
      cases hc : s.data.toList with
      | nil => rfl
      | cons b t =>
        have h0 : 0 < s.size := by rw [← hl, hc]; simp
        have hg := byte_get h0
        rw [hc] at hg
        simp at hg
        have h3 : ((45 : UInt8) == b) = false := by rw [beq_eq_false_iff_ne, hg]; exact fun e => h1 h0 e.symm
        simp [List.isPrefixOf, h3]
    have hD : iD s = s := by
      apply ba_ext
      unfold iD Lib.trimPrefix
      rw [show Lib.hasPrefix s.data.toList [45] = false from hM]
      simp
    have H := r2_integer_plain w s hs h1
    have e : iB s = formB s.data.toList := by unfold iB fB; rw [hM, hD]; simp
    rw [hM, hD, e]
    exact H
/-- The first slash cuts the text. -/
theorem slash_cut {s : ByteArray} {k : Nat} (h : isSlash s.data.toList k) : k ≤ s.size ∧ cW s = s.extract 0 k ∧ cS s = decide (k < s.size) ∧ (k < s.size → cB s = s.extract (k + 1) s.size) := by
  obtain ⟨h1, h2, h3⟩ := h
  have hl : s.data.toList.length = s.size := by simp
  rcases sl_cases s.data.toList with hn | ⟨A, B, hA, e⟩
  · have hk : k = s.size := by
      rcases Nat.lt_or_ge k s.data.toList.length with hlt | hge
      · exact absurd rfl (hn 47 (List.mem_of_getElem? (h3 hlt)))
      · omega
    have hc := cut_none hn
    subst hk
    refine ⟨Nat.le_refl _, ?_, ?_, fun h => absurd h (Nat.lt_irrefl _)⟩
    · apply ba_ext; rw [extract_list]; unfold cW; rw [hc, List.drop_zero, Nat.sub_zero, ← hl, List.take_length]
    · unfold cS; rw [hc]; simp
  · have hL : s.data.toList.length = A.length + 1 + B.length := by rw [e]; simp; omega
    have hk : k = A.length := by
      rcases Nat.lt_trichotomy k A.length with hlt | heq | hgt
      · have := h3 (by omega)
        rw [e, List.getElem?_append_left hlt] at this
        exact absurd rfl (hA 47 (List.mem_of_getElem? this))
      · exact heq
      · exact absurd rfl (h2 A.length 47 hgt (by rw [e]; simp))
    have hc := cut_at (r := B) hA
    rw [← e] at hc
    subst hk
    refine ⟨by omega, ?_, ?_, fun _ => ?_⟩
    · apply ba_ext; rw [extract_list, e]; unfold cW; rw [hc]; simp
    · unfold cS; rw [hc]; simp; omega
    · apply ba_ext; rw [extract_list]; unfold cB; rw [hc]
      have : s.size - (A.length + 1) = B.length := by omega
      rw [this, e, show A ++ 47 :: B = (A ++ [47]) ++ B by simp, List.drop_left' (by simp), List.take_length]
end Go.Proofs.YtpehhgkghgbhiaaGreatDoor
namespace Go.Proofs.YtpehhgkghgbhiaaGreatDoor
open Go.RowKit
set_option linter.unusedVariables false
set_option maxHeartbeats 2000000 in
theorem r1_Order (w : World) (v u : Value) (a b : Nat) (ha : IsN .i64 w v a) (hb : IsN .i64 w u b) :
    Calls Tryz.prog 82 #[v, u] w fun e w' => e = .returned (.int .i64 (ordN a b)) ∧ Below w.heap.size w w' := by
  obtain ⟨a1, c1, rfl, h1, h2, h3⟩ := ha.openI
  obtain ⟨a2, c2, rfl, k1, k2, k3⟩ := hb.openI
  have H3 := hid h3; have K3 := hid k3; clear h3 k3 ha hb
  by_cases hne : (limbs a).length = (limbs b).length
  · obtain ⟨n, ea⟩ : ∃ n, (limbs a).length = n := ⟨_, rfl⟩
    have eb : (limbs b).length = n := hne.symm.trans ea
    rw [ea] at h1 ⊢
    rw [eb] at k1 ⊢
    have HA := hid ea; have HB := hid eb
    clear hne ea eb
    go_enter Tryz.func82, Tryz.ntmps82
    go_wp2_with fail
    go_loopw [5] (fun i wr => ∃ (k : Nat) (t : Int), k ≤ n ∧ i = .int .i64 t ∧ t = (k : Int) - 1 ∧ Hid ((limbs a).drop k = (limbs b).drop k) ∧ Hid (Below w.heap.size w wr)) (fun i _ => (intOf i + 1).toNat)
    case atStart => exact ⟨n, _, Nat.le_refl _, rfl, rfl, by rw [Hid, List.drop_of_length_le (by rw [HA.out]; exact Nat.le_refl _), List.drop_of_length_le (by rw [HB.out]; exact Nat.le_refl _)], Below.refl _ _⟩
    case round =>
      obtain ⟨k, t, hk, rfl, ht, hd, hB⟩ := hrel
      cases k with
      | zero =>
        obtain rfl : t = -1 := by omega
        clear ht
        go_wp2_with fail
        go_ret
        have : a = b := limbs_inj hd.out
        subst this
        exact ⟨ret_int ordN_eq.symm, hB.out⟩
      | succ k =>
        obtain rfl : t = (k : Int) := by omega
        clear ht
        obtain ⟨x, hx⟩ : ∃ x, (limbs a)[k]? = some x := ⟨_, List.getElem?_eq_getElem (by rw [HA.out]; omega)⟩
        obtain ⟨y, hy⟩ : ∃ y, (limbs b)[k]? = some y := ⟨_, List.getElem?_eq_getElem (by rw [HB.out]; omega)⟩
        obtain ⟨g, o, rfl, hg, hc⟩ := H3.out k x hx
        obtain ⟨g', o', rfl, hg', hc'⟩ := K3.out k y hy
        have d1 := (hB.out.cell (p := ⟨g, o + k, none⟩) hg).trans hc
        have d2 := (hB.out.cell (p := ⟨g', o' + k, none⟩) hg').trans hc'
        have HX := hid hx; have HY := hid hy; clear hx hy hc hc'
        have b1 : (0 : Int) ≤ (k : Int) := by omega
        have b2 : (k : Int) < (n : Int) := by omega
        rcases Nat.lt_trichotomy x y with hlt | heq | hgt
        · have q1 : decide (x < y) = true := by simpa using hlt
          go_wp2_with fail
          go_quiet (fail)
          go_wp2_with fail
          go_ret
          exact ⟨ret_int (ordN_lt (ord_lt_at (HA.out.trans HB.out.symm) HX.out HY.out hd.out hlt)).symm, below_drewN hB.out _⟩
        · have q1 : decide (x < y) = false := by simp; omega
          have q2 : decide (y < x) = false := by simp; omega
          go_wp2_with fail
          go_quiet (fail)
          go_wp2_with fail
          go_quiet (fail)
          go_wp2_with fail
          go_roundw
          case rel => exact ⟨k, _, by omega, rfl, rfl, drop_eq_next HX.out (by rw [HY.out, heq]) hd.out, below_drewN hB.out _⟩
          case measure => simp [intOf] <;> omega
        · have q1 : decide (x < y) = false := by simp; omega
          have q2 : decide (y < x) = true := by simpa using hgt
          go_wp2_with fail
          go_quiet (fail)
          go_wp2_with fail
          go_quiet (fail)
          go_wp2_with fail
          go_ret
          exact ⟨ret_int (ordN_gt (ord_lt_at (HB.out.trans HA.out.symm) HY.out HX.out hd.out.symm hgt)).symm, below_drewN (below_drewN hB.out _) _⟩
  · rcases Nat.lt_or_gt_of_ne hne with hlt | hgt
    · have HL := hid (lt_of_length hlt)
      have q0 : (((limbs a).length : Int) != ((limbs b).length : Int)) = true := by simp; omega
      have q1 : decide ((limbs a).length < (limbs b).length) = true := by simpa using hlt
      clear hne
      go_enter Tryz.func82, Tryz.ntmps82
      go_wp2_with fail
      go_ret
      exact ⟨ret_int (ordN_lt HL.out).symm, Below.refl _ _⟩
    · have HL := hid (lt_of_length hgt)
      have q0 : (((limbs a).length : Int) != ((limbs b).length : Int)) = true := by simp; omega
      have q1 : decide ((limbs a).length < (limbs b).length) = false := by simp; omega
      clear hne
      go_enter Tryz.func82, Tryz.ntmps82
      go_wp2_with fail
      go_ret
      exact ⟨ret_int (ordN_gt HL.out).symm, Below.refl _ _⟩
end Go.Proofs.YtpehhgkghgbhiaaGreatDoor
namespace Go.Proofs.YtpehhgkghgbhiaaGreatDoor
open Go.RowKit
set_option linter.unusedVariables false
theorem make_limbs (n : Nat) (hn : n ≤ 3000000) (W : World) : (Instr.makeSlice 64 (.int .i64 (n : Int)) (.int .i64 (n : Int))).run Tryz.prog W = .ok (.slice (some ⟨W.heap.size, 0, none⟩) n n) (W.alloc (.cells (madeCells #[.int .i64 0] n) 3)) :=
  run_make_row' (P := Tryz.prog) 64 3 (.int .i64 0) 8 Tryz.underlying64 (by kernel_rfl) rfl .i64 .i64 n (by omega) (by omega) W
set_option maxRecDepth 100000 in
set_option maxHeartbeats 4000000 in
theorem r1_Times (w : World) (v u : Value) (a b : Nat) (ha : IsN .i64 w v a) (hb : IsN .i64 w u b) (hla : (limbs a).length ≤ 1000000) (hlb : (limbs b).length ≤ 1000000) :
    Calls Tryz.prog 71 #[v, u] w fun e w' => RetN .i64 (a * b) e w' ∧ Below w.heap.size w w' := by
  obtain ⟨a1, c1, rfl, h1, h2, h3⟩ := ha.openI
  obtain ⟨a2, c2, rfl, k1, k2, k3⟩ := hb.openI
  have H3 := hid h3; have K3 := hid k3; clear h3 k3 ha hb
  obtain ⟨n, ea⟩ : ∃ n, (limbs a).length = n := ⟨_, rfl⟩
  obtain ⟨m, eb⟩ : ∃ m, (limbs b).length = m := ⟨_, rfl⟩
  rw [ea] at h1 hla ⊢
  rw [eb] at k1 hlb ⊢
  have HA := hid ea; have HB := hid eb
  clear ea eb
  have hmk : ∀ W : World, (Instr.makeSlice 64 (.int .i64 ((n : Int) + m)) (.int .i64 ((n : Int) + m))).run Tryz.prog W = .ok (.slice (some ⟨W.heap.size, 0, none⟩) (n + m) (n + m)) (W.alloc (.cells (madeCells #[.int .i64 0] (n + m)) 3)) := fun W => by
    have := make_limbs (n + m) (by omega) W
    rwa [Int.natCast_add] at this
  go_enter Tryz.func71, Tryz.ntmps71
  go_wp2_with fail
  clear hmk
  go_loopw [6] (fun i wr => ∃ (k : Nat) (o : List Nat), i = .int .i64 k ∧ k ≤ n ∧ Hid (MulI a b k o) ∧ Hid (Arr .i64 3 wr w.heap.size o) ∧ Hid (Below w.heap.size w wr)) (fun i _ => n - (intOf i).toNat)
  case atStart => exact ⟨0, _, rfl, Nat.zero_le _, MulI.start a b, by rw [HA.out, HB.out]; exact Arr.made w .i64 3 (n + m), (Below.refl _ _).alloc (Nat.le_refl _) _⟩
  case round =>
    obtain ⟨i, o, rfl, hin, hM, hO, hB⟩ := hrel
    by_cases hlt : i < n
    · obtain ⟨x, hx⟩ : ∃ x, (limbs a)[i]? = some x := ⟨_, List.getElem?_eq_getElem (by rw [HA.out]; exact hlt)⟩
      obtain ⟨g, og, rfl, hg, hc⟩ := H3.out _ x hx
      have HX := hid hx; have HC := hid hc; clear hx hc
      have hsize := hid (show o.length = n + m from by rw [hM.out.len, HA.out, HB.out])
      go_wp2_with fail
      obtain ⟨wo, rfl⟩ : ∃ wo : World, wo = wr := ⟨_, rfl⟩
      go_loopw [7, 8, 9] (fun cc kk nn wq => ∃ (c k : Nat) (o : List Nat), cc = .int .i64 c ∧ kk = .int .i64 k ∧ k ≤ m ∧ Hid (MulJ a b i x k c o) ∧ Hid (Arr .i64 3 wq w.heap.size o) ∧ Hid (Below w.heap.size w wq)) (fun _ kk _ _ => m - (intOf kk).toNat)
      case atStart => exact ⟨0, 0, o, rfl, rfl, Nat.zero_le _, hM.out.enter, hO, hB⟩
      case round =>
        obtain ⟨c, k, o, rfl, rfl, hkm, hJ, hO, hB⟩ := hrel
        have hsz : Hid (o.length = n + m) := by rw [Hid, hJ.out.len, HA.out, HB.out]
        by_cases hkl : k < m
        · obtain ⟨y, hy⟩ : ∃ y, (limbs b)[k]? = some y := ⟨_, List.getElem?_eq_getElem (by rw [HB.out]; exact hkl)⟩
          obtain ⟨g', og', rfl, hg', hd⟩ := K3.out _ y hy
          obtain ⟨old, ho⟩ : ∃ old, o[i + k]? = some old := ⟨_, List.getElem?_eq_getElem (by rw [hsz.out]; omega)⟩
          have d1 := (hB.out.cell (p := ⟨g, og + i, none⟩) hg).trans HC.out
          have d2 := (hB.out.cell (p := ⟨g', og' + k, none⟩) hg').trans hd
          have d3 := hO.out.cell ho
          have d4 := hO.out.free (i + k)
          have hb1 := mul_bound (hJ.out.sm.get ho) ((sm_limbs a).get HX.out) ((sm_limbs b).get hy) hJ.out.c1
          have HN := hid (hJ.out.next HX.out hy ho)
          have hol := hJ.out.sm.get ho
          have hcl := hJ.out.c1
          have HP := hid (show ((x : Int) * (y : Int)) = ((x * y : Nat) : Int) from (Int.natCast_mul x y).symm)
          obtain ⟨p, hp⟩ : ∃ p, x * y = p := ⟨_, rfl⟩
          rw [hp] at hb1 HN HP
          have hp2 := hb1.2; have hb1 := hb1.1
          clear hd hy ho hp
          have e1 : (0 : Int) ≤ (i : Int) + k := by omega
          have e2 : (i : Int) + k < (n : Int) + m := by omega
          have f1 : (0 : Int) ≤ (i : Int) := by omega
          have f2 : (i : Int) < (n : Int) := by omega
          have f3 : (0 : Int) ≤ (k : Int) := by omega
          have f4 : (k : Int) < (m : Int) := by omega
          have e3 : IntKind.i64.wrap ((i : Int) + k) = (i : Int) + k := IntWalk.i64_in _ (by omega)
          have e4 : ((i : Int) + k).toNat = i + k := by omega
          have e5 : IntKind.i64.wrap ((x : Int) * (y : Int)) = (p : Int) := by rw [HP.out]; exact IntWalk.i64_in _ (by omega)
          have e6 : IntKind.i64.wrap ((old : Int) + (p : Int)) = (old : Int) + (p : Int) := IntWalk.i64_in _ (by omega)
          have e7 : IntKind.i64.wrap ((old : Int) + (p : Int) + (c : Int)) = (old : Int) + (p : Int) + (c : Int) := IntWalk.i64_in _ (by omega)
          go_wp2_with fail
          go_quiet (fail)
          clear e3 e4 e5 e6 e7
          go_wp2_with fail
          go_roundw
          case rel =>
            have hz : (((old : Int) + p + c) % 1000000000) = (((old + p + c) % 1000000000 : Nat) : Int) := by omega
            rw [hz]
            exact ⟨(old + p + c) / 1000000000, k + 1, _, by go_num, by go_num, by omega, HN, (hO.out.drewN _).set (i + k) _, below_set (below_drewN hB.out _) (Nat.le_refl _) _⟩
          case measure => simp [intOf] <;> omega
        · obtain rfl : k = m := by omega
          have HJ := hid (show MulI a b (i + 1) (o.set (i + k) c) from by have := hJ.out; rw [← HB.out] at this ⊢; exact this.leave HX.out)
          obtain ⟨z, hz⟩ : ∃ z, o[i + k]? = some z := ⟨_, List.getElem?_eq_getElem (by rw [hsz.out]; omega)⟩
          have d3 := hO.out.cell hz
          have d4 := hO.out.free (i + k)
          clear hz
          go_wp2_with fail
          go_roundw
          case rel => exact ⟨i + 1, _, by go_num, by omega, HJ, hO.out.set (i + k) c, below_set hB.out (Nat.le_refl _) _⟩
          case measure => simp [intOf] <;> omega
    · obtain rfl : i = n := by omega
      have hv := hid (show val o = a * b from MulI.done (by have := hM.out; rw [← HA.out] at this; exact this))
      have hl := hid (show o.length = i + m from by rw [hM.out.len, HA.out, HB.out])
      have hr := hid (show Row wr (.slice (some ⟨w.heap.size, 0, none⟩) (i + m) (i + m)) (ints .i64 o) from by
        have := hO.out.row (n := i + m) (c := i + m) (by rw [hl.out]; exact Nat.le_refl _) (Nat.le_refl _) (by unfold maxLen; omega)
        rwa [List.take_of_length_le (by rw [hl.out]; exact Nat.le_refl _)] at this)
      go_wp2_with (go_at_call 84; refine (r1_trim _ _ o hM.out.sm hr.out).mono ?_; rintro e w1 ⟨⟨v1, rfl, hv1⟩, rfl⟩)
      go_ret
      exact ⟨⟨v1, rfl, by rw [← hv.out]; exact hv1⟩, hB.out⟩
end Go.Proofs.YtpehhgkghgbhiaaGreatDoor
