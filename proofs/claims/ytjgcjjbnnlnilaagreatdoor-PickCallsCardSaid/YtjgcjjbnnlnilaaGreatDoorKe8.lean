/- Walks: pick.law: the map of the shares. -/
import Derived.Test.YtjgcjjbnnlnilaaGreatDoorKe7
import Derived.Maps.Own
import Derived.Maps.OwnIn
import Derived.Sort.CutIn
import Derived.Sort.KeysCollected
import Derived.Shelf.SlIter.Nil
import Derived.Shelf.SortM.Plain
import Derived.Shelf.SortM.SortNone
import Derived.Ground.GgzProg
import Derived.Ground.SlgmProg
import Derived.Test.YtjgcjjbnnlnilaaGreatDoorProg
namespace Go.Proofs.YtjgcjjbnnlnilaaGreatDoor
open Go.RowKit Go.Shelf Go.Maps
open Go.Lib (decDigits nDigits)
set_option linter.unusedVariables false
set_option linter.unusedSimpArgs false
attribute [local go_sem] Oper.semAt_some

theorem sum_pos {l : List Nat} {x : Nat} (h : x ∈ l) (hx : x ≠ 0) : 0 < l.sum := by
  induction l with
  | nil => simp at h
  | cons a r ih =>
    rw [List.sum_cons]
    rcases List.mem_cons.1 h with rfl | h
    · omega
    · have := ih h; omega
theorem wsE_pos {l : List ByteArray} (h : wsE l = 0) : 0 < (l.map bN).sum := by
  obtain ⟨D1, -, -⟩ := wsE_ok h
  unfold wsE at h
  split at h
  · exact absurd h (by decide)
  · split at h
    · rename_i h2 h3; exact absurd h h3
    · split at h
      · rename_i h4
        obtain ⟨b, hb, hb2⟩ := List.any_eq_true.1 h4
        refine sum_pos (List.mem_map_of_mem hb) fun e => ?_
        have hb3 : b ≠ ⟨#[48]⟩ := by simpa using hb2
        obtain ⟨i, hi⟩ := List.getElem?_of_mem hb
        have e1 : ((l.map bN).map numB)[i]? = some (numB (bN b)) := by rw [List.getElem?_map, List.getElem?_map, hi]; rfl
        rw [← D1, hi] at e1
        apply hb3
        rw [Option.some.inj e1, e, numB_zero]
      · exact absurd h (by decide)

theorem lawKeyed : Keyed Tryz.prog 9 := string_keyed Tryz.underlying9

/-- The map behind the first i indexes. -/
def lawD {H : Type} (ws : List Nat) (t : Nat) : Nat → DataW H
  | 0 => .map []
  | i + 1 => if cntF ws t i < cntE ws t i then (lawD ws t i).put (.string (numB i).data.toList) (.lit (.string (shB (cnt ws t i) t).data.toList)) else lawD ws t i

/-- The whole map: what no index takes is late. -/
def lateB : ByteArray := ⟨#[108, 97, 116, 101]⟩
def lawM {H : Type} (ws : List Nat) (t N : Nat) : DataW H := if t - lwS ws t N = 0 then lawD ws t N else (lawD ws t N).put (.string [108, 97, 116, 101]) (.lit (.string (shB (t - lwS ws t N) t).data.toList))
theorem outB_size (q : Rat) : (outB q).size ≤ 10000 := by
  unfold outB
  split
  · exact (by decide : (0 : Nat) ≤ 10000)
  · rename_i h
    unfold ovQ at h
    have h1 := list_size (txQ q)
    unfold txQ at h1 ⊢
    rw [txB_list] at h1
    rw [← h1]
    simp only [List.length_append, Lib.decDigits_length]
    have e1 : (if decide (q.num < 0) = true then [45] else ([] : List UInt8)).length ≤ 1 := by split <;> simp
    have e2 : (if q.den = 1 then [] else (47 : UInt8) :: decDigits q.den).length ≤ 4001 := by
      split
      · simp
      · simp only [List.length_cons, Lib.decDigits_length]; omega
    omega
theorem shB_size (m t : Nat) : (shB m t).size ≤ maxLen := Nat.le_trans (outB_size _) (by unfold maxLen; decide)
theorem held_wide {P : Program} {Q : Exit → Act → World → Prop} {n : Nat} {id : Nat} {a : Act} {w : World} {l : List Oper} (S : World → Prop) (hm : P.follows .mixedOrders = true)
    (h : wpAnyH P .any l.toArray (Only Q) S l.toArray.size (Array.replicate l.toArray.size false) a { w with drawn := w.drawn + 1 }) : (Code.region id l.toArray true).wpIn Fence.wide n P Q a w :=
  wpIn_region_any hm (any_plain _ _ _ _ (wpAny_of_held _ _ _ _ h))

/-- What holds behind some weights: the map, what is left, the number. -/
def LawI {H : Type} (T t : Nat) (ws : List Nat) (p : List (ByteArray × ByteArray)) (W : World) : Prop := p.length ≤ ws.length ∧ W.ownsMap Tryz.prog 9 (plainElem Tryz.prog 23) (T + 1 + 1) p.length (lawD (H := H) ws t p.length) ∧
  Blk W (T + 1) #[.string (numB (t - lwS ws t p.length))] 23 ∧ Blk W (T + 1 + 1 + 1 + 1) #[.int .i64 (p.length : Nat)] 3
theorem LawI.own {H : Type} {T t C : Nat} {ws : List Nat} (hC : T + 1 + 1 < C) : OwnFrom C (LawI (H := H) T t ws) := by
  rintro s X Y row ⟨h1, h2, h3, h4⟩ hg hr
  exact ⟨h1, h2.kept hg (fun e => by have := (hr _ e.symm).1; omega), h3.kept hg (fun r e => (hr r e).2), h4.kept hg (fun r e => (hr r e).2)⟩

set_option maxRecDepth 100000 in
set_option maxHeartbeats 4000000 in
theorem p_law {H : Type} (w : World) (v : Value) (l : List ByteArray) (n : Nat) (hv : Row w v (strs l)) (hl : ∀ x ∈ l, x.size ≤ 1000000) (he : wsE l = 0) (hn : n ≤ 256) (hL : Lay w) :
    Calls Tryz.prog 56 #[v, .int .i64 (n : Nat)] w fun e w' => (∃ B, e = .returned (.tuple #[.map (some B), .int .i64 0]) ∧ w'.ownsMap Tryz.prog 9 (plainElem Tryz.prog 23) B (l.length + 1) (lawM (H := H) (l.map bN) (2 ^ n) l.length)) ∧ Below w.heap.size w w' := by
  have PC := fun V hV => hid (p_check V v l hV hl)
  have PE := fun V hws hV hLV => hid (p_ends V v (l.map bN) hws hV hLV)
  have PP := fun V hLV => hid (pk_pow2 V n hn hLV)
  obtain ⟨D1, D2, D3⟩ := wsE_ok he
  have he' := he
  rw [he] at PC
  have HL := hid hL; have HV := hid hv
  obtain ⟨a, c, rfl, q1, q2, -⟩ := hv.openS
  obtain ⟨N, hN⟩ : ∃ N, l.length = N := ⟨_, rfl⟩
  have HN := hid hN
  obtain ⟨ws, hws⟩ : ∃ ws, l.map bN = ws := ⟨_, rfl⟩
  have hlen : ws.length = N := by rw [← hws, List.length_map]; exact hN
  rw [hws] at PE D1 D2 ⊢
  rw [hN] at PC PE q1 HV D3 ⊢
  have HWS := hid D2; have HD1 := hid D1
  have HPOS : Hid (0 < ws.sum) := by rw [← hws]; exact wsE_pos he'
  obtain ⟨m, rfl⟩ : ∃ m, N = m + 1 := ⟨N - 1, by omega⟩
  have HLEN := hid hlen
  have hm : m < 64 := by have := D2.len; omega
  clear hv hL hl hN D1 D2 D3 hws hlen he he'
  have s1 : decide ((n : Int) < 0) = false := by simp
  have s2 : decide ((256 : Int) < (n : Int)) = false := by simp; omega
  obtain ⟨T0, hT0⟩ : ∃ s, numB (2 ^ n) = s := ⟨_, rfl⟩
  have HT0 := hid hT0
  rw [hT0] at PP
  have hmm := @run_makeMap Tryz.prog
  clear hT0
  refine (callsIn_wide (n := 9)).1 ?_
  refine callsIn_of_wp_marks Tryz.func56 rfl trivial ?_ rfl
  simp only [Tryz.ntmps56, List.size_toArray, List.length_cons, List.length_nil, Nat.reduceAdd, Nat.reduceSub, Array.replicate_succ, Array.replicate_zero, List.push_toArray, List.append_toArray, List.nil_append, List.cons_append]
  gi_wp2_with (refine ⟨trivial, ?_⟩; gi_at_call 38; refine (callsIn_wide.2 (PC _ HV.out).out).mono ?_; rintro e w1 ⟨rfl, hb1⟩
               have y1 := hid hb1; clear hb1)
  refine ⟨trivial, ?_⟩
  refine (callsIn_wide.2 (PE _ HWS.out (by rw [← HD1.out]; exact HV.out.call y1.out) (HL.out.call y1.out)).out).mono ?_; rintro e w2 ⟨⟨u, rfl, hu⟩, hb2⟩
  have y2 := hid (bnext y1.out hb2)
  clear hb2
  have hu2 := hid hu
  obtain ⟨a5, c5, rfl, r1, r2, r3⟩ := hu.openS
  rw [endL_length] at hu2 r1 ⊢
  obtain ⟨g, o, rfl, hg, hc⟩ := r3 m _ (endL_get (by rw [HLEN.out]; omega))
  rw [pre_all (by rw [HLEN.out]; omega)] at hc
  rw [HLEN.out] at r1 ⊢
  obtain ⟨S0, hS0⟩ : ∃ s, numB ws.sum = s := ⟨_, rfl⟩
  have HS0 := hid hS0
  rw [hS0] at hc
  have e1 : IntKind.i64.wrap (((m + 1 : Nat) : Int) - 1) = (m : Int) := by rw [IntWalk.i64_in _ ⟨by omega, by omega⟩]; omega
  have b1 : (0 : Int) ≤ (m : Int) := by omega
  have b2 : (m : Int) < (m : Int) + 1 := by omega
  clear hu hu2 r3 hS0
  gi_wp2_with fail
  have A3 := hid ((Below.refl w2.heap.size w2).alloc (Nat.le_refl _) (.cells #[.string S0] 23))
  have X3 := hid (Blk.new w2 #[.string S0] 23)
  refine ⟨trivial, ?_⟩
  refine (callsIn_wide.2 (PP _ ((HL.out.call y2.out).call A3.out)).out).mono ?_; rintro e w3 ⟨rfl, hb3⟩
  have X4 := hid (X3.out.call hb3)
  have y3 := hid (bnext y2.out (A3.out.trans (hb3.mono A3.out.size)))
  have hlt := hid (show w2.heap.size < w3.heap.size from X4.out.lt)
  clear hb3 hc hg
  gi_wp2_with fail
  refine ⟨trivial, ?_⟩
  refine (callsIn_wide.2 (p_scan _ _ _ _)).mono ?_; rintro e w' ⟨rfl, rfl⟩
  gi_wp2_with fail
  obtain ⟨W0, hW0⟩ : ∃ W0, ((((((w3.alloc (.cells #[.string T0] 23)).alloc (.cells #[.string T0] 23)).alloc (.map #[] 0)).alloc (.cells #[.map (some (w3.heap.size + 1 + 1))] 80)).alloc (.cells #[.int .i64 0] 3)).alloc (.cells #[.slice a (m + 1) c] 22)) = W0 := ⟨_, rfl⟩
  have d0 : Blk W0 w3.heap.size #[.string T0] 23 := by rw [← hW0]; exact (((((Blk.new w3 _ _).alloc _).alloc _).alloc _).alloc _).alloc _
  have d1 : Blk W0 (w3.heap.size + 1) #[.string T0] 23 := by rw [← hW0]; exact ((((Blk.made _ _ _ (by simp)).alloc _).alloc _).alloc _).alloc _
  have d2 : W0.ownsMap Tryz.prog 9 (plainElem (H := H) Tryz.prog 23) (w3.heap.size + 1 + 1) 0 (.map []) := by
    rw [← hW0]
    have h := World.ownsMap_made (H := H) ((w3.alloc (.cells #[.string T0] 23)).alloc (.cells #[.string T0] 23)) Tryz.prog 9 (plainElem Tryz.prog 23)
    simp only [World.size_alloc] at h
    exact ((h.alloc _).alloc _).alloc _
  have d3 : Blk W0 (w3.heap.size + 1 + 1 + 1) #[.map (some (w3.heap.size + 1 + 1))] 80 := by rw [← hW0]; exact ((Blk.made _ _ _ (by simp)).alloc _).alloc _
  have d4 : Blk W0 (w3.heap.size + 1 + 1 + 1 + 1) #[.int .i64 0] 3 := by rw [← hW0]; exact (Blk.made _ _ _ (by simp)).alloc _
  have d5 : Blk W0 (w3.heap.size + 1 + 1 + 1 + 1 + 1) #[.slice a (m + 1) c] 22 := by rw [← hW0]; exact Blk.made _ _ _ (by simp)
  have d6 : Below w3.heap.size w3 W0 := by
    rw [← hW0]
    exact ((((((Below.refl _ _).alloc (Nat.le_refl _) _).alloc (by simp) _).alloc (by simp <;> omega) _).alloc (by simp <;> omega) _).alloc (by simp <;> omega) _).alloc (by simp <;> omega) _
  have d7 : W0.heap.size = w3.heap.size + 1 + 1 + 1 + 1 + 1 + 1 := by rw [← hW0]; simp
  rw [hW0]
  have d8 : Blk W0 w2.heap.size #[.string S0] 23 := X4.out.call d6
  have Y0 := hid d0; have Y1 := hid d1; have Y2 := hid d2; have Y3 := hid d3; have Y4 := hid d4; have Y5 := hid d5; have HB0 := hid d6; have Z0 := hid d7; have Y8 := hid d8
  clear d0 d1 d2 d3 d4 d5 d6 d7 d8 hW0
  obtain ⟨T, hT⟩ : ∃ T, w3.heap.size = T := ⟨_, rfl⟩
  rw [hT] at Y0 Y1 Y2 Y3 Y4 Y5 HB0 Z0 hlt ⊢
  have HTT := hid hT
  clear hT
  have hread : ∀ W1 W2, Below W0.heap.size W0 W1 → KpE (T + 1) (T + 1 + 1 + 1 + 1 + 1) W1 W2 → W2.cell? ⟨T + 1 + 1 + 1 + 1 + 1, 0, none⟩ = some (.slice a (m + 1) c) ∧ Row W2 (.slice a (m + 1) c) (strs (ws.map numB)) ∧ Lay W2 := fun W1 W2 b1 b2 => by
    have hs := b1.size
    have hz := Z0.out
    obtain ⟨r1, r2⟩ := b2.rest (by omega) (by omega)
    have g1 : Blk W2 (T + 1 + 1 + 1 + 1 + 1) #[.slice a (m + 1) c] 22 := r2.trans (Y5.out.call b1)
    have hb : Below w.heap.size w W2 := by
      have k1 := y3.out
      have k2 := HB0.out
      have k3 := k1.size
      have k4 := HTT.out
      exact ((k1.trans (k2.mono (by omega))).trans (b1.mono (by omega))).trans (r1.mono (by omega))
    exact ⟨g1.cell 0, by rw [← HD1.out]; exact HV.out.call hb, HL.out.call hb⟩
  refine range_ok (by omega) (gf := 131) (lb := #[.pointer (some ⟨T + 1 + 1 + 1 + 1 + 1, 0, none⟩)]) rfl (enters_of Tryz.func131 (by kernel_rfl) rfl)
    (scan_feeds (Kp := KpE (T + 1) (T + 1 + 1 + 1 + 1 + 1)) 8 (by omega) W0 _ _ ws HWS.out (KpE.refl _ _) KpE.trans hread (fun _ _ => KpE.of_below)) KpE.trans (KpE.put (by have := Z0.out; omega) (by have := Z0.out; omega)) (Below.refl _ _) (fun _ => rfl)
    (fun p W => (LawI (H := H) T (2 ^ n) ws p W ∧ Blk W (T + 1 + 1 + 1) #[.map (some (T + 1 + 1))] 80 ∧ Blk W (T + 1 + 1 + 1 + 1 + 1) #[.slice a (m + 1) c] 22) ∧ Below (T + 1) W0 W)
    (fun c p W => False)
    (OwnFrom.and (fun s X Y row hs hg hr => ⟨LawI.own (by have := Z0.out; omega) s X Y row hs.1 hg hr, hs.2.1.kept hg (fun r e => (hr r e).2), hs.2.2.kept hg (fun r e => (hr r e).2)⟩) (ownFrom_below (by have := Z0.out; omega) (by have := Z0.out; omega)))
    (fun c s X Y row hs hg hr => hs)
    ⟨⟨⟨Nat.zero_le _, Y2.out, by rw [List.length_nil, lwS, Nat.sub_zero, HT0.out]; exact Y1.out, Y4.out⟩, Y3.out, Y5.out⟩, Below.refl _ _⟩ ?act ?assign ?body ?done ?stop
  case assign =>
    intro l x W K hK
    gi_wp2
    exact hK
  case body =>
    rintro l p ⟨s, x⟩ W ⟨hd, hs, y, hy, hx⟩ ⟨⟨⟨h1, hmap, hlate, hnum⟩, h3, h5⟩, hB⟩
    dsimp only at hs hx
    subst hs hx
    obtain ⟨i, hi'⟩ : ∃ i, p.length = i := ⟨_, rfl⟩
    rw [hi'] at hd hy hmap hlate hnum ⊢
    have HI := hid hi'
    have hi3 : i < 64 := by have := HWS.out.len; omega
    have hS : 0 < ws.sum := HPOS.out
    have nt := two_nd (u := n) (by omega)
    have n1 := HWS.out.pre i
    have n2 := HWS.out.pre (i + 1)
    have n3 := HWS.out.dig y (List.mem_of_getElem? hy)
    have nS := HWS.out.sum
    have m1 : nDigits (pre ws i * 2 ^ n) ≤ 3902 := nd_mul n1 nt (by omega)
    have m2 : nDigits (pre ws (i + 1) * 2 ^ n) ≤ 3902 := nd_mul n2 nt (by omega)
    have C1 := fun V hV => hid (pk_times V (pre ws i) (2 ^ n) (by omega) (by omega) (by omega) hV)
    have C2 := fun V hV => hid (n_DivMod V (pre ws i * 2 ^ n) ws.sum (by omega) (by omega) hS hV)
    have C3 := fun V hV => hid (pk_plus V (pre ws i) y (by omega) (by omega) (by rw [← pre_succ hy]; omega) hV)
    rw [← pre_succ hy] at C3
    have C4 := fun V hV => hid (pk_times V (pre ws (i + 1)) (2 ^ n) (by omega) (by omega) (by omega) hV)
    have C5 := fun V hV => hid (n_DivMod V (pre ws (i + 1) * 2 ^ n) ws.sum (by omega) (by omega) hS hV)
    obtain ⟨R0, hR0⟩ : ∃ s, numB (pre ws (i + 1)) = s := ⟨_, rfl⟩
    obtain ⟨M1, hM1⟩ : ∃ s, numB (pre ws (i + 1) * 2 ^ n) = s := ⟨_, rfl⟩
    obtain ⟨Q1, hQ1⟩ : ∃ s, numB (pre ws (i + 1) * 2 ^ n / ws.sum) = s := ⟨_, rfl⟩
    obtain ⟨E1, hE1⟩ : ∃ s, numB (pre ws (i + 1) * 2 ^ n % ws.sum) = s := ⟨_, rfl⟩
    obtain ⟨P0, hP0⟩ : ∃ s, numB (pre ws i) = s := ⟨_, rfl⟩
    obtain ⟨X0, hX0⟩ : ∃ s, numB y = s := ⟨_, rfl⟩
    obtain ⟨M0, hM0⟩ : ∃ s, numB (pre ws i * 2 ^ n) = s := ⟨_, rfl⟩
    obtain ⟨Q0, hQ0⟩ : ∃ s, numB (pre ws i * 2 ^ n / ws.sum) = s := ⟨_, rfl⟩
    obtain ⟨E0, hE0⟩ : ∃ s, numB (pre ws i * 2 ^ n % ws.sum) = s := ⟨_, rfl⟩
    rw [hP0, hX0, hR0] at C3
    rw [hR0, HT0.out, hM1] at C4
    rw [hM1, HS0.out, hQ1, hE1] at C5
    have HCE := hid (show numB (cntE ws (2 ^ n) i) = Q1 from hQ1)
    have HBD : Hid (nDigits (cntF ws (2 ^ n) i) ≤ 4000 ∧ nDigits (cntE ws (2 ^ n) i) ≤ 4000) := ⟨by have := nDigits_mono (cntF_le (ws := ws) (2 ^ n) hS (i := i)); omega, by have := nDigits_mono (Nat.div_le_self (pre ws (i + 1) * 2 ^ n) ws.sum); unfold cntE; omega⟩
    have HCB : Hid (nDigits (cnt ws (2 ^ n) i) ≤ 4000 ∧ nDigits (2 ^ n) ≤ 4000) := ⟨by have := nDigits_mono (Nat.le_trans (cnt_le ws (2 ^ n) i hS) (Nat.sub_le _ _)); omega, by omega⟩
    have HBD2 : Hid (nDigits (pre ws i * 2 ^ n / ws.sum) ≤ 4000) := by have := nDigits_mono (Nat.div_le_self (pre ws i * 2 ^ n) ws.sum); exact (by omega : nDigits (pre ws i * 2 ^ n / ws.sum) ≤ 4000)
    clear hR0 hM1 hQ1 hE1
    rw [hP0, HT0.out, hM0] at C1
    rw [hM0, HS0.out, hQ0, hE0] at C2
    rw [hP0, hX0]
    have HP0 := hid hP0; have HX0 := hid hX0; have HM0 := hid hM0; have HQ0 := hid hQ0; have HE0 := hid hE0
    have HY := hid hy; have HMAP := hid hmap; have HLATE := hid hlate; have HNUM := hid hnum; have H3 := hid h3; have H5 := hid h5; have HB := hid hB; have HD := hid hd; have HS := hid hS
    have HTWO := hid (Y0.out.below hB (by omega))
    have HALL := hid (Y8.out.below hB (by have := hlt.out; omega))
    have hLay : Hid (Lay W) := by
      have k1 := y3.out
      have k2 := HB0.out
      have k4 := HTT.out
      exact (HL.out.call y3.out).call ((by rw [k4]; exact k2.trans (hB.mono (by omega))))
    clear hy hmap hlate hnum h3 h5 hB hd hS hP0 hX0 hM0 hQ0 hE0 nt n1 n2 n3 nS m1 m2 hi'
    have c0 := HTWO.out.cell 0
    have c1 := HALL.out.cell 0
    simp at c0 c1
    gi_wp2_with fail
    have KK : Hid (∀ w', Below W.heap.size W w' → w'.cell? ⟨T, 0, none⟩ = some (.string T0) ∧ w'.cell? ⟨w2.heap.size, 0, none⟩ = some (.string S0)) := fun w' hb => ⟨(HTWO.out.call hb).cell 0, (HALL.out.call hb).cell 0⟩
    refine held_round (fun w' => w'.cell? ⟨T, 0, none⟩ = some (.string T0) ∧ w'.cell? ⟨w2.heap.size, 0, none⟩ = some (.string S0)) (by kernel_rfl) (by kernel_rfl) ?_
    refine held_more (is := [0, 1, 3]) (g := 9) (by kernel_rfl) rfl (KK.out _ (Below.refl _ _).drew) (by kernel_rfl) ?_
    iterate 3
      refine ⟨_, rfl, ?_⟩
      apply Exists.intro
      refine ⟨.inl ⟨by rfl, ?_⟩, ?_⟩
      · (intro W' hW'; obtain ⟨q1, q2⟩ := hW'; go_simp; try (with_reducible rfl))
      (dsimp only [Act.put]; try simp only [List.setIfInBounds_toArray, List.set_cons_zero, List.set_cons_succ])
    refine held_one (i := 2) (by kernel_rfl) (by rfl) (by rfl) ?_
    go_wp2_with fail
    refine (C1 _ (hLay.out.call (Below.refl _ _).drew)).out.mono ?_; rintro e w4 ⟨rfl, hb4⟩
    have x4 := hid (show Below W.heap.size W w4 from (Below.refl _ _).drew.trans hb4)
    clear hb4
    go_wp2_with fail
    refine ⟨KK.out _ x4.out, ?_⟩
    refine held_one (i := 4) (by kernel_rfl) (by rfl) (by rfl) ?_
    go_wp2_with fail
    refine (C2 _ (hLay.out.call x4.out)).out.mono ?_; rintro e w5 ⟨rfl, hb5⟩
    have x5 := hid (bnext x4.out hb5)
    clear hb5
    go_wp2_with fail
    refine ⟨KK.out _ x5.out, ?_⟩
    refine held_more (is := [5, 6, 7, 8, 9, 10, 11]) (g := 0) (by kernel_rfl) rfl (KK.out _ x5.out) (by kernel_rfl) ?_
    iterate 7
      refine ⟨_, rfl, ?_⟩
      apply Exists.intro
      refine ⟨.inl ⟨by rfl, ?_⟩, ?_⟩
      · (intro W' hW'; obtain ⟨q1, q2⟩ := hW'; go_simp; try (with_reducible rfl))
      (dsimp only [Act.put]; try simp only [List.setIfInBounds_toArray, List.set_cons_zero, List.set_cons_succ])
    refine wpAnyH_done (by kernel_rfl) ?_ _
    simp only [Only]
    have HF : Hid (cntF ws (2 ^ n) i = pre ws i * 2 ^ n / ws.sum + (if pre ws i * 2 ^ n % ws.sum ≠ 0 then 1 else 0)) := rfl
    obtain ⟨F0, hF0⟩ : ∃ s, numB (cntF ws (2 ^ n) i) = s := ⟨_, rfl⟩
    have HQF := hid hF0
    have C7 := fun V => hid (pk_cmp V (cntE ws (2 ^ n) i) (cntF ws (2 ^ n) i) HBD.out.2 HBD.out.1)
    rw [HCE.out, hF0] at C7
    obtain ⟨z, hz⟩ : ∃ z, ordN (cntE ws (2 ^ n) i) (cntF ws (2 ^ n) i) = z := ⟨_, rfl⟩
    rw [hz] at C7
    have HZ := hid (show decide (z > 0) = decide (cntF ws (2 ^ n) i < cntE ws (2 ^ n) i) from by rw [← hz]; exact ordN_pos)
    clear hF0 hz
    obtain ⟨tb, htb⟩ : ∃ b, (E0.toList == [48]) = b := ⟨_, rfl⟩
    gi_upto_if 65 with fail
    have HTB := hid htb
    clear htb
    gi_cut [16] from 23 (fun s16 wc => s16 = .string F0 ∧ Below W.heap.size W wc)
    case first =>
      by_cases hr0 : pre ws i * 2 ^ n % ws.sum = 0
      · have hF : numB (cntF ws (2 ^ n) i) = Q0 := by rw [HF.out, if_neg (by simpa using hr0), Nat.add_zero]; exact HQ0.out
        have HE := hid (hF.symm.trans HQF.out)
        obtain rfl : true = tb := by rw [← HTB.out, ← HE0.out, hr0, numB_zero, Lib.toList_data]; rfl
        clear hF hr0
        gi_wp2_with fail
        gi_meet
        case rel => exact ⟨by rw [HE.out], x5.out⟩
      · have hF : cntF ws (2 ^ n) i = pre ws i * 2 ^ n / ws.sum + 1 := by rw [HF.out, if_pos hr0]
        have he0 : ¬ E0 = ⟨[48].toArray⟩ := by rw [← HE0.out, ← numB_zero]; exact numB_ne hr0
        obtain rfl : false = tb := by rw [← HTB.out]; exact (ne_lit he0).symm
        have C6 := fun V hV => hid (pk_plus V (pre ws i * 2 ^ n / ws.sum) 1 HBD2.out (by rw [nDigits_one]; omega) (by rw [← hF]; exact HBD.out.1) hV)
        rw [HQ0.out, numB_one, ← hF, HQF.out] at C6
        clear hF hr0 he0
        gi_wp2_with fail
        refine ⟨trivial, ?_⟩
        refine (CallsIn.inRound _ (callsIn_wide.2 (C6 _ (hLay.out.call x5.out)).out)).mono ?_; rintro e w6 ⟨rfl, hb6⟩
        have xF := hid (bnext x5.out hb6)
        clear hb6
        gi_wp2_with fail
        gi_meet
        case rel => exact ⟨rfl, xF.out⟩
    case rest =>
      obtain ⟨rfl, hxF⟩ := hcut
      have xF := hid hxF
      clear hxF
      gi_wp2_with fail
      refine held_round (fun w' => w'.cell? ⟨T, 0, none⟩ = some (.string T0) ∧ w'.cell? ⟨w2.heap.size, 0, none⟩ = some (.string S0)) (by kernel_rfl) (by kernel_rfl) ?_
      refine held_more (is := [0, 1, 3, 5]) (g := 10) (by kernel_rfl) rfl (KK.out _ xF.out.drew) (by kernel_rfl) ?_
      iterate 4
        refine ⟨_, rfl, ?_⟩
        apply Exists.intro
        refine ⟨.inl ⟨by rfl, ?_⟩, ?_⟩
        · (intro W' hW'; obtain ⟨q1, q2⟩ := hW'; go_simp; try (with_reducible rfl))
        (dsimp only [Act.put]; try simp only [List.setIfInBounds_toArray, List.set_cons_zero, List.set_cons_succ])
      refine held_one (i := 2) (by kernel_rfl) (by rfl) (by rfl) ?_
      go_wp2_with fail
      refine (C3 _ (hLay.out.call xF.out.drew)).out.mono ?_; rintro e w7 ⟨rfl, hb7⟩
      have x7 := hid (bnext xF.out.drew hb7)
      clear hb7
      go_wp2_with fail
      refine ⟨KK.out _ x7.out, ?_⟩
      refine held_one (i := 4) (by kernel_rfl) (by rfl) (by rfl) ?_
      go_wp2_with fail
      refine (C4 _ (hLay.out.call x7.out)).out.mono ?_; rintro e w8 ⟨rfl, hb8⟩
      have x8 := hid (bnext x7.out hb8)
      clear hb8
      go_wp2_with fail
      refine ⟨KK.out _ x8.out, ?_⟩
      refine held_one (i := 6) (by kernel_rfl) (by rfl) (by rfl) ?_
      go_wp2_with fail
      refine (C5 _ (hLay.out.call x8.out)).out.mono ?_; rintro e w9 ⟨rfl, hb9⟩
      have x9 := hid (bnext x8.out hb9)
      clear hb9
      go_wp2_with fail
      refine ⟨KK.out _ x9.out, ?_⟩
      refine held_more (is := [7, 8, 9, 10, 11, 12, 13]) (g := 0) (by kernel_rfl) rfl (KK.out _ x9.out) (by kernel_rfl) ?_
      iterate 7
        refine ⟨_, rfl, ?_⟩
        apply Exists.intro
        refine ⟨.inl ⟨by rfl, ?_⟩, ?_⟩
        · (intro W' hW'; obtain ⟨q1, q2⟩ := hW'; go_simp; try (with_reducible rfl))
        (dsimp only [Act.put]; try simp only [List.setIfInBounds_toArray, List.set_cons_zero, List.set_cons_succ])
      refine wpAnyH_done (by kernel_rfl) ?_ _
      simp only [Only]
      gi_wp2_with fail
      refine ⟨trivial, ?_⟩
      refine (CallsIn.inRound _ (callsIn_wide.2 (C7 _).out)).mono ?_; rintro e w10 ⟨rfl, hb10⟩
      have x10 := hid (bnext x9.out hb10)
      clear hb10
      have k4 := (HNUM.out.call x10.out).cell 0
      have k5 := (HNUM.out.call x10.out).free 0
      simp at k4
      have wi : IntKind.i64.wrap ((i : Int) + 1) = ((i + 1 : Nat) : Int) := by rw [IntWalk.i64_in _ ⟨by omega, by omega⟩]; omega
      by_cases hlt2 : cntF ws (2 ^ n) i < cntE ws (2 ^ n) i
      · have z0 : decide (z > 0) = true := by rw [HZ.out]; simpa using hlt2
        have HLT2 := hid hlt2
        have hT := two_nd (u := n) (by omega)
        have C8 := fun V hV => hid (pk_less V (cntE ws (2 ^ n) i) (cntF ws (2 ^ n) i) HBD.out.2 HBD.out.1 (Nat.le_of_lt hlt2) hV)
        have hcl := cnt_le ws (2 ^ n) i HS.out
        have C9 := fun V hV => hid (pk_less V (2 ^ n - lwS ws (2 ^ n) i) (cnt ws (2 ^ n) i) (by have := nDigits_mono (Nat.sub_le (2 ^ n) (lwS ws (2 ^ n) i)); omega) (by have := nDigits_mono (Nat.le_trans hcl (Nat.sub_le _ _)); omega) hcl hV)
        obtain ⟨K0, hK0⟩ : ∃ s, numB (cnt ws (2 ^ n) i) = s := ⟨_, rfl⟩
        rw [HCE.out, HQF.out, show numB (cntE ws (2 ^ n) i - cntF ws (2 ^ n) i) = K0 from hK0] at C8
        obtain ⟨G0, hG0⟩ : ∃ s, numB (2 ^ n - lwS ws (2 ^ n) i) = s := ⟨_, rfl⟩
        obtain ⟨G1, hG1⟩ : ∃ s, numB (2 ^ n - lwS ws (2 ^ n) i - cnt ws (2 ^ n) i) = s := ⟨_, rfl⟩
        rw [hG0, hK0, hG1] at C9
        have HLT := hid (hG0 ▸ HLATE.out : Blk W (T + 1) #[.string G0] 23)
        have HK0 := hid hK0; have HG1 := hid hG1
        clear hlt2 hT hcl hK0 hG0 hG1 k4 k5
        gi_wp2_with fail
        refine ⟨trivial, ?_⟩
        refine (CallsIn.inRound _ (callsIn_wide.2 (C8 _ (hLay.out.call x10.out)).out)).mono ?_; rintro e w11 ⟨rfl, hb11⟩
        have x11 := hid (bnext x10.out hb11)
        have k6 := (HLT.out.call x11.out).cell 0
        have k7 := (HLT.out.call x11.out).free 0
        simp at k6
        clear hb11
        gi_wp2_with fail
        refine ⟨trivial, ?_⟩
        refine (CallsIn.inRound _ (callsIn_wide.2 (C9 _ (hLay.out.call x11.out)).out)).mono ?_; rintro e w12 ⟨rfl, hb12⟩
        have x12 := hid (bnext x11.out hb12)
        clear hb12 k6 k7
        have k7 := (HLT.out.call x12.out).free 0
        have k8 := (HLT.out.call x12.out).cell 0
        simp at k8
        gi_wp2_with fail
        have hz0 := Z0.out
        have hsz := HB.out.size
        have hx := x12.out.size
        obtain ⟨V, hV⟩ : ∃ V, w12.setCell ⟨T + 1, 0, none⟩ (.string G1) = V := ⟨_, rfl⟩
        have v3 : Blk V (T + 1 + 1 + 1) #[.map (some (T + 1 + 1))] 80 := by rw [← hV]; exact (H3.out.call x12.out).other (a := ⟨T + 1, 0, none⟩) (by simp) _
        have v4 : Blk V (T + 1 + 1 + 1 + 1) #[.int .i64 (i : Nat)] 3 := by rw [← hV]; exact (HNUM.out.call x12.out).other (a := ⟨T + 1, 0, none⟩) (by simp <;> omega) _
        have v0 : Blk V T #[.string T0] 23 := by rw [← hV]; exact (HTWO.out.call x12.out).other (a := ⟨T + 1, 0, none⟩) (by simp) _
        have v5 : Blk V (T + 1 + 1 + 1 + 1 + 1) #[.slice a (m + 1) c] 22 := by rw [← hV]; exact (H5.out.call x12.out).other (a := ⟨T + 1, 0, none⟩) (by simp <;> omega) _
        have v1 : Blk V (T + 1) #[.string G1] 23 := by rw [← hV]; exact (HLT.out.call x12.out).set 0 _
        have vm : V.ownsMap Tryz.prog 9 (plainElem (H := H) Tryz.prog 23) (T + 1 + 1) i (lawD ws (2 ^ n) i) := by
          rw [← hV]
          exact (HMAP.out.kept (row := none) ⟨x12.out.os, x12.out.tape, x12.out.output, x12.out.size, fun k hk _ => x12.out.block k hk⟩ (by simp)).kept (grownBy_setCell' w12 (T + 1) (.string G1)) (by simp)
        have vb : Below (T + 1) W V := by rw [← hV]; exact (x12.out.mono (by omega)).setCell (by simp) _
        have vk : KeepsFrom W0.heap.size W V := by
          rw [← hV]
          exact KeepsFrom.trans ⟨x12.out.size, fun k o hk ho hc => (x12.out.block k (Array.getElem?_eq_some_iff.1 ho).1).trans ho⟩ ((KeepsOthers.setCell _ _ _).from _)
        have vL : Lay V := by
          have q := HL.out.lt
          have h1 := y3.out.size
          have h2 := HTT.out
          exact Lay.below hLay.out vb ⟨Nat.lt_of_lt_of_le q.1 (by omega), Nat.lt_of_lt_of_le q.2 (by omega)⟩
        have hsv := vb.size
        have V0 := hid v0; have V1 := hid v1; have V3 := hid v3; have V4 := hid v4; have V5 := hid v5; have VM := hid vm; have VB := hid vb; have VK := hid vk; have VL := hid vL; have HSV := hid hsv
        have KV : Hid (∀ w', Below V.heap.size V w' → w'.cell? ⟨T, 0, none⟩ = some (.string T0) ∧ w'.cell? ⟨T + 1 + 1 + 1, 0, none⟩ = some (.map (some (T + 1 + 1))) ∧ w'.cell? ⟨T + 1 + 1 + 1 + 1, 0, none⟩ = some (.int .i64 (i : Nat))) := fun w' hb => ⟨(V0.out.call hb).cell 0, (V3.out.call hb).cell 0, (V4.out.call hb).cell 0⟩
        have C10 := fun V hV => hid (s_Itoa V i (by omega) hV)
        have C11 := fun V hV => hid (pk_make V (cnt ws (2 ^ n) i) (2 ^ n) HCB.out.1 HCB.out.2 (Nat.ne_of_gt (Nat.pow_pos (by omega))) hV)
        obtain ⟨I0, hI0⟩ : ∃ s, numB i = s := ⟨_, rfl⟩
        obtain ⟨J0, hJ0⟩ : ∃ s, shB (cnt ws (2 ^ n) i) (2 ^ n) = s := ⟨_, rfl⟩
        obtain ⟨oe, hoe⟩ : ∃ s, outE (qmk false (cnt ws (2 ^ n) i) (2 ^ n)) = s := ⟨_, rfl⟩
        rw [hI0] at C10
        rw [HK0.out, HT0.out, hJ0, hoe] at C11
        have HI0 := hid hI0; have HJ0 := hid hJ0
        rw [hV]
        clear v0 v1 v3 v4 v5 vm vb vk vL hsv hV hI0 hJ0 hoe k7 k8 hz0 hsz hx
        refine held_round (fun w' => w'.cell? ⟨T, 0, none⟩ = some (.string T0) ∧ w'.cell? ⟨T + 1 + 1 + 1, 0, none⟩ = some (.map (some (T + 1 + 1))) ∧ w'.cell? ⟨T + 1 + 1 + 1 + 1, 0, none⟩ = some (.int .i64 (i : Nat))) (by kernel_rfl) (by kernel_rfl) ?_
        refine held_more (is := [0, 1, 3, 4]) (g := 6) (by kernel_rfl) rfl (KV.out _ (Below.refl _ _).drew) (by kernel_rfl) ?_
        iterate 4
          refine ⟨_, rfl, ?_⟩
          apply Exists.intro
          refine ⟨.inl ⟨by rfl, ?_⟩, ?_⟩
          · (intro W' hW'; obtain ⟨q1, q2, q3⟩ := hW'; go_simp; try (with_reducible rfl))
          (dsimp only [Act.put]; try simp only [List.setIfInBounds_toArray, List.set_cons_zero, List.set_cons_succ])
        refine held_one (i := 2) (by kernel_rfl) (by rfl) (by rfl) ?_
        go_wp2_with fail
        refine (C10 _ (VL.out.call (Below.refl _ _).drew)).out.mono ?_; rintro e w13 ⟨rfl, hb13⟩
        have x13 := hid (show Below V.heap.size V w13 from (Below.refl _ _).drew.trans hb13)
        clear hb13
        go_wp2_with fail
        refine ⟨KV.out _ x13.out, ?_⟩
        refine held_one (i := 5) (by kernel_rfl) (by rfl) (by rfl) ?_
        go_wp2_with fail
        refine (C11 _ (VL.out.call x13.out)).out.mono ?_; rintro e w14 ⟨rfl, hb14⟩
        have x14 := hid (bnext x13.out hb14)
        clear hb14
        go_wp2_with fail
        refine ⟨KV.out _ x14.out, ?_⟩
        refine held_more (is := [6, 7, 8]) (g := 1) (by kernel_rfl) rfl (KV.out _ x14.out) (by kernel_rfl) ?_
        iterate 3
          refine ⟨_, rfl, ?_⟩
          apply Exists.intro
          refine ⟨.inl ⟨by rfl, ?_⟩, ?_⟩
          · (intro W' hW'; obtain ⟨q1, q2, q3⟩ := hW'; go_simp; try (with_reducible rfl))
          (dsimp only [Act.put]; try simp only [List.setIfInBounds_toArray, List.set_cons_zero, List.set_cons_succ])
        refine held_one (i := 9) (by kernel_rfl) (by rfl) (by rfl) ?_
        have hIs : I0.size ≤ maxLen := by rw [← HI0.out, numB_size]; have := nDigits_le (n := i) (k := 2) (by omega) (by omega); unfold maxLen; omega
        have hJs : J0.size ≤ maxLen := by rw [← HJ0.out]; exact shB_size _ _
        have lt15 := HSV.out
        refine wpList_mapUpdate_own _ rfl _ _ _ 80 rfl 9 23 lawKeyed Tryz.underlying80 _ (T + 1 + 1) i _ rfl (VM.out.kept (row := none) ⟨x14.out.os, x14.out.tape, x14.out.output, x14.out.size, fun k hk _ => x14.out.block k hk⟩ (by simp)) (by unfold maxLen; omega) _ _ _ rfl rfl (Go.WideMaps.keyOf_string_mk Tryz.underlying9 hIs) _ [] (plainElem_string Tryz.underlying23 hJs) ?_
        intro w15 hown hgrow
        have U3 := hid ((V3.out.call x14.out).grown hgrow (fun e => by injection e with e; omega))
        have U4 := hid ((V4.out.call x14.out).grown hgrow (fun e => by injection e with e; omega))
        have U5 := hid ((V5.out.call x14.out).grown hgrow (fun e => by injection e with e; omega))
        have U0 := hid ((V0.out.call x14.out).grown hgrow (fun e => by injection e with e; omega))
        have U1 := hid ((V1.out.call x14.out).grown hgrow (fun e => by injection e with e; omega))
        have UM := hid hown
        have UB := hid (below_gb (VB.out.trans (x14.out.mono (by have := VB.out.size; have := Z0.out; have := HB.out.size; omega))) (by have := x14.out.size; have := Z0.out; have := HB.out.size; omega) hgrow (by omega))
        have UK : Hid (KeepsFrom W0.heap.size W w15) := VK.out.trans (KeepsFrom.trans ⟨x14.out.size, fun k o hk ho hc => (x14.out.block k (Array.getElem?_eq_some_iff.1 ho).1).trans ho⟩ ⟨hgrow.size, fun k o hk ho hc => (hgrow.block k (Array.getElem?_eq_some_iff.1 ho).1 (by have := Z0.out; simp; omega)).trans ho⟩)
        have m3 := U3.out.cell 0
        have m0 := U0.out.cell 0
        have m4 := U4.out.cell 0
        have m5 := U4.out.free 0
        simp at m0 m3 m4
        clear hown hgrow lt15
        go_wp2_with fail
        refine ⟨⟨m0, m3, m4⟩, ?_⟩
        refine wpAnyH_done (by kernel_rfl) ?_ _
        simp only [Only]
        gi_wp2_with fail
        have hz0 := Z0.out
        have hsz := HB.out.size
        have hx := UB.out.size
        have g5 := U5.out.other (a := ⟨T + 1 + 1 + 1 + 1, 0, none⟩) (by simp <;> omega) (.int .i64 ((i + 1 : Nat) : Int))
        have g3 := U3.out.other (a := ⟨T + 1 + 1 + 1 + 1, 0, none⟩) (by simp <;> omega) (.int .i64 ((i + 1 : Nat) : Int))
        have g1 := U1.out.other (a := ⟨T + 1 + 1 + 1 + 1, 0, none⟩) (by simp <;> omega) (.int .i64 ((i + 1 : Nat) : Int))
        have g4 := U4.out.set 0 (.int .i64 ((i + 1 : Nat) : Int))
        have gm := UM.out.kept (grownBy_setCell' w15 (T + 1 + 1 + 1 + 1) (.int .i64 ((i + 1 : Nat) : Int))) (by simp <;> omega)
        have eD : lawD (H := H) ws (2 ^ n) (i + 1) = (lawD ws (2 ^ n) i).put (.string (numB i).data.toList) (.lit (.string (shB (cnt ws (2 ^ n) i) (2 ^ n)).data.toList)) := by rw [lawD, if_pos HLT2.out]
        have eS : 2 ^ n - lwS ws (2 ^ n) (i + 1) = 2 ^ n - lwS ws (2 ^ n) i - cnt ws (2 ^ n) i := by rw [lwS]; omega
        refine ⟨KeepsFrom.trans UK.out ((KeepsOthers.setCell _ _ _).from _), ⟨by simpa [World.setCell] using hx, fun _ _ => ⟨UB.out.setCell (by simp <;> omega) _, g5.trans (Eq.symm H5.out)⟩⟩, ⟨⟨?_, ?_, ?_, ?_⟩, g3, g5⟩, (HB.out.trans UB.out).setCell (by simp <;> omega) _⟩
        · rw [List.length_append, List.length_singleton, HI.out]; exact HD.out
        · rw [List.length_append, List.length_singleton, HI.out, eD, HI0.out, HJ0.out]; exact gm
        · rw [List.length_append, List.length_singleton, HI.out, eS, HG1.out]; exact g1
        · rw [List.length_append, List.length_singleton, HI.out]; exact g4
      · have z0 : decide (z > 0) = false := by rw [HZ.out]; simpa using hlt2
        have HLT2 := hid hlt2
        clear hlt2
        gi_wp2_with fail
        have hz0 := Z0.out
        have hsz := HB.out.size
        have hx := x10.out.size
        have g5 := (H5.out.call x10.out).other (a := ⟨T + 1 + 1 + 1 + 1, 0, none⟩) (by simp <;> omega) (.int .i64 ((i + 1 : Nat) : Int))
        have g3 := (H3.out.call x10.out).other (a := ⟨T + 1 + 1 + 1 + 1, 0, none⟩) (by simp <;> omega) (.int .i64 ((i + 1 : Nat) : Int))
        have g1 := (HLATE.out.call x10.out).other (a := ⟨T + 1 + 1 + 1 + 1, 0, none⟩) (by simp <;> omega) (.int .i64 ((i + 1 : Nat) : Int))
        have g4 := (HNUM.out.call x10.out).set 0 (.int .i64 ((i + 1 : Nat) : Int))
        have gm := (HMAP.out.kept (row := none) ⟨x10.out.os, x10.out.tape, x10.out.output, x10.out.size, fun k hk _ => x10.out.block k hk⟩ (by simp)).kept (grownBy_setCell' w10 (T + 1 + 1 + 1 + 1) (.int .i64 ((i + 1 : Nat) : Int))) (by simp <;> omega)
        have eD : lawD (H := H) ws (2 ^ n) (i + 1) = lawD ws (2 ^ n) i := by rw [lawD, if_neg HLT2.out]
        have eS : lwS ws (2 ^ n) (i + 1) = lwS ws (2 ^ n) i := by rw [lwS, cnt]; have := HLT2.out; omega
        refine ⟨KeepsFrom.trans ⟨x10.out.size, fun k o hk ho hc => (x10.out.block k (Array.getElem?_eq_some_iff.1 ho).1).trans ho⟩ ((KeepsOthers.setCell _ _ _).from _), ⟨by simpa [World.setCell] using x10.out.size, fun _ _ => ⟨(x10.out.mono (by omega)).setCell (by simp <;> omega) _, g5.trans (Eq.symm H5.out)⟩⟩, ⟨⟨?_, ?_, ?_, ?_⟩, g3, g5⟩, (HB.out.trans (x10.out.mono (by omega))).setCell (by simp <;> omega) _⟩
        · rw [List.length_append, List.length_singleton, HI.out]; exact HD.out
        · rw [List.length_append, List.length_singleton, HI.out, eD]; exact gm.mono (Nat.le_succ _)
        · rw [List.length_append, List.length_singleton, HI.out, eS]; exact g1
        · rw [List.length_append, List.length_singleton, HI.out]; exact g4
  case done =>
    rintro D' xs W hD hS ⟨⟨⟨h1, hmap, hlate, hnum⟩, h3, h5⟩, hB⟩ hK
    rw [hS] at hmap hlate
    have hlw := lwS_fit ws (2 ^ n) ws.length HPOS.out
    have nt := two_nd (u := n) (by omega)
    have hnd : Hid (nDigits (2 ^ n - lwS ws (2 ^ n) ws.length) ≤ 4000 ∧ nDigits (2 ^ n) ≤ 4000) := ⟨by have := nDigits_mono (Nat.sub_le (2 ^ n) (lwS ws (2 ^ n) ws.length)); omega, by omega⟩
    obtain ⟨L, hL⟩ : ∃ L, 2 ^ n - lwS ws (2 ^ n) ws.length = L := ⟨_, rfl⟩
    rw [hL] at hlate hnd
    have HLL := hid hL
    obtain ⟨L0, hL0⟩ : ∃ s, numB L = s := ⟨_, rfl⟩
    rw [hL0] at hlate
    have HL0 := hid hL0
    have HMAP := hid hmap; have HLATE := hid hlate; have H3 := hid h3; have HB := hid hB; have HK := hid hK; have HDD := hid hD; have HWL := hid HLEN.out
    have hLay : Hid (Lay W) := by
      have k1 := y3.out
      have k2 := HB0.out
      have k4 := HTT.out
      exact (HL.out.call y3.out).call ((by rw [k4]; exact k2.trans (hB.mono (by omega))))
    have HTWO := hid (Y0.out.below hB (by omega))
    have c0 := HTWO.out.cell 0
    have c1 := HLATE.out.cell 0
    have c3 := H3.out.cell 0
    simp at c0 c1 c3
    clear hS h1 hmap hlate hnum h3 h5 hB hK hD hL hL0 hlw nt
    by_cases hz : L = 0
    · have hl0 : L0 = ⟨#[48]⟩ := by rw [← HL0.out, hz, numB_zero]
      subst hl0
      have HZ := hid hz
      clear hz
      gi_wp2_with fail
      refine marks_end HK.out (v := .tuple #[.map (some (T + 1 + 1)), .int .i64 0]) (by simp [results, Tryz.results56, go_sem]) ⟨⟨_, rfl, ?_⟩, ?_⟩
      · have hm2 := HMAP.out.kept (grownBy_putObj' W D' (.deferred none)) (fun e => by injection e with e; have := HDD.out; have := Z0.out; omega)
        rw [lawM, if_pos (by rw [← HWL.out, HLL.out, HZ.out]), ← HWL.out]
        exact hm2.mono (Nat.le_succ _)
      · have k1 := y3.out
        have k2 := HTT.out
        have k3 := k1.size
        refine ((k1.trans (HB0.out.mono (by omega))).trans (HB.out.mono (by omega))).trans (belowK_b (w := w) (Nat.le_refl _) _ D' _ _ (by have := Z0.out; have := HDD.out; omega) HK.out rfl rfl)
    · have he0 : ¬ L0 = ⟨[48].toArray⟩ := by rw [← HL0.out, ← numB_zero]; exact numB_ne hz
      have hne := ne_lit he0
      have HNZ := hid hz
      have C1 := fun V hV => hid (pk_make V L (2 ^ n) hnd.out.1 hnd.out.2 (Nat.ne_of_gt (Nat.pow_pos (by omega))) hV)
      obtain ⟨J0, hJ0⟩ : ∃ s, shB L (2 ^ n) = s := ⟨_, rfl⟩
      obtain ⟨oe, hoe⟩ : ∃ s, outE (qmk false L (2 ^ n)) = s := ⟨_, rfl⟩
      rw [HL0.out, HT0.out, hJ0, hoe] at C1
      have HJ0 := hid hJ0
      have KV : Hid (∀ w', Below W.heap.size W w' → w'.cell? ⟨T, 0, none⟩ = some (.string T0) ∧ w'.cell? ⟨T + 1, 0, none⟩ = some (.string L0) ∧ w'.cell? ⟨T + 1 + 1 + 1, 0, none⟩ = some (.map (some (T + 1 + 1)))) := fun w' hb => ⟨(HTWO.out.call hb).cell 0, (HLATE.out.call hb).cell 0, (H3.out.call hb).cell 0⟩
      clear hz he0 hJ0 hoe c0 c3
      gi_wp2_with fail
      refine held_wide (fun w' => w'.cell? ⟨T, 0, none⟩ = some (.string T0) ∧ w'.cell? ⟨T + 1, 0, none⟩ = some (.string L0) ∧ w'.cell? ⟨T + 1 + 1 + 1, 0, none⟩ = some (.map (some (T + 1 + 1)))) (by kernel_rfl) ?_
      refine held_more (is := [0, 1, 2]) (g := 5) (by kernel_rfl) rfl (KV.out _ (Below.refl _ _).drew) (by kernel_rfl) ?_
      iterate 3
        refine ⟨_, rfl, ?_⟩
        apply Exists.intro
        refine ⟨.inl ⟨by rfl, ?_⟩, ?_⟩
        · (intro W' hW'; obtain ⟨q1, q2, q3⟩ := hW'; go_simp; try (with_reducible rfl))
        (dsimp only [Act.put]; try simp only [List.setIfInBounds_toArray, List.set_cons_zero, List.set_cons_succ])
      refine held_one (i := 3) (by kernel_rfl) (by rfl) (by rfl) ?_
      go_wp2_with fail
      refine (C1 _ (hLay.out.call (Below.refl _ _).drew)).out.mono ?_; rintro e w4 ⟨rfl, hb4⟩
      have x4 := hid (show Below W.heap.size W w4 from (Below.refl _ _).drew.trans hb4)
      clear hb4
      go_wp2_with fail
      refine ⟨KV.out _ x4.out, ?_⟩
      refine held_more (is := [4, 5, 6]) (g := 1) (by kernel_rfl) rfl (KV.out _ x4.out) (by kernel_rfl) ?_
      iterate 3
        refine ⟨_, rfl, ?_⟩
        apply Exists.intro
        refine ⟨.inl ⟨by rfl, ?_⟩, ?_⟩
        · (intro W' hW'; obtain ⟨q1, q2, q3⟩ := hW'; go_simp; try (with_reducible rfl))
        (dsimp only [Act.put]; try simp only [List.setIfInBounds_toArray, List.set_cons_zero, List.set_cons_succ])
      refine held_one (i := 7) (by kernel_rfl) (by rfl) (by rfl) ?_
      have hJs : J0.size ≤ maxLen := by rw [← HJ0.out]; exact shB_size _ _
      have hm64 : ws.length ≤ 64 := by have := HLEN.out; omega
      refine wpList_mapUpdate_own _ rfl _ _ _ 80 rfl 9 23 lawKeyed Tryz.underlying80 _ (T + 1 + 1) ws.length _ rfl (HMAP.out.kept (row := none) ⟨x4.out.os, x4.out.tape, x4.out.output, x4.out.size, fun k hk _ => x4.out.block k hk⟩ (by simp)) (by unfold maxLen; omega) _ _ _ rfl rfl (Go.WideMaps.keyOf_string_mk Tryz.underlying9 (by unfold maxLen; decide)) _ [] (plainElem_string Tryz.underlying23 hJs) ?_
      intro w15 hown hgrow
      have U3 := hid ((H3.out.call x4.out).grown hgrow (fun e => by injection e with e; omega))
      have U0 := hid ((HTWO.out.call x4.out).grown hgrow (fun e => by injection e with e; omega))
      have U1 := hid ((HLATE.out.call x4.out).grown hgrow (fun e => by injection e with e; omega))
      have UM := hid hown
      have UB := hid (below_gb ((HB.out).trans (x4.out.mono (by have := HB.out.size; have := Z0.out; omega))) (by have := x4.out.size; have := Z0.out; have := HB.out.size; omega) hgrow (by omega))
      have UK : Hid (w15.heap[D']? = some (.deferred (some []))) := by
        have hl := (Array.getElem?_eq_some_iff.1 HK.out).1
        have h1 := x4.out.block D' hl
        have h2 := hgrow.block D' (by have := x4.out.size; omega) (by have := HDD.out; have := Z0.out; simp; omega)
        rw [h2, h1]; exact HK.out
      have m3 := U3.out.cell 0
      have m0 := U0.out.cell 0
      have m1 := U1.out.cell 0
      simp at m0 m1 m3
      clear hown hgrow hm64 c1
      go_wp2_with fail
      refine ⟨⟨m0, m1, m3⟩, ?_⟩
      refine wpAnyH_done (by kernel_rfl) ?_ _
      simp only [Only]
      gi_wp2_with fail
      refine marks_end UK.out (v := .tuple #[.map (some (T + 1 + 1)), .int .i64 0]) (by simp [results, Tryz.results56, go_sem]) ⟨⟨_, rfl, ?_⟩, ?_⟩
      · have hm2 := UM.out.kept (grownBy_putObj' w15 D' (.deferred none)) (fun e => by injection e with e; have := HDD.out; have := Z0.out; omega)
        rw [lawM, if_neg (by rw [← HWL.out, HLL.out]; exact HNZ.out), ← HWL.out, HLL.out, HJ0.out]
        exact hm2
      · have k1 := y3.out
        have k2 := HTT.out
        have k3 := k1.size
        refine ((k1.trans (HB0.out.mono (by omega))).trans (UB.out.mono (by omega))).trans (belowK_b (w := w) (Nat.le_refl _) _ D' _ _ (by have := Z0.out; have := HDD.out; omega) UK.out rfl rfl)
  case stop =>
    rintro D' c p W hD - h hK
    exact h.elim
end Go.Proofs.YtjgcjjbnnlnilaaGreatDoor

/- Walks: ref05.Draw. -/
namespace Go.Proofs.YtjgcjjbnnlnilaaGreatDoor
open Go.RowKit Go.Shelf
open Go.Lib (decDigits nDigits)
set_option linter.unusedVariables false
set_option linter.unusedSimpArgs false

set_option maxRecDepth 100000 in
set_option maxHeartbeats 4000000 in
theorem r5_Draw (w : World) (v : Value) (l : List ByteArray) (b : ByteArray) (hv : Row w v (strs l)) (hl : ∀ x ∈ l, x.size ≤ 1000000) (hb : b.size ≤ 100000000) :
    Calls Tryz.prog 32 #[v, .string b] w fun e w' => e = .returned (.tuple #[dw3 (dr3 l b), .int .i64 (drE l b)]) ∧ Below w.heap.size w w' := by
  have PC := fun V hV => hid ((r5_Check V v l hV hl).mono fun e w' (h : e = .returned (.int .i64 (wsE l)) ∧ V = w') => (⟨h.1, h.2 ▸ Below.refl _ _⟩ : e = .returned (.int .i64 (wsE l)) ∧ Below V.heap.size V w'))
  have PD := fun V => hid ((r4_BitsP V b hb).mono fun e w' (h : e = .returned (.int .i64 (chkE b)) ∧ V = w') => (⟨h.1, h.2 ▸ Below.refl _ _⟩ : e = .returned (.int .i64 (chkE b)) ∧ Below V.heap.size V w'))
  have PE := fun V hws hV => hid (r5_Sums V v (l.map bN) hws hV)
  have HV := hid hv
  obtain ⟨a, c, rfl, q1, q2, -⟩ := hv.openS
  obtain ⟨N, hN⟩ : ∃ N, l.length = N := ⟨_, rfl⟩
  have HN := hid hN
  rw [hN] at PC PE q1 HV ⊢
  clear hv hl hN
  have A0 := hid ((Below.refl w.heap.size w).alloc (Nat.le_refl _) (.cells #[.bool false, .int .i64 0, .int .i64 0] 29))
  have x0 := hid (Blk.new w #[.bool false, .int .i64 0, .int .i64 0] 29)
  obtain ⟨z, hz⟩ : ∃ z, wsE l = z := ⟨_, rfl⟩
  obtain ⟨y, hy⟩ : ∃ y, chkE b = y := ⟨_, rfl⟩
  have HZ := hid hz; have HY := hid hy
  rw [hz] at PC
  rw [hy] at PD
  by_cases h0 : z = 0
  · by_cases h1 : y = 0
    · obtain ⟨D1, D2, D3⟩ := wsE_ok (hz.trans h0)
      have HPOS := hid (wsE_pos (hz.trans h0))
      have hE : drE l b = 0 := by unfold drE; rw [hz, hy, h0, h1]; simp
      have hR : dr3 l b = pdr (pkF (l.map bN)) 0 1 b.data.toList := by unfold dr3; rw [if_pos hE]
      rw [hE, hR]
      have h256 := chkE_size (hy.trans h1)
      obtain ⟨ws, hws⟩ : ∃ ws, l.map bN = ws := ⟨_, rfl⟩
      rw [hws] at PE D1 D2 HPOS ⊢
      have HWS := hid D2
      have HD1 := hid D1
      have RS := fun V u (hu : NRow V u (ws.length + 1) (pre ws)) => hid (r5_Shortest V u b ws D2 HPOS.out hu h256)
      obtain ⟨X, hX⟩ : ∃ X, pdr (pkF ws) 0 1 b.data.toList = X := ⟨_, rfl⟩
      rw [hX] at RS ⊢
      subst h0 h1
      clear D1 D2 D3 hE hR hz hy hws hb hX
      go_enter Tryz.func32, Tryz.ntmps32
      go_wp2_with fail
      refine (PC _ (HV.out.call A0.out)).out.mono ?_; rintro e w1 ⟨rfl, hb1⟩
      have y1 := hid (bnext A0.out hb1); have k1 := hid (x0.out.call hb1)
      clear hb1
      go_wp2_with fail
      refine (PD _).out.mono ?_; rintro e w2 ⟨rfl, hb2⟩
      have y2 := hid (bnext y1.out hb2); have k2 := hid (k1.out.call hb2)
      clear hb2
      go_wp2_with fail
      refine (PE _ HWS.out (by rw [← HD1.out]; exact HV.out.call y2.out)).out.mono ?_; rintro e w3 ⟨⟨u, rfl, hu⟩, hb3⟩
      have y3 := hid (bnext y2.out hb3); have k3 := hid (k2.out.call hb3); have HU := hid hu
      clear hb3 hu
      go_wp2_with fail
      refine (RS _ _ HU.out).out.mono ?_; rintro e w4 ⟨rfl, hb4⟩
      have y4 := hid (bnext y3.out hb4); have k4 := hid (k3.out.call hb4)
      obtain ⟨d, vv, uu⟩ := X
      simp only [dw3]
      clear hb4
      have r0 := k4.out.cell 0
      have r1' := k4.out.cell 1
      have r2' := k4.out.cell 2
      have f0 := k4.out.free 0
      have f1 := k4.out.free 1
      have f2 := k4.out.free 2
      simp at r0 r1' r2'
      go_wp2_with fail
      have s3 := ((k4.out.set 0 (.bool d)).set 1 (.int .i64 (vv : Nat))).set 2 (.int .i64 (uu : Nat))
      have z0 := s3.cell 0
      have z1 := s3.cell 1
      have z2 := s3.cell 2
      simp at z0 z1 z2
      refine bodyPost_ret (v := .tuple #[.agg #[.bool d, .int .i64 (vv : Nat), .int .i64 (uu : Nat)], .int .i64 0]) (by simp [results, Tryz.results32, go_sem, z0, z1, z2]) rfl ⟨rfl, ?_⟩
      exact ((y4.out.setCell (Nat.le_refl _) _).setCell (Nat.le_refl _) _).setCell (Nat.le_refl _) _
    · have hE : drE l b = y := by unfold drE; rw [hz, hy, h0]; simp
      have hR : dr3 l b = (false, 0, 0) := by unfold dr3; rw [if_neg (by rw [hE]; exact h1)]
      rw [hE, hR]
      simp only [dw3]
      have q3 : (y == 0) = false := by rw [beq_eq_false_iff_ne]; exact h1
      have q4 : (y != 0) = true := by rw [bne_iff_ne]; exact h1
      subst h0
      clear hE hR hz hy hb h1
      go_enter Tryz.func32, Tryz.ntmps32
      go_wp2_with fail
      refine (PC _ (HV.out.call A0.out)).out.mono ?_; rintro e w1 ⟨rfl, hb1⟩
      have y1 := hid (bnext A0.out hb1); have k1 := hid (x0.out.call hb1)
      clear hb1
      go_wp2_with fail
      refine (PD _).out.mono ?_; rintro e w2 ⟨rfl, hb2⟩
      have y2 := hid (bnext y1.out hb2); have k2 := hid (k1.out.call hb2)
      clear hb2
      have r0 := k2.out.cell 0
      have r1' := k2.out.cell 1
      have r2' := k2.out.cell 2
      have f0 := k2.out.free 0
      have f1 := k2.out.free 1
      have f2 := k2.out.free 2
      simp at r0 r1' r2'
      go_wp2_with fail
      have s3 := ((k2.out.set 0 (.bool false)).set 1 (.int .i64 0)).set 2 (.int .i64 0)
      have z0 := s3.cell 0
      have z1 := s3.cell 1
      have z2 := s3.cell 2
      simp at z0 z1 z2
      refine bodyPost_ret (v := .tuple #[.agg #[.bool false, .int .i64 0, .int .i64 0], .int .i64 y]) (by simp [results, Tryz.results32, go_sem, z0, z1, z2]) rfl ⟨rfl, ?_⟩
      exact ((y2.out.setCell (Nat.le_refl _) _).setCell (Nat.le_refl _) _).setCell (Nat.le_refl _) _
  · have hE : drE l b = z := by unfold drE; rw [hz, if_pos h0]
    have hR : dr3 l b = (false, 0, 0) := by unfold dr3; rw [if_neg (by rw [hE]; exact h0)]
    rw [hE, hR]
    simp only [dw3]
    have q3 : (z == 0) = false := by rw [beq_eq_false_iff_ne]; exact h0
    have q4 : (z != 0) = true := by rw [bne_iff_ne]; exact h0
    clear hE hR hz hy hb h0
    go_enter Tryz.func32, Tryz.ntmps32
    go_wp2_with fail
    refine (PC _ (HV.out.call A0.out)).out.mono ?_; rintro e w1 ⟨rfl, hb1⟩
    have y1 := hid (bnext A0.out hb1); have k1 := hid (x0.out.call hb1)
    clear hb1
    have r0 := k1.out.cell 0
    have r1' := k1.out.cell 1
    have r2' := k1.out.cell 2
    have f0 := k1.out.free 0
    have f1 := k1.out.free 1
    have f2 := k1.out.free 2
    simp at r0 r1' r2'
    go_wp2_with fail
    have s3 := ((k1.out.set 0 (.bool false)).set 1 (.int .i64 0)).set 2 (.int .i64 0)
    have z0 := s3.cell 0
    have z1 := s3.cell 1
    have z2 := s3.cell 2
    simp at z0 z1 z2
    refine bodyPost_ret (v := .tuple #[.agg #[.bool false, .int .i64 0, .int .i64 0], .int .i64 z]) (by simp [results, Tryz.results32, go_sem, z0, z1, z2]) rfl ⟨rfl, ?_⟩
    exact ((y1.out.setCell (Nat.le_refl _) _).setCell (Nat.le_refl _) _).setCell (Nat.le_refl _) _
end Go.Proofs.YtjgcjjbnnlnilaaGreatDoor

/- Walks: the reference's Minus. -/
namespace Go.Proofs.YtjgcjjbnnlnilaaGreatDoor
open Go.RowKit
set_option linter.unusedVariables false

set_option maxHeartbeats 4000000 in
theorem r1_Minus (w : World) (v u : Value) (a b : Nat) (ha : IsN .i64 w v a) (hb : IsN .i64 w u b) (hle : b ≤ a) (hla : (limbs a).length ≤ 1000000) :
    Calls Tryz.prog 120 #[v, u] w fun e w' => RetN .i64 (a - b) e w' ∧ Below w.heap.size w w' := by
  obtain ⟨i0, hi, hz0, hz1, hz2⟩ := info_parts info_int
  obtain ⟨a1, c1, rfl, h1, h2, h3⟩ := ha.openI
  obtain ⟨a2, c2, rfl, k1, k2, k3⟩ := hb.openI
  have H3 := hid h3; have K3 := hid k3; clear h3 k3 ha hb
  have hmn := limbs_length_mono hle
  obtain ⟨n, ea⟩ : ∃ n, (limbs a).length = n := ⟨_, rfl⟩
  obtain ⟨m, eb⟩ : ∃ m, (limbs b).length = m := ⟨_, rfl⟩
  rw [ea] at h1 hla hmn ⊢
  rw [eb] at k1 hmn ⊢
  have HA := hid ea; have HB := hid eb; have HL := hid hle
  clear ea eb hle
  go_enter Tryz.func120, Tryz.ntmps120
  go_wp2_with fail
  go_loopw [5, 6, 7, 8] (fun o cc i nn wr => ∃ (s : List Nat) (c : Nat) (C : Int), i = .int .i64 s.length ∧ cc = .int .i64 C ∧ C = (c : Int) ∧ c ≤ 1 ∧ s.length ≤ n ∧ Hid (MinusI a b s c) ∧ Hid (wr.ownsRow w.heap.size 3 1 o s.length (ints .i64 s)) ∧ Hid (Below w.heap.size w wr))
    (fun _ _ i _ _ => n - (intOf i).toNat)
  case atStart => exact ⟨[], 0, 0, rfl, rfl, rfl, by omega, by simp, MinusI.start a b, World.ownsRow_nil _ _ _ _, Below.refl _ _⟩
  case round =>
    obtain ⟨s, c, C, rfl, rfl, hC, hc1, hs1, hP, hO, hB⟩ := hrel
    obtain ⟨ao, co, rfl⟩ := owns_ex hO.out
    by_cases hA : s.length < n
    · obtain ⟨x, hx⟩ : ∃ x, (limbs a)[s.length]? = some x := ⟨_, List.getElem?_eq_getElem (by rw [HA.out]; exact hA)⟩
      obtain ⟨g, og, rfl, hg, hc⟩ := H3.out _ x hx
      have hc' := (hB.out.cell (p := ⟨g, og + s.length, none⟩) hg).trans hc
      have hxl := (sm_limbs a).get hx
      have HX := hid hx; clear hx hc
      by_cases hB' : s.length < m
      · obtain ⟨y, hy⟩ : ∃ y, (limbs b)[s.length]? = some y := ⟨_, List.getElem?_eq_getElem (by rw [HB.out]; exact hB')⟩
        obtain ⟨g', og', rfl, hg', hd⟩ := K3.out _ y hy
        have hd' := (hB.out.cell (p := ⟨g', og' + s.length, none⟩) hg').trans hd
        have hyl := (sm_limbs b).get hy
        have HY := hid hy; clear hy hd
        rcases (show c = 0 ∨ c = 1 by omega) with rfl | rfl
        · obtain rfl : C = 0 := by omega
          clear hC
          by_cases hneg : x < y + 0
          · obtain ⟨z, hz0', hz1', hzI⟩ : ∃ z : Nat, x + 1000000000 * 1 = z + 0 + y ∧ z < 1000000000 ∧ Hid ((↑x - ↑y + 1000000000 : Int) = (z : Int)) := ⟨((↑x - ↑y + 1000000000 : Int)).toNat, by omega, by omega, by rw [Hid]; omega⟩
            have HN := hid (hP.out.next (z := z) (c' := 1) (by rw [getD_of HX.out, getD_of HY.out]; omega) hz1' (by omega))
            clear hz0' hz1'
            have q1 : decide ((x : Int) - (y : Int) < 0) = true := by simp <;> omega
            clear hneg
            go_wp2_with (at_builtin; refine wpList_append_own _ rfl _ _ 77 rfl w.heap.size 3 i0 (.int .i64 0) 1 8 Tryz.underlying77 hi hz0 hz1 hz2 rfl (by decide) _ s.length _ rfl (hO.out.alloc _) ⟨wr.heap.size, 0, none⟩ 1 1 [.int .i64 ((↑x - ↑y + 1000000000 : Int))] rfl rfl (cell_one_new wr (.int .i64 ((↑x - ↑y + 1000000000 : Int))) 3) (by simp [Value.oneCell']) (by unfold maxLen; omega) (by omega) (by have := hB.out.size; simp; omega) ?_; intro v' w3 hown3 hgrow3 _; have HO3 := hid hown3; have HG3 := hid hgrow3; clear hown3 hgrow3)
            rw [hzI.out] at HO3
            obtain ⟨n1, n2⟩ := own_next hO.out hB.out HO3.out HG3.out
            have N1 := hid n1; have N2 := hid n2; clear n1 n2 HO3 HG3
            obtain ⟨a3, k3, rfl⟩ := owns_ex N1.out
            go_wp2_with fail
            go_roundw
            case rel => exact ⟨s ++ [z], 1, _, by simp, rfl, by simp, by omega, by simp <;> omega, HN, N1, N2⟩
            case measure => simp [intOf] <;> omega
          · obtain ⟨z, hz0', hz1', hzI⟩ : ∃ z : Nat, x + 1000000000 * 0 = z + 0 + y ∧ z < 1000000000 ∧ Hid ((↑x - ↑y : Int) = (z : Int)) := ⟨((↑x - ↑y : Int)).toNat, by omega, by omega, by rw [Hid]; omega⟩
            have HN := hid (hP.out.next (z := z) (c' := 0) (by rw [getD_of HX.out, getD_of HY.out]; omega) hz1' (by omega))
            clear hz0' hz1'
            have q1 : decide ((x : Int) - (y : Int) < 0) = false := by simp <;> omega
            clear hneg
            go_wp2_with (at_builtin; refine wpList_append_own _ rfl _ _ 77 rfl w.heap.size 3 i0 (.int .i64 0) 1 8 Tryz.underlying77 hi hz0 hz1 hz2 rfl (by decide) _ s.length _ rfl (hO.out.alloc _) ⟨wr.heap.size, 0, none⟩ 1 1 [.int .i64 ((↑x - ↑y : Int))] rfl rfl (cell_one_new wr (.int .i64 ((↑x - ↑y : Int))) 3) (by simp [Value.oneCell']) (by unfold maxLen; omega) (by omega) (by have := hB.out.size; simp; omega) ?_; intro v' w3 hown3 hgrow3 _; have HO3 := hid hown3; have HG3 := hid hgrow3; clear hown3 hgrow3)
            rw [hzI.out] at HO3
            obtain ⟨n1, n2⟩ := own_next hO.out hB.out HO3.out HG3.out
            have N1 := hid n1; have N2 := hid n2; clear n1 n2 HO3 HG3
            obtain ⟨a3, k3, rfl⟩ := owns_ex N1.out
            go_wp2_with fail
            go_roundw
            case rel => exact ⟨s ++ [z], 0, _, by simp, rfl, by simp, by omega, by simp <;> omega, HN, N1, N2⟩
            case measure => simp [intOf] <;> omega
        · obtain rfl : C = 1 := by omega
          clear hC
          by_cases hneg : x < y + 1
          · obtain ⟨z, hz0', hz1', hzI⟩ : ∃ z : Nat, x + 1000000000 * 1 = z + 1 + y ∧ z < 1000000000 ∧ Hid ((↑x - 1 - ↑y + 1000000000 : Int) = (z : Int)) := ⟨((↑x - 1 - ↑y + 1000000000 : Int)).toNat, by omega, by omega, by rw [Hid]; omega⟩
            have HN := hid (hP.out.next (z := z) (c' := 1) (by rw [getD_of HX.out, getD_of HY.out]; omega) hz1' (by omega))
            clear hz0' hz1'
            have q1 : decide ((x : Int) - 1 - (y : Int) < 0) = true := by simp <;> omega
            clear hneg
            go_wp2_with (at_builtin; refine wpList_append_own _ rfl _ _ 77 rfl w.heap.size 3 i0 (.int .i64 0) 1 8 Tryz.underlying77 hi hz0 hz1 hz2 rfl (by decide) _ s.length _ rfl (hO.out.alloc _) ⟨wr.heap.size, 0, none⟩ 1 1 [.int .i64 ((↑x - 1 - ↑y + 1000000000 : Int))] rfl rfl (cell_one_new wr (.int .i64 ((↑x - 1 - ↑y + 1000000000 : Int))) 3) (by simp [Value.oneCell']) (by unfold maxLen; omega) (by omega) (by have := hB.out.size; simp; omega) ?_; intro v' w3 hown3 hgrow3 _; have HO3 := hid hown3; have HG3 := hid hgrow3; clear hown3 hgrow3)
            rw [hzI.out] at HO3
            obtain ⟨n1, n2⟩ := own_next hO.out hB.out HO3.out HG3.out
            have N1 := hid n1; have N2 := hid n2; clear n1 n2 HO3 HG3
            obtain ⟨a3, k3, rfl⟩ := owns_ex N1.out
            go_wp2_with fail
            go_roundw
            case rel => exact ⟨s ++ [z], 1, _, by simp, rfl, by simp, by omega, by simp <;> omega, HN, N1, N2⟩
            case measure => simp [intOf] <;> omega
          · obtain ⟨z, hz0', hz1', hzI⟩ : ∃ z : Nat, x + 1000000000 * 0 = z + 1 + y ∧ z < 1000000000 ∧ Hid ((↑x - 1 - ↑y : Int) = (z : Int)) := ⟨((↑x - 1 - ↑y : Int)).toNat, by omega, by omega, by rw [Hid]; omega⟩
            have HN := hid (hP.out.next (z := z) (c' := 0) (by rw [getD_of HX.out, getD_of HY.out]; omega) hz1' (by omega))
            clear hz0' hz1'
            have q1 : decide ((x : Int) - 1 - (y : Int) < 0) = false := by simp <;> omega
            clear hneg
            go_wp2_with (at_builtin; refine wpList_append_own _ rfl _ _ 77 rfl w.heap.size 3 i0 (.int .i64 0) 1 8 Tryz.underlying77 hi hz0 hz1 hz2 rfl (by decide) _ s.length _ rfl (hO.out.alloc _) ⟨wr.heap.size, 0, none⟩ 1 1 [.int .i64 ((↑x - 1 - ↑y : Int))] rfl rfl (cell_one_new wr (.int .i64 ((↑x - 1 - ↑y : Int))) 3) (by simp [Value.oneCell']) (by unfold maxLen; omega) (by omega) (by have := hB.out.size; simp; omega) ?_; intro v' w3 hown3 hgrow3 _; have HO3 := hid hown3; have HG3 := hid hgrow3; clear hown3 hgrow3)
            rw [hzI.out] at HO3
            obtain ⟨n1, n2⟩ := own_next hO.out hB.out HO3.out HG3.out
            have N1 := hid n1; have N2 := hid n2; clear n1 n2 HO3 HG3
            obtain ⟨a3, k3, rfl⟩ := owns_ex N1.out
            go_wp2_with fail
            go_roundw
            case rel => exact ⟨s ++ [z], 0, _, by simp, rfl, by simp, by omega, by simp <;> omega, HN, N1, N2⟩
            case measure => simp [intOf] <;> omega
      · skip
        rcases (show c = 0 ∨ c = 1 by omega) with rfl | rfl
        · obtain rfl : C = 0 := by omega
          clear hC
          by_cases hneg : x < 0 + 0
          · omega
          · obtain ⟨z, hz0', hz1', hzI⟩ : ∃ z : Nat, x + 1000000000 * 0 = z + 0 + 0 ∧ z < 1000000000 ∧ Hid ((↑x : Int) = (z : Int)) := ⟨((↑x : Int)).toNat, by omega, by omega, by rw [Hid]; omega⟩
            have HN := hid (hP.out.next (z := z) (c' := 0) (by rw [getD_of HX.out, getD_none (by rw [HB.out]; omega)]; omega) hz1' (by omega))
            clear hz0' hz1'
            have q1 : decide ((x : Int) < 0) = false := by simp <;> omega
            clear hneg
            go_wp2_with (at_builtin; refine wpList_append_own _ rfl _ _ 77 rfl w.heap.size 3 i0 (.int .i64 0) 1 8 Tryz.underlying77 hi hz0 hz1 hz2 rfl (by decide) _ s.length _ rfl (hO.out.alloc _) ⟨wr.heap.size, 0, none⟩ 1 1 [.int .i64 ((↑x : Int))] rfl rfl (cell_one_new wr (.int .i64 ((↑x : Int))) 3) (by simp [Value.oneCell']) (by unfold maxLen; omega) (by omega) (by have := hB.out.size; simp; omega) ?_; intro v' w3 hown3 hgrow3 _; have HO3 := hid hown3; have HG3 := hid hgrow3; clear hown3 hgrow3)
            rw [hzI.out] at HO3
            obtain ⟨n1, n2⟩ := own_next hO.out hB.out HO3.out HG3.out
            have N1 := hid n1; have N2 := hid n2; clear n1 n2 HO3 HG3
            obtain ⟨a3, k3, rfl⟩ := owns_ex N1.out
            go_wp2_with fail
            go_roundw
            case rel => exact ⟨s ++ [z], 0, _, by simp, rfl, by simp, by omega, by simp <;> omega, HN, N1, N2⟩
            case measure => simp [intOf] <;> omega
        · obtain rfl : C = 1 := by omega
          clear hC
          by_cases hneg : x < 0 + 1
          · obtain ⟨z, hz0', hz1', hzI⟩ : ∃ z : Nat, x + 1000000000 * 1 = z + 1 + 0 ∧ z < 1000000000 ∧ Hid ((↑x - 1 + 1000000000 : Int) = (z : Int)) := ⟨((↑x - 1 + 1000000000 : Int)).toNat, by omega, by omega, by rw [Hid]; omega⟩
            have HN := hid (hP.out.next (z := z) (c' := 1) (by rw [getD_of HX.out, getD_none (by rw [HB.out]; omega)]; omega) hz1' (by omega))
            clear hz0' hz1'
            have q1 : decide ((x : Int) - 1 < 0) = true := by simp <;> omega
            clear hneg
            go_wp2_with (at_builtin; refine wpList_append_own _ rfl _ _ 77 rfl w.heap.size 3 i0 (.int .i64 0) 1 8 Tryz.underlying77 hi hz0 hz1 hz2 rfl (by decide) _ s.length _ rfl (hO.out.alloc _) ⟨wr.heap.size, 0, none⟩ 1 1 [.int .i64 ((↑x - 1 + 1000000000 : Int))] rfl rfl (cell_one_new wr (.int .i64 ((↑x - 1 + 1000000000 : Int))) 3) (by simp [Value.oneCell']) (by unfold maxLen; omega) (by omega) (by have := hB.out.size; simp; omega) ?_; intro v' w3 hown3 hgrow3 _; have HO3 := hid hown3; have HG3 := hid hgrow3; clear hown3 hgrow3)
            rw [hzI.out] at HO3
            obtain ⟨n1, n2⟩ := own_next hO.out hB.out HO3.out HG3.out
            have N1 := hid n1; have N2 := hid n2; clear n1 n2 HO3 HG3
            obtain ⟨a3, k3, rfl⟩ := owns_ex N1.out
            go_wp2_with fail
            go_roundw
            case rel => exact ⟨s ++ [z], 1, _, by simp, rfl, by simp, by omega, by simp <;> omega, HN, N1, N2⟩
            case measure => simp [intOf] <;> omega
          · obtain ⟨z, hz0', hz1', hzI⟩ : ∃ z : Nat, x + 1000000000 * 0 = z + 1 + 0 ∧ z < 1000000000 ∧ Hid ((↑x - 1 : Int) = (z : Int)) := ⟨((↑x - 1 : Int)).toNat, by omega, by omega, by rw [Hid]; omega⟩
            have HN := hid (hP.out.next (z := z) (c' := 0) (by rw [getD_of HX.out, getD_none (by rw [HB.out]; omega)]; omega) hz1' (by omega))
            clear hz0' hz1'
            have q1 : decide ((x : Int) - 1 < 0) = false := by simp <;> omega
            clear hneg
            go_wp2_with (at_builtin; refine wpList_append_own _ rfl _ _ 77 rfl w.heap.size 3 i0 (.int .i64 0) 1 8 Tryz.underlying77 hi hz0 hz1 hz2 rfl (by decide) _ s.length _ rfl (hO.out.alloc _) ⟨wr.heap.size, 0, none⟩ 1 1 [.int .i64 ((↑x - 1 : Int))] rfl rfl (cell_one_new wr (.int .i64 ((↑x - 1 : Int))) 3) (by simp [Value.oneCell']) (by unfold maxLen; omega) (by omega) (by have := hB.out.size; simp; omega) ?_; intro v' w3 hown3 hgrow3 _; have HO3 := hid hown3; have HG3 := hid hgrow3; clear hown3 hgrow3)
            rw [hzI.out] at HO3
            obtain ⟨n1, n2⟩ := own_next hO.out hB.out HO3.out HG3.out
            have N1 := hid n1; have N2 := hid n2; clear n1 n2 HO3 HG3
            obtain ⟨a3, k3, rfl⟩ := owns_ex N1.out
            go_wp2_with fail
            go_roundw
            case rel => exact ⟨s ++ [z], 0, _, by simp, rfl, by simp, by omega, by simp <;> omega, HN, N1, N2⟩
            case measure => simp [intOf] <;> omega
    · obtain rfl : s.length = n := by omega
      have hv := hid (hP.out.done HA.out.symm HL.out)
      go_wp2_with (go_at_call 107; refine (r1_trim _ _ s hP.out.sm (Row.of_owns hO.out)).mono ?_; rintro e w1 ⟨⟨v1, rfl, hv1⟩, rfl⟩)
      go_ret
      exact ⟨⟨v1, rfl, by rw [← hv.out]; exact hv1⟩, hB.out⟩
end Go.Proofs.YtjgcjjbnnlnilaaGreatDoor

/- Walks: the reference's Minus, whose result is fresh. -/
namespace Go.Proofs.YtjgcjjbnnlnilaaGreatDoor
open Go.RowKit
set_option linter.unusedVariables false

set_option maxHeartbeats 4000000 in
theorem r1_MinusF (w : World) (v u : Value) (a b : Nat) (ha : IsN .i64 w v a) (hb : IsN .i64 w u b) (hle : b ≤ a) (hla : (limbs a).length ≤ 1000000) :
    Calls Tryz.prog 120 #[v, u] w fun e w' => RetF w.heap.size .i64 (a - b) e w' ∧ Below w.heap.size w w' := by
  obtain ⟨i0, hi, hz0, hz1, hz2⟩ := info_parts info_int
  obtain ⟨a1, c1, rfl, h1, h2, h3⟩ := ha.openI
  obtain ⟨a2, c2, rfl, k1, k2, k3⟩ := hb.openI
  have H3 := hid h3; have K3 := hid k3; clear h3 k3 ha hb
  have hmn := limbs_length_mono hle
  obtain ⟨n, ea⟩ : ∃ n, (limbs a).length = n := ⟨_, rfl⟩
  obtain ⟨m, eb⟩ : ∃ m, (limbs b).length = m := ⟨_, rfl⟩
  rw [ea] at h1 hla hmn ⊢
  rw [eb] at k1 hmn ⊢
  have HA := hid ea; have HB := hid eb; have HL := hid hle
  clear ea eb hle
  go_enter Tryz.func120, Tryz.ntmps120
  go_wp2_with fail
  go_loopw [5, 6, 7, 8] (fun o cc i nn wr => ∃ (s : List Nat) (c : Nat) (C : Int), i = .int .i64 s.length ∧ cc = .int .i64 C ∧ C = (c : Int) ∧ c ≤ 1 ∧ s.length ≤ n ∧ Hid (MinusI a b s c) ∧ Hid (wr.ownsRow w.heap.size 3 1 o s.length (ints .i64 s)) ∧ Hid (Below w.heap.size w wr))
    (fun _ _ i _ _ => n - (intOf i).toNat)
  case atStart => exact ⟨[], 0, 0, rfl, rfl, rfl, by omega, by simp, MinusI.start a b, World.ownsRow_nil _ _ _ _, Below.refl _ _⟩
  case round =>
    obtain ⟨s, c, C, rfl, rfl, hC, hc1, hs1, hP, hO, hB⟩ := hrel
    obtain ⟨ao, co, rfl⟩ := owns_ex hO.out
    by_cases hA : s.length < n
    · obtain ⟨x, hx⟩ : ∃ x, (limbs a)[s.length]? = some x := ⟨_, List.getElem?_eq_getElem (by rw [HA.out]; exact hA)⟩
      obtain ⟨g, og, rfl, hg, hc⟩ := H3.out _ x hx
      have hc' := (hB.out.cell (p := ⟨g, og + s.length, none⟩) hg).trans hc
      have hxl := (sm_limbs a).get hx
      have HX := hid hx; clear hx hc
      by_cases hB' : s.length < m
      · obtain ⟨y, hy⟩ : ∃ y, (limbs b)[s.length]? = some y := ⟨_, List.getElem?_eq_getElem (by rw [HB.out]; exact hB')⟩
        obtain ⟨g', og', rfl, hg', hd⟩ := K3.out _ y hy
        have hd' := (hB.out.cell (p := ⟨g', og' + s.length, none⟩) hg').trans hd
        have hyl := (sm_limbs b).get hy
        have HY := hid hy; clear hy hd
        rcases (show c = 0 ∨ c = 1 by omega) with rfl | rfl
        · obtain rfl : C = 0 := by omega
          clear hC
          by_cases hneg : x < y + 0
          · obtain ⟨z, hz0', hz1', hzI⟩ : ∃ z : Nat, x + 1000000000 * 1 = z + 0 + y ∧ z < 1000000000 ∧ Hid ((↑x - ↑y + 1000000000 : Int) = (z : Int)) := ⟨((↑x - ↑y + 1000000000 : Int)).toNat, by omega, by omega, by rw [Hid]; omega⟩
            have HN := hid (hP.out.next (z := z) (c' := 1) (by rw [getD_of HX.out, getD_of HY.out]; omega) hz1' (by omega))
            clear hz0' hz1'
            have q1 : decide ((x : Int) - (y : Int) < 0) = true := by simp <;> omega
            clear hneg
            go_wp2_with (at_builtin; refine wpList_append_own _ rfl _ _ 77 rfl w.heap.size 3 i0 (.int .i64 0) 1 8 Tryz.underlying77 hi hz0 hz1 hz2 rfl (by decide) _ s.length _ rfl (hO.out.alloc _) ⟨wr.heap.size, 0, none⟩ 1 1 [.int .i64 ((↑x - ↑y + 1000000000 : Int))] rfl rfl (cell_one_new wr (.int .i64 ((↑x - ↑y + 1000000000 : Int))) 3) (by simp [Value.oneCell']) (by unfold maxLen; omega) (by omega) (by have := hB.out.size; simp; omega) ?_; intro v' w3 hown3 hgrow3 _; have HO3 := hid hown3; have HG3 := hid hgrow3; clear hown3 hgrow3)
            rw [hzI.out] at HO3
            obtain ⟨n1, n2⟩ := own_next hO.out hB.out HO3.out HG3.out
            have N1 := hid n1; have N2 := hid n2; clear n1 n2 HO3 HG3
            obtain ⟨a3, k3, rfl⟩ := owns_ex N1.out
            go_wp2_with fail
            go_roundw
            case rel => exact ⟨s ++ [z], 1, _, by simp, rfl, by simp, by omega, by simp <;> omega, HN, N1, N2⟩
            case measure => simp [intOf] <;> omega
          · obtain ⟨z, hz0', hz1', hzI⟩ : ∃ z : Nat, x + 1000000000 * 0 = z + 0 + y ∧ z < 1000000000 ∧ Hid ((↑x - ↑y : Int) = (z : Int)) := ⟨((↑x - ↑y : Int)).toNat, by omega, by omega, by rw [Hid]; omega⟩
            have HN := hid (hP.out.next (z := z) (c' := 0) (by rw [getD_of HX.out, getD_of HY.out]; omega) hz1' (by omega))
            clear hz0' hz1'
            have q1 : decide ((x : Int) - (y : Int) < 0) = false := by simp <;> omega
            clear hneg
            go_wp2_with (at_builtin; refine wpList_append_own _ rfl _ _ 77 rfl w.heap.size 3 i0 (.int .i64 0) 1 8 Tryz.underlying77 hi hz0 hz1 hz2 rfl (by decide) _ s.length _ rfl (hO.out.alloc _) ⟨wr.heap.size, 0, none⟩ 1 1 [.int .i64 ((↑x - ↑y : Int))] rfl rfl (cell_one_new wr (.int .i64 ((↑x - ↑y : Int))) 3) (by simp [Value.oneCell']) (by unfold maxLen; omega) (by omega) (by have := hB.out.size; simp; omega) ?_; intro v' w3 hown3 hgrow3 _; have HO3 := hid hown3; have HG3 := hid hgrow3; clear hown3 hgrow3)
            rw [hzI.out] at HO3
            obtain ⟨n1, n2⟩ := own_next hO.out hB.out HO3.out HG3.out
            have N1 := hid n1; have N2 := hid n2; clear n1 n2 HO3 HG3
            obtain ⟨a3, k3, rfl⟩ := owns_ex N1.out
            go_wp2_with fail
            go_roundw
            case rel => exact ⟨s ++ [z], 0, _, by simp, rfl, by simp, by omega, by simp <;> omega, HN, N1, N2⟩
            case measure => simp [intOf] <;> omega
        · obtain rfl : C = 1 := by omega
          clear hC
          by_cases hneg : x < y + 1
          · obtain ⟨z, hz0', hz1', hzI⟩ : ∃ z : Nat, x + 1000000000 * 1 = z + 1 + y ∧ z < 1000000000 ∧ Hid ((↑x - 1 - ↑y + 1000000000 : Int) = (z : Int)) := ⟨((↑x - 1 - ↑y + 1000000000 : Int)).toNat, by omega, by omega, by rw [Hid]; omega⟩
            have HN := hid (hP.out.next (z := z) (c' := 1) (by rw [getD_of HX.out, getD_of HY.out]; omega) hz1' (by omega))
            clear hz0' hz1'
            have q1 : decide ((x : Int) - 1 - (y : Int) < 0) = true := by simp <;> omega
            clear hneg
            go_wp2_with (at_builtin; refine wpList_append_own _ rfl _ _ 77 rfl w.heap.size 3 i0 (.int .i64 0) 1 8 Tryz.underlying77 hi hz0 hz1 hz2 rfl (by decide) _ s.length _ rfl (hO.out.alloc _) ⟨wr.heap.size, 0, none⟩ 1 1 [.int .i64 ((↑x - 1 - ↑y + 1000000000 : Int))] rfl rfl (cell_one_new wr (.int .i64 ((↑x - 1 - ↑y + 1000000000 : Int))) 3) (by simp [Value.oneCell']) (by unfold maxLen; omega) (by omega) (by have := hB.out.size; simp; omega) ?_; intro v' w3 hown3 hgrow3 _; have HO3 := hid hown3; have HG3 := hid hgrow3; clear hown3 hgrow3)
            rw [hzI.out] at HO3
            obtain ⟨n1, n2⟩ := own_next hO.out hB.out HO3.out HG3.out
            have N1 := hid n1; have N2 := hid n2; clear n1 n2 HO3 HG3
            obtain ⟨a3, k3, rfl⟩ := owns_ex N1.out
            go_wp2_with fail
            go_roundw
            case rel => exact ⟨s ++ [z], 1, _, by simp, rfl, by simp, by omega, by simp <;> omega, HN, N1, N2⟩
            case measure => simp [intOf] <;> omega
          · obtain ⟨z, hz0', hz1', hzI⟩ : ∃ z : Nat, x + 1000000000 * 0 = z + 1 + y ∧ z < 1000000000 ∧ Hid ((↑x - 1 - ↑y : Int) = (z : Int)) := ⟨((↑x - 1 - ↑y : Int)).toNat, by omega, by omega, by rw [Hid]; omega⟩
            have HN := hid (hP.out.next (z := z) (c' := 0) (by rw [getD_of HX.out, getD_of HY.out]; omega) hz1' (by omega))
            clear hz0' hz1'
            have q1 : decide ((x : Int) - 1 - (y : Int) < 0) = false := by simp <;> omega
            clear hneg
            go_wp2_with (at_builtin; refine wpList_append_own _ rfl _ _ 77 rfl w.heap.size 3 i0 (.int .i64 0) 1 8 Tryz.underlying77 hi hz0 hz1 hz2 rfl (by decide) _ s.length _ rfl (hO.out.alloc _) ⟨wr.heap.size, 0, none⟩ 1 1 [.int .i64 ((↑x - 1 - ↑y : Int))] rfl rfl (cell_one_new wr (.int .i64 ((↑x - 1 - ↑y : Int))) 3) (by simp [Value.oneCell']) (by unfold maxLen; omega) (by omega) (by have := hB.out.size; simp; omega) ?_; intro v' w3 hown3 hgrow3 _; have HO3 := hid hown3; have HG3 := hid hgrow3; clear hown3 hgrow3)
            rw [hzI.out] at HO3
            obtain ⟨n1, n2⟩ := own_next hO.out hB.out HO3.out HG3.out
            have N1 := hid n1; have N2 := hid n2; clear n1 n2 HO3 HG3
            obtain ⟨a3, k3, rfl⟩ := owns_ex N1.out
            go_wp2_with fail
            go_roundw
            case rel => exact ⟨s ++ [z], 0, _, by simp, rfl, by simp, by omega, by simp <;> omega, HN, N1, N2⟩
            case measure => simp [intOf] <;> omega
      · skip
        rcases (show c = 0 ∨ c = 1 by omega) with rfl | rfl
        · obtain rfl : C = 0 := by omega
          clear hC
          by_cases hneg : x < 0 + 0
          · omega
          · obtain ⟨z, hz0', hz1', hzI⟩ : ∃ z : Nat, x + 1000000000 * 0 = z + 0 + 0 ∧ z < 1000000000 ∧ Hid ((↑x : Int) = (z : Int)) := ⟨((↑x : Int)).toNat, by omega, by omega, by rw [Hid]; omega⟩
            have HN := hid (hP.out.next (z := z) (c' := 0) (by rw [getD_of HX.out, getD_none (by rw [HB.out]; omega)]; omega) hz1' (by omega))
            clear hz0' hz1'
            have q1 : decide ((x : Int) < 0) = false := by simp <;> omega
            clear hneg
            go_wp2_with (at_builtin; refine wpList_append_own _ rfl _ _ 77 rfl w.heap.size 3 i0 (.int .i64 0) 1 8 Tryz.underlying77 hi hz0 hz1 hz2 rfl (by decide) _ s.length _ rfl (hO.out.alloc _) ⟨wr.heap.size, 0, none⟩ 1 1 [.int .i64 ((↑x : Int))] rfl rfl (cell_one_new wr (.int .i64 ((↑x : Int))) 3) (by simp [Value.oneCell']) (by unfold maxLen; omega) (by omega) (by have := hB.out.size; simp; omega) ?_; intro v' w3 hown3 hgrow3 _; have HO3 := hid hown3; have HG3 := hid hgrow3; clear hown3 hgrow3)
            rw [hzI.out] at HO3
            obtain ⟨n1, n2⟩ := own_next hO.out hB.out HO3.out HG3.out
            have N1 := hid n1; have N2 := hid n2; clear n1 n2 HO3 HG3
            obtain ⟨a3, k3, rfl⟩ := owns_ex N1.out
            go_wp2_with fail
            go_roundw
            case rel => exact ⟨s ++ [z], 0, _, by simp, rfl, by simp, by omega, by simp <;> omega, HN, N1, N2⟩
            case measure => simp [intOf] <;> omega
        · obtain rfl : C = 1 := by omega
          clear hC
          by_cases hneg : x < 0 + 1
          · obtain ⟨z, hz0', hz1', hzI⟩ : ∃ z : Nat, x + 1000000000 * 1 = z + 1 + 0 ∧ z < 1000000000 ∧ Hid ((↑x - 1 + 1000000000 : Int) = (z : Int)) := ⟨((↑x - 1 + 1000000000 : Int)).toNat, by omega, by omega, by rw [Hid]; omega⟩
            have HN := hid (hP.out.next (z := z) (c' := 1) (by rw [getD_of HX.out, getD_none (by rw [HB.out]; omega)]; omega) hz1' (by omega))
            clear hz0' hz1'
            have q1 : decide ((x : Int) - 1 < 0) = true := by simp <;> omega
            clear hneg
            go_wp2_with (at_builtin; refine wpList_append_own _ rfl _ _ 77 rfl w.heap.size 3 i0 (.int .i64 0) 1 8 Tryz.underlying77 hi hz0 hz1 hz2 rfl (by decide) _ s.length _ rfl (hO.out.alloc _) ⟨wr.heap.size, 0, none⟩ 1 1 [.int .i64 ((↑x - 1 + 1000000000 : Int))] rfl rfl (cell_one_new wr (.int .i64 ((↑x - 1 + 1000000000 : Int))) 3) (by simp [Value.oneCell']) (by unfold maxLen; omega) (by omega) (by have := hB.out.size; simp; omega) ?_; intro v' w3 hown3 hgrow3 _; have HO3 := hid hown3; have HG3 := hid hgrow3; clear hown3 hgrow3)
            rw [hzI.out] at HO3
            obtain ⟨n1, n2⟩ := own_next hO.out hB.out HO3.out HG3.out
            have N1 := hid n1; have N2 := hid n2; clear n1 n2 HO3 HG3
            obtain ⟨a3, k3, rfl⟩ := owns_ex N1.out
            go_wp2_with fail
            go_roundw
            case rel => exact ⟨s ++ [z], 1, _, by simp, rfl, by simp, by omega, by simp <;> omega, HN, N1, N2⟩
            case measure => simp [intOf] <;> omega
          · obtain ⟨z, hz0', hz1', hzI⟩ : ∃ z : Nat, x + 1000000000 * 0 = z + 1 + 0 ∧ z < 1000000000 ∧ Hid ((↑x - 1 : Int) = (z : Int)) := ⟨((↑x - 1 : Int)).toNat, by omega, by omega, by rw [Hid]; omega⟩
            have HN := hid (hP.out.next (z := z) (c' := 0) (by rw [getD_of HX.out, getD_none (by rw [HB.out]; omega)]; omega) hz1' (by omega))
            clear hz0' hz1'
            have q1 : decide ((x : Int) - 1 < 0) = false := by simp <;> omega
            clear hneg
            go_wp2_with (at_builtin; refine wpList_append_own _ rfl _ _ 77 rfl w.heap.size 3 i0 (.int .i64 0) 1 8 Tryz.underlying77 hi hz0 hz1 hz2 rfl (by decide) _ s.length _ rfl (hO.out.alloc _) ⟨wr.heap.size, 0, none⟩ 1 1 [.int .i64 ((↑x - 1 : Int))] rfl rfl (cell_one_new wr (.int .i64 ((↑x - 1 : Int))) 3) (by simp [Value.oneCell']) (by unfold maxLen; omega) (by omega) (by have := hB.out.size; simp; omega) ?_; intro v' w3 hown3 hgrow3 _; have HO3 := hid hown3; have HG3 := hid hgrow3; clear hown3 hgrow3)
            rw [hzI.out] at HO3
            obtain ⟨n1, n2⟩ := own_next hO.out hB.out HO3.out HG3.out
            have N1 := hid n1; have N2 := hid n2; clear n1 n2 HO3 HG3
            obtain ⟨a3, k3, rfl⟩ := owns_ex N1.out
            go_wp2_with fail
            go_roundw
            case rel => exact ⟨s ++ [z], 0, _, by simp, rfl, by simp, by omega, by simp <;> omega, HN, N1, N2⟩
            case measure => simp [intOf] <;> omega
    · obtain rfl : s.length = n := by omega
      have hv := hid (hP.out.done HA.out.symm HL.out)
      go_wp2_with (go_at_call 107; refine (r1_trim_at _ _ _ s hP.out.sm (Row.of_owns hO.out)).mono ?_; rintro e w1 ⟨⟨m1, rfl, hv1⟩, rfl⟩)
      go_ret
      exact ⟨⟨_, rfl, by rw [← hv.out]; exact hv1, fun g hg => (hO.out.lt g (by cases ao <;> exact hg)).1⟩, hB.out⟩
end Go.Proofs.YtjgcjjbnnlnilaaGreatDoor

/- Walks: ref05.natural, counts. -/
namespace Go.Proofs.YtjgcjjbnnlnilaaGreatDoor
open Go.RowKit Go.Shelf
open Go.Lib (decDigits nDigits)
set_option linter.unusedVariables false
set_option linter.unusedSimpArgs false

theorem r5_natural (w : World) (n : Nat) (h : n ≤ 9223372036854775807) : Calls Tryz.prog 81 #[.int .i64 n] w fun e w' => RetN .i64 n e w' ∧ Below w.heap.size w w' := by
  have hd := hid (show nDigits n ≤ 9000 from Nat.le_trans (nDigits_le (k := 19) (by omega) (by omega)) (by omega))
  go_enter Tryz.func81, Tryz.ntmps81
  go_wp2_with fail
  refine (r2_Int _ n h).mono ?_; rintro e w1 ⟨rfl, rfl⟩
  go_wp2_with fail
  refine (r1_Read_num _ n hd.out).mono ?_; rintro e w2 ⟨⟨v2, rfl, hv2⟩, hb2⟩
  have V2 := hid hv2; have B2 := hid hb2; clear hv2 hb2
  go_wp2_with fail
  go_ret
  exact ⟨⟨_, rfl, V2.out⟩, B2.out⟩
end Go.Proofs.YtjgcjjbnnlnilaaGreatDoor

/- Plain: all bit strings of a length; how many of them draw which index. -/
namespace Go.Proofs.YtjgcjjbnnlnilaaGreatDoor
open Go.RowKit
set_option linter.unusedVariables false

/-- All words of n bits, in order. -/
def allW : Nat → List (List UInt8)
  | 0 => [[]]
  | n + 1 => (allW n).flatMap fun l => [l ++ [48], l ++ [49]]
/-- The number of a word, behind a number. -/
def bvL : List UInt8 → Nat → Nat
  | [], k => k
  | b :: r, k => bvL r (k + k + (if b = 49 then 1 else 0))
theorem bvL_snoc (b : UInt8) : ∀ (l : List UInt8) (k : Nat), bvL (l ++ [b]) k = bvL l k + bvL l k + (if b = 49 then 1 else 0)
  | [], k => rfl
  | c :: r, k => bvL_snoc b r _
theorem allW_len : ∀ {n : Nat} {l : List UInt8}, l ∈ allW n → l.length = n
  | 0, l, h => by simp [allW] at h; subst h; rfl
  | n + 1, l, h => by
    simp only [allW, List.mem_flatMap] at h
    obtain ⟨m, hm, hl⟩ := h
    have := allW_len hm
    simp at hl
    rcases hl with rfl | rfl <;> simp [this]
theorem allW_bits : ∀ {n : Nat} {l : List UInt8}, l ∈ allW n → ∀ b ∈ l, b = 48 ∨ b = 49
  | 0, l, h => by simp [allW] at h; subst h; simp
  | n + 1, l, h => by
    simp only [allW, List.mem_flatMap] at h
    obtain ⟨m, hm, hl⟩ := h
    have := allW_bits hm
    simp at hl
    rcases hl with rfl | rfl <;> (intro b hb; rcases List.mem_append.1 hb with hb | hb; exact this b hb; simp at hb; simp [hb])
theorem allW_length : ∀ n, (allW n).length = 2 ^ n
  | 0 => rfl
  | n + 1 => by
    have h : ∀ L : List (List UInt8), (L.flatMap fun l => [l ++ [48], l ++ [49]]).length = 2 * L.length := fun L => by
      induction L with
      | nil => rfl
      | cons a r ih => rw [List.flatMap_cons, List.length_append, ih, List.length_cons]; simp; omega
    rw [allW, h, allW_length n, Nat.pow_succ]; omega
theorem range_twice : ∀ m, (List.range m).flatMap (fun v => [v + v, v + v + 1]) = List.range (m + m)
  | 0 => rfl
  | m + 1 => by
    rw [List.range_succ, List.flatMap_append, range_twice m, show m + 1 + (m + 1) = m + m + 1 + 1 by omega, List.range_succ, List.range_succ]
    simp
theorem allW_map : ∀ n, (allW n).map (fun l => bvL l 0) = List.range (2 ^ n)
  | 0 => rfl
  | n + 1 => by
    rw [Nat.pow_succ, Nat.mul_two, ← range_twice, ← allW_map n, allW, List.map_flatMap, List.flatMap_map]
    congr 1
    funext l
    simp [bvL_snoc]

/-- What is decided stays decided. -/
def Nest (f : Nat → Nat → Nat × Bool) : Prop := ∀ k t i b, k < t → b ≤ 1 → f k t = (i, true) → f (k + k + b) (t + t) = (i, true)
theorem Nest.end {f : Nat → Nat → Nat × Bool} (h : Nest f) {i : Nat} : ∀ (l : List UInt8) (k t : Nat), k < t → f k t = (i, true) → f (bvL l k) (t * 2 ^ l.length) = (i, true)
  | [], k, t, _, e => by simpa [bvL] using e
  | b :: r, k, t, hk, e => by
    have h1 := h k t i (if b = 49 then 1 else 0) hk (by split <;> omega) e
    have h2 := h.end r _ _ (by split <;> omega) h1
    rw [bvL, List.length_cons, Nat.pow_succ, show t * (2 ^ r.length * 2) = (t + t) * 2 ^ r.length by rw [← Nat.mul_two, Nat.mul_assoc, Nat.mul_comm 2]]
    exact h2

theorem pdr_end {f : Nat → Nat → Nat × Bool} (h : Nest f) : ∀ (l : List UInt8) (k t : Nat), k < t →
    (pdr f k t l).1 = (f (bvL l k) (t * 2 ^ l.length)).2 ∧ ((pdr f k t l).1 = true → (pdr f k t l).2.1 = (f (bvL l k) (t * 2 ^ l.length)).1) ∧ ((pdr f k t l).1 = false → (pdr f k t l).2.1 = 0) := by
  intro l
  induction l with
  | nil =>
    intro k t hk
    simp only [bvL, List.length_nil, Nat.pow_zero, Nat.mul_one]
    cases hf : (f k t).2
    · rw [pdr_late hf]; simp
    · rw [pdr_done hf]; simp
  | cons b r ih =>
    intro k t hk
    cases hf : (f k t).2
    · rw [pdr_next hf]
      have := ih (k + k + (if b = 49 then 1 else 0)) (t + t) (by split <;> omega)
      rw [bvL, List.length_cons, Nat.pow_succ, show t * (2 ^ r.length * 2) = (t + t) * 2 ^ r.length by rw [← Nat.mul_two, Nat.mul_assoc, Nat.mul_comm 2]]
      exact this
    · have e : f k t = ((f k t).1, true) := by rw [← hf]
      have := h.end (b :: r) k t hk e
      rw [pdr_done hf, this]
      simp

/-- How often a draw gives i, and how often it gives nothing. -/
def drawsI (f : Nat → Nat → Nat × Bool) (i : Nat) (l : List UInt8) : Bool := (pdr f 0 1 l).1 && decide ((pdr f 0 1 l).2.1 = i)
theorem draws_count {f : Nat → Nat → Nat × Bool} (h : Nest f) (n i : Nat) : (allW n).countP (drawsI f i) = (List.range (2 ^ n)).countP (fun k => decide (f k (2 ^ n) = (i, true))) := by
  rw [← allW_map n, List.countP_map]
  refine List.countP_congr fun l hl => ?_
  have hn := allW_len hl
  obtain ⟨h1, h2, h3⟩ := pdr_end h l 0 1 (by omega)
  rw [hn, Nat.one_mul] at h1 h2
  simp only [drawsI, Function.comp, Bool.and_eq_true, decide_eq_true_eq]
  constructor
  · rintro ⟨k1, k2⟩
    rw [k1] at h1
    rw [← k2, h2 k1, h1]
  · intro e
    have k1 : (pdr f 0 1 l).1 = true := by rw [h1, e]
    exact ⟨k1, by rw [h2 k1, e]⟩
theorem late_count {f : Nat → Nat → Nat × Bool} (h : Nest f) (n : Nat) : (allW n).countP (fun l => !(pdr f 0 1 l).1) = (List.range (2 ^ n)).countP (fun k => !(f k (2 ^ n)).2) := by
  rw [← allW_map n, List.countP_map]
  refine List.countP_congr fun l hl => ?_
  have hn := allW_len hl
  obtain ⟨h1, -, -⟩ := pdr_end h l 0 1 (by omega)
  rw [hn, Nat.one_mul] at h1
  simp only [Function.comp, h1]

theorem fstI_spec {p : Nat → Bool} {n i : Nat} (h : fstI p n = i) (hi : i < n) : p i = true ∧ ∀ j, j < i → p j = false := by
  unfold fstI at h
  subst h
  have hl : (List.range n).findIdx p < (List.range n).length := by simpa using hi
  constructor
  · have := List.findIdx_getElem (p := p) (w := hl)
    simpa using this
  · intro j hj
    have := List.not_of_lt_findIdx hj
    simpa using this

/-- When a cell decides an index. -/
theorem pkF_iff {ws : List Nat} {k t i : Nat} (hS : 0 < ws.sum) : pkF ws k t = (i, true) ↔ i < ws.length ∧ pre ws i * t ≤ k * ws.sum ∧ k * ws.sum + ws.sum ≤ pre ws (i + 1) * t := by
  constructor
  · intro h
    unfold pkF at h
    simp only [Prod.mk.injEq, Bool.and_eq_true, decide_eq_true_eq] at h
    obtain ⟨h1, h2, h3⟩ := h
    rw [h1] at h2 h3
    obtain ⟨h4, h5⟩ := fstI_spec h1 h2
    refine ⟨h2, ?_, h3⟩
    cases i with
    | zero => rw [pre_zero]; omega
    | succ j =>
      have := h5 j (by omega)
      simpa using this
  · rintro ⟨h1, h2, h3⟩
    have e : fstI (fun i => decide (k * ws.sum < pre ws (i + 1) * t)) ws.length = i := by
      refine fstI_eq (by omega) (fun x hx => ?_) (fun _ => ?_)
      · have := Nat.mul_le_mul_right t (pre_mono ws (show x + 1 ≤ i by omega))
        simp only [decide_eq_false_iff_not, Nat.not_lt]
        omega
      · simp only [decide_eq_true_eq]; omega
    unfold pkF
    simp only [e, decide_eq_true h1, decide_eq_true h3, Bool.and_self]

theorem pkF_nest {ws : List Nat} (hS : 0 < ws.sum) : Nest (pkF ws) := by
  intro k t i b hk hb h
  rw [pkF_iff hS] at h ⊢
  obtain ⟨h1, h2, h3⟩ := h
  have e1 : ∀ x : Nat, x * (t + t) = x * t + x * t := fun x => by rw [Nat.mul_add]
  have e2 : (k + k + b) * ws.sum = k * ws.sum + k * ws.sum + b * ws.sum := by rw [Nat.add_mul, Nat.add_mul]
  have e3 : b * ws.sum ≤ ws.sum := by
    rcases (show b = 0 ∨ b = 1 by omega) with rfl | rfl <;> omega
  rw [e1, e1, e2]
  exact ⟨h1, by omega, by omega⟩

theorem cntF_iff {ws : List Nat} {k t i : Nat} (hS : 0 < ws.sum) : cntF ws t i ≤ k ↔ pre ws i * t ≤ k * ws.sum := by
  unfold cntF
  obtain ⟨a, ha⟩ : ∃ a, pre ws i * t = a := ⟨_, rfl⟩
  rw [ha]
  have h1 := Nat.div_add_mod a ws.sum
  have h2 := Nat.mod_lt a hS
  rw [Nat.mul_comm k]
  by_cases h0 : a % ws.sum = 0
  · rw [if_neg (by simpa using h0), Nat.add_zero]
    constructor
    · intro h
      have := Nat.mul_le_mul_left ws.sum h
      omega
    · intro h
      rcases Nat.lt_or_ge k (a / ws.sum) with h3 | h3
      · have := Nat.mul_le_mul_left ws.sum (show k + 1 ≤ a / ws.sum from h3)
        rw [Nat.mul_add, Nat.mul_one] at this
        omega
      · exact h3
  · rw [if_pos h0]
    constructor
    · intro h
      have := Nat.mul_le_mul_left ws.sum h
      rw [Nat.mul_add, Nat.mul_one] at this
      omega
    · intro h
      rcases Nat.lt_or_ge (a / ws.sum) k with h3 | h3
      · exact h3
      · have := Nat.mul_le_mul_left ws.sum h3
        omega
theorem cntE_iff {ws : List Nat} {k t i : Nat} (hS : 0 < ws.sum) : k + 1 ≤ cntE ws t i ↔ k * ws.sum + ws.sum ≤ pre ws (i + 1) * t := by
  unfold cntE
  rw [Nat.le_div_iff_mul_le hS, Nat.add_mul, Nat.one_mul]
theorem cntE_fit {ws : List Nat} (t i : Nat) (hS : 0 < ws.sum) : cntE ws t i ≤ t := by
  unfold cntE
  refine Nat.div_le_of_le_mul ?_
  exact Nat.mul_le_mul_right _ (pre_sum ws (i + 1))

theorem countP_range (a b : Nat) : ∀ t, (List.range t).countP (fun k => decide (a ≤ k ∧ k + 1 ≤ b)) = min b t - a
  | 0 => by simp
  | t + 1 => by
    rw [List.range_succ, List.countP_append, countP_range a b t]
    simp only [List.countP_cons, List.countP_nil, decide_eq_true_eq]
    split <;> omega

/-- So many words draw an index. -/
theorem pick_count {ws : List Nat} (hS : 0 < ws.sum) (n : Nat) {i : Nat} (hi : i < ws.length) : (allW n).countP (drawsI (pkF ws) i) = cnt ws (2 ^ n) i := by
  rw [draws_count (pkF_nest hS), cnt]
  have e : (fun k => decide (pkF ws k (2 ^ n) = (i, true))) = fun k => decide (cntF ws (2 ^ n) i ≤ k ∧ k + 1 ≤ cntE ws (2 ^ n) i) := by
    funext k
    rw [decide_eq_decide, pkF_iff hS, cntF_iff hS, cntE_iff hS]
    exact ⟨fun h => h.2, fun h => ⟨hi, h⟩⟩
  rw [e, countP_range]
  have := cntE_fit (ws := ws) (2 ^ n) i hS
  omega


/-- The sum of some numbers. -/
def sumN (c : Nat → Nat) : Nat → Nat
  | 0 => 0
  | i + 1 => sumN c i + c i
theorem sumN_lwS (ws : List Nat) (t : Nat) : ∀ N, lwS ws t N = sumN (cnt ws t) N
  | 0 => rfl
  | N + 1 => by rw [lwS, sumN, sumN_lwS ws t N]
theorem sumN_congr {c d : Nat → Nat} : ∀ {N : Nat}, (∀ i, i < N → c i = d i) → sumN c N = sumN d N
  | 0, _ => rfl
  | N + 1, h => by rw [sumN, sumN, sumN_congr (fun i hi => h i (by omega)), h N (by omega)]
theorem sumN_add (c d : Nat → Nat) : ∀ N, sumN (fun i => c i + d i) N = sumN c N + sumN d N
  | 0 => rfl
  | N + 1 => by rw [sumN, sumN, sumN, sumN_add c d N]; omega
theorem sumN_zero : ∀ N, sumN (fun _ => 0) N = 0
  | 0 => rfl
  | N + 1 => by rw [sumN, sumN_zero N]
theorem sumN_one (j : Nat) : ∀ N, sumN (fun i => if j = i then 1 else 0) N = if j < N then 1 else 0
  | 0 => by simp [sumN]
  | N + 1 => by
    rw [sumN, sumN_one j N]
    by_cases h1 : j < N
    · rw [if_pos h1, if_neg (by omega), if_pos (by omega)]
    · rw [if_neg h1]
      by_cases h2 : j = N
      · rw [if_pos h2, if_pos (by omega)]
      · rw [if_neg h2, if_neg (by omega)]

/-- Each result is counted once. -/
theorem count_all {α : Type} (g : α → Bool × Nat) (N : Nat) : ∀ L : List α, (∀ x ∈ L, (g x).1 = true → (g x).2 < N) → sumN (fun i => L.countP (fun x => (g x).1 && decide ((g x).2 = i))) N + L.countP (fun x => !(g x).1) = L.length
  | [], _ => by simp [sumN_zero]
  | x :: r, h => by
    have ih := count_all g N r (fun y hy => h y (List.mem_cons_of_mem _ hy))
    simp only [List.countP_cons]
    rw [sumN_add, List.length_cons]
    cases hx : (g x).1
    · simp only [Bool.false_and, Bool.not_false, if_true]
      rw [show sumN (fun i => if false = true then 1 else 0) N = 0 by simpa using sumN_zero N]
      omega
    · have h1 := h x (List.mem_cons_self ..) hx
      simp only [Bool.true_and, decide_eq_true_eq]
      rw [sumN_one, if_pos h1]
      simp
      omega

/-- What remains is late. -/
theorem pick_late {ws : List Nat} (hS : 0 < ws.sum) (n : Nat) : (allW n).countP (fun l => !(pdr (pkF ws) 0 1 l).1) = 2 ^ n - lwS ws (2 ^ n) ws.length := by
  have h := count_all (fun l => ((pdr (pkF ws) 0 1 l).1, (pdr (pkF ws) 0 1 l).2.1)) ws.length (allW n) (fun l hl hd => by
    obtain ⟨h1, h2, -⟩ := pdr_end (pkF_nest hS) l 0 1 (by omega)
    dsimp only at hd ⊢
    rw [h2 hd]
    have e : pkF ws (bvL l 0) (1 * 2 ^ l.length) = ((pkF ws (bvL l 0) (1 * 2 ^ l.length)).1, true) := by rw [← hd, h1]
    exact ((pkF_iff hS).1 e).1)
  have h2 : sumN (fun i => (allW n).countP (drawsI (pkF ws) i)) ws.length + (allW n).countP (fun l => !(pdr (pkF ws) 0 1 l).1) = (allW n).length := h
  rw [allW_length, sumN_congr (d := cnt ws (2 ^ n)) (fun i hi => pick_count hS n hi), ← sumN_lwS] at h2
  omega
end Go.Proofs.YtjgcjjbnnlnilaaGreatDoor

/- Walks: ref05.counts. -/
namespace Go.Proofs.YtjgcjjbnnlnilaaGreatDoor
open Go.RowKit Go.Shelf
open Go.Lib (decDigits nDigits)
set_option linter.unusedVariables false
set_option linter.unusedSimpArgs false

theorem ord_zero (x : Nat) : (ordN x 0 != 0) = decide (x ≠ 0) := by
  rcases Nat.eq_zero_or_pos x with rfl | h
  · rw [ordN_eq]; rfl
  · rw [ordN_gt h]; simp; omega

theorem own_below {w0 w w1 w3 : World} {t : TypeId} {v : Value} {m : Nat} {vs : List Value} {o : Obj} (h : w.ownsRow w0.heap.size t 1 v m vs) (h0 : Below w0.heap.size w0 w) (hb : Below w.heap.size w w1) (hg : (w1.alloc o).grownBy w3 v.ownBlock) : Below w0.heap.size w0 w3 := by
  have h1 : Below w0.heap.size w0 (w1.alloc o) := (h0.trans (hb.mono h0.size)).alloc (h0.trans (hb.mono h0.size)).size _
  refine h1.trans ⟨hg.os, hg.tape, hg.output, hg.size, fun j hj => hg.block j (Nat.lt_of_lt_of_le hj h1.size) fun e => ?_⟩
  have := (h.lt j e.symm).1
  omega

set_option maxRecDepth 100000 in
set_option maxHeartbeats 4000000 in
theorem r5_counts (w : World) (v : Value) (ws : List Nat) (n : Nat) (hws : WsOk ws) (hS : 0 < ws.sum) (hv : Row w v (strs (ws.map numB))) (hn : n ≤ 256) :
    Calls Tryz.prog 87 #[v, .int .i64 (n : Nat)] w fun e w' => (∃ u, e = .returned u ∧ NRow w' u ws.length (cnt ws (2 ^ n))) ∧ Below w.heap.size w w' := by
  obtain ⟨i0, hi, hz0, hz1, hz2⟩ := info_parts info_tl
  have RS := hid (r5_Sums w v ws hws hv)
  have RT := fun V => hid (r3_Two V n (by omega))
  have HWS := hid hws
  obtain ⟨a, c, rfl, q1, q2, -⟩ := hv.openS
  obtain ⟨N, hN⟩ : ∃ N, (ws.map numB).length = N := ⟨_, rfl⟩
  have HN := hid (show ws.length = N from by rw [← hN]; simp)
  have hN64 : N ≤ 64 := by rw [← HN.out]; exact hws.len
  rw [hN] at RS q1 ⊢
  rw [HN.out] at RS ⊢
  obtain ⟨t, ht⟩ : ∃ t, 2 ^ n = t := ⟨_, rfl⟩
  rw [ht] at RT ⊢
  have tle : t ≤ 2 ^ 256 := by rw [← ht]; exact Nat.pow_le_pow_right (by omega) (by omega)
  have big : ∀ x, x ≤ 2 ^ 256 → nDigits x ≤ 78 := fun x hx => nDigits_le (by omega) (Nat.lt_of_le_of_lt hx (by decide))
  have LT : Hid ((limbs t).length ≤ 1000000) := num_limbs (by have := big t tle; omega)
  have LP : Hid (∀ i, (limbs (pre ws i)).length ≤ 1000000) := fun i => num_limbs (by have := hws.pre i; omega)
  have LPT : Hid (∀ i, (limbs (pre ws i * t)).length ≤ 1000000) := fun i => num_limbs (by have := nd_mul (hws.pre i) (big t tle) (by omega); omega)
  have LF : Hid (∀ i, (limbs (cntF ws t i)).length ≤ 1000000) := fun i => num_limbs (by have := big _ (Nat.le_trans (cntF_le t (i := i) hS) tle); omega)
  have LE : Hid (∀ i, (limbs (cntE ws t i)).length ≤ 1000000) := fun i => num_limbs (by have := big _ (Nat.le_trans (cntE_fit t i hS) tle); omega)
  have LQ : Hid (∀ i, (limbs (pre ws i * t / ws.sum)).length ≤ 1000000) := fun i => Nat.le_trans (limbs_length_mono (Nat.div_le_self _ _)) (LPT.out i)
  have L1 : Hid ((limbs 1).length ≤ 1000000) := by show _ ≤ _; rw [limbs_one]; decide
  have HF : Hid (∀ i, cntF ws t i = pre ws i * t / ws.sum + (if pre ws i * t % ws.sum ≠ 0 then 1 else 0)) := fun i => rfl
  have HE : Hid (∀ i, pre ws (i + 1) * t / ws.sum = cntE ws t i) := fun i => rfl
  have HC : Hid (∀ i, cnt ws t i = cntE ws t i - cntF ws t i) := fun i => rfl
  have hall : pre ws N = ws.sum := pre_all (by rw [HN.out]; omega)
  have HALL := hid hall
  have HS := hid hS
  obtain ⟨S, hSS⟩ : ∃ S, ws.sum = S := ⟨_, rfl⟩
  rw [hSS] at HF HE HALL HS LQ
  clear hws hS hv hN ht tle big hall hSS
  go_enter Tryz.func87, Tryz.ntmps87
  go_wp2_with fail
  refine RS.out.mono ?_; rintro e w1 ⟨⟨v1, rfl, hv1⟩, hb1⟩
  have V1 := hid hv1; have B1 := hid hb1
  obtain ⟨a1, c1, rfl, r1, r2, r3⟩ := hv1.open
  obtain ⟨g, o, y0, rfl, hg, hc0, hy0⟩ := r3 N (by omega)
  rw [HALL.out] at hy0
  have Y0 := hid hy0
  have HCell : Hid (∀ i, i ≤ N → ∃ y, w1.cell? ⟨g, o + i, none⟩ = some y ∧ IsN .i64 w1 y (pre ws i)) := fun i hi => by
    obtain ⟨g', o', y, e, -, h1, h2⟩ := r3 i (by omega)
    simp only [Option.some.injEq, Addr.mk.injEq] at e
    obtain ⟨rfl, rfl, -⟩ := e
    exact ⟨y, h1, h2⟩
  have KK : Hid (∀ w', Below w1.heap.size w1 w' → w'.cell? ⟨g, o + N, none⟩ = some y0) := fun w' hb => (hb.cell (p := ⟨g, o + N, none⟩) hg).trans hc0
  have b1 : (0 : Int) ≤ (N : Int) := by omega
  have b2 : (N : Int) < (N : Int) + 1 := by omega
  have b3 : (N : Int) < ((N + 1 : Nat) : Int) := by omega
  clear hv1 hb1 hy0 r3 hc0 RS
  go_wp2_with fail
  go_region_held3 (fun w' => w'.cell? ⟨g, o + N, none⟩ = some y0)
    (first
      | exact KK.out _ (Below.refl _ _).drew
      | exact KK.out _ B2.out)
    (first
      | (go_at_call 79; refine (RT _).out.mono ?_; rintro e w2 ⟨⟨v2, rfl, hv2⟩, hb2⟩; have V2 := hid hv2; have B2 := hid (show Below w1.heap.size w1 w2 from (Below.refl _ _).drew.trans hb2); clear hv2 hb2))
  go_wp2_with fail
  go_loopw [8, 9] (fun o ii wr => ∃ i : Nat, ii = .int .i64 i ∧ i ≤ N ∧ Hid (NOwn w2.heap.size wr o i (cnt ws t)) ∧ Hid (Below w2.heap.size w2 wr)) (fun o ii wr => N - (intOf ii).toNat)
  case atStart => exact ⟨0, rfl, Nat.zero_le _, NOwn.nil _ _ _, Below.refl _ _⟩
  case round =>
    obtain ⟨i, rfl, hi', hO, hB⟩ := hrel
    obtain ⟨ao0, co0, e0, -, -, -⟩ := hO.out.row.open
    subst e0
    have wi : IntKind.i64.wrap ((i : Int) + 1) = ((i + 1 : Nat) : Int) := by rw [IntWalk.i64_in _ ⟨by omega, by omega⟩]; omega
    have B12 := hid (bnext B1.out B2.out)
    have BW := hid (bnext B12.out hB.out)
    by_cases hlt : i < N
    · obtain ⟨y, hc, hy⟩ := HCell.out i (by omega)
      obtain ⟨y', hc', hy'⟩ := HCell.out (i + 1) (by omega)
      have BB := hid (bnext B2.out hB.out)
      have hcw := (BB.out.cell (p := ⟨g, o + i, none⟩) hg).trans hc
      have CW' := hid fun W (h : Below w1.heap.size w1 W) => (h.cell (p := ⟨g, o + (i + 1), none⟩) hg).trans hc'
      have HY := hid hy; have HY' := hid hy'
      have c1 : (0 : Int) ≤ (i : Int) := by omega
      have c2 : (i : Int) < (N : Int) + 1 := by omega
      have c3 : (i : Int) + 1 < (N : Int) + 1 := by omega
      have c4 : (0 : Int) ≤ (i : Int) + 1 := by omega
      have c5 : (i : Int) < (N : Int) := by omega
      clear hc hc' hy hy'
      go_wp2_with fail
      refine (r1_Times _ _ _ _ _ (HY.out.call BB.out) (V2.out.call hB.out) (LP.out i) LT.out).mono ?_; rintro e wa ⟨⟨va, rfl, hva⟩, hba⟩
      have VA := hid hva; have BA := hid (bnext hB.out hba); have BRA := hid hba; clear hva hba hcw
      go_wp2_with fail
      refine (r1_Divide _ _ _ _ _ VA.out (Y0.out.call (bnext B2.out BA.out)) HS.out (LPT.out i)).mono ?_; rintro e wb ⟨⟨vb, ub, rfl, hvb, hub⟩, hbb⟩
      have VB := hid hvb; have UB := hid hub; have BB2 := hid (bnext BA.out hbb); have BRB := hid (bnext BRA.out hbb); clear hvb hub hbb
      go_wp2_with fail
      refine (r5_natural _ 0 (by omega)).mono ?_; rintro e wz ⟨⟨vz, rfl, hvz⟩, hbz⟩
      have VZ := hid hvz; have BZ := hid (bnext BB2.out hbz); have BRZ := hid (bnext BRB.out hbz); have UB2 := hid (UB.out.call hbz); have VB2 := hid (VB.out.call hbz); clear hvz hbz
      go_wp2_with fail
      refine (r1_Order _ _ _ _ _ UB2.out VZ.out).mono ?_; rintro e wo ⟨rfl, hbo⟩
      have BO := hid (bnext BZ.out hbo); have BRO := hid (bnext BRZ.out hbo); have VB3 := hid (VB2.out.call hbo); clear hbo
      obtain ⟨z, hz⟩ : ∃ z, ordN (pre ws i * t % S) 0 = z := ⟨_, rfl⟩
      have D1 := hid (show (z != 0) = decide (pre ws i * t % S ≠ 0) from by rw [← hz]; exact ord_zero _)
      rw [hz]
      clear hz
      cases hd1 : (z != 0)
      · have HFX : Hid (pre ws i * t / S = cntF ws t i) := by
          have := D1.out
          rw [hd1] at this
          have := of_decide_eq_false this.symm
          show _ = _
          rw [HF.out i, if_neg this, Nat.add_zero]
        have HX := hid (VB3.out.cast HFX.out)
        have BX := BO; have BRX := BRO
        have hcx := CW'.out _ (bnext B2.out BX.out)
        go_wp2_with fail
        refine (r1_Times _ _ _ _ _ (HY'.out.call (bnext B2.out BX.out)) (V2.out.call BX.out) (LP.out (i + 1)) LT.out).mono ?_; rintro e wc ⟨⟨vc, rfl, hvc⟩, hbc⟩
        have VC := hid hvc; have BC := hid (bnext BX.out hbc); have BRC := hid (bnext BRX.out hbc); have BXC := hid hbc; clear hvc hbc hcx
        go_wp2_with fail
        refine (r1_Divide _ _ _ _ _ VC.out (Y0.out.call (bnext B2.out BC.out)) HS.out (LPT.out (i + 1))).mono ?_; rintro e we ⟨⟨vE, uE, rfl, hvE, -⟩, hbe⟩
        rw [HE.out] at hvE
        have VE := hid hvE; have BE := hid (bnext BC.out hbe); have BRE := hid (bnext BRC.out hbe); have BXE0 := hid (bnext BXC.out hbe); clear hvE hbe
        go_wp2_with fail
        refine (r1_Order _ _ _ _ _ VE.out (HX.out.call BXE0.out)).mono ?_; rintro e wf ⟨rfl, hbf⟩
        have BF := hid (bnext BE.out hbf); have BRE := hid (bnext BRE.out hbf); have BXE := hid (bnext BXE0.out hbf); have VE2 := hid (VE.out.call hbf); clear hbf
        obtain ⟨z2, hz2⟩ : ∃ z2, ordN (cntE ws t i) (cntF ws t i) = z2 := ⟨_, rfl⟩
        have D2 := hid (show decide (z2 ≤ 0) = decide (cntE ws t i ≤ cntF ws t i) from by rw [← hz2]; exact pk_le)
        rw [hz2]
        clear hz2
        cases hd2 : decide (z2 ≤ 0)
        · have HLE2 : Hid (cntF ws t i ≤ cntE ws t i) := by
            have := D2.out
            rw [hd2] at this
            have := of_decide_eq_false this.symm
            show _ ≤ _
            omega
          have HCN : Hid (cntE ws t i - cntF ws t i = cnt ws t i) := (HC.out i).symm
          go_wp2_with fail
          refine (r1_MinusF _ _ _ _ _ (VE2.out) (HX.out.call BXE.out) (HLE2.out) (LE.out i)).mono ?_; rintro e wm ⟨⟨vm, rfl, hvm, hfm⟩, hbm⟩
          have hcn := HCN.out
          rw [hcn] at hvm
          obtain ⟨am, cm, rfl, -, -, -⟩ := hvm.openI
          have VM := hid hvm; have BRM := hid (bnext BRE.out hbm); have FM := hid hfm; have BRE2 := hid BRE.out.size
          clear hvm hbm hfm hcn
          obtain ⟨vs, HO0, HO1⟩ := id hO.out
          have HOO := hid HO0; have HO9 := hid HO1
          clear HO0 HO1
          go_wp2_with (at_builtin; refine wpList_append_own_at _ rfl _ _ 102 rfl w2.heap.size 77 i0 (.slice none 0 0) 1 24 Tryz.underlying102 hi hz0 hz1 hz2 rfl (by decide) _ i vs rfl ((HOO.out.kept (below_grown BRM.out none) (by cases ao0 <;> simp [Value.ownBlock])).alloc _) ⟨wm.heap.size, 0, none⟩ 1 1 [.slice am (limbs (cnt ws t i)).length cm] rfl rfl (cell_one_new wm (.slice am (limbs (cnt ws t i)).length cm) 77) (by simp [Value.oneCell']) (by unfold maxLen; omega) (by omega) (by have := hB.out.size; have := BRM.out.size; simp; omega) ?_; intro v' w5 hown hgrow _ hat; have HO5 := hid hown; have HG5 := hid hgrow; have HA5 := hid hat; clear hown hgrow hat)
          have N5 := hid (NOwn.next (f := cnt ws t) HOO.out HO9.out BRM.out VM.out BRE2.out FM.out HO5.out HG5.out HA5.out)
          have B5 := hid (own_below HOO.out hB.out BRM.out HG5.out)
          clear HO5 HG5 HA5
          go_wp2_with fail
          go_roundw
          case rel => exact ⟨i + 1, by go_num, by omega, N5, B5⟩
          case measure => simp [intOf] <;> omega
        · have HCN : Hid (cntF ws t i - cntF ws t i = cnt ws t i) := by
            have := D2.out
            rw [hd2] at this
            have := of_decide_eq_true this.symm
            show _ = _
            rw [HC.out i]
            omega
          go_wp2_with fail
          refine (r1_MinusF _ _ _ _ _ (HX.out.call BXE.out) (HX.out.call BXE.out) (Nat.le_refl _) (LF.out i)).mono ?_; rintro e wm ⟨⟨vm, rfl, hvm, hfm⟩, hbm⟩
          have hcn := HCN.out
          rw [hcn] at hvm
          obtain ⟨am, cm, rfl, -, -, -⟩ := hvm.openI
          have VM := hid hvm; have BRM := hid (bnext BRE.out hbm); have FM := hid hfm; have BRE2 := hid BRE.out.size
          clear hvm hbm hfm hcn
          obtain ⟨vs, HO0, HO1⟩ := id hO.out
          have HOO := hid HO0; have HO9 := hid HO1
          clear HO0 HO1
          go_wp2_with (at_builtin; refine wpList_append_own_at _ rfl _ _ 102 rfl w2.heap.size 77 i0 (.slice none 0 0) 1 24 Tryz.underlying102 hi hz0 hz1 hz2 rfl (by decide) _ i vs rfl ((HOO.out.kept (below_grown BRM.out none) (by cases ao0 <;> simp [Value.ownBlock])).alloc _) ⟨wm.heap.size, 0, none⟩ 1 1 [.slice am (limbs (cnt ws t i)).length cm] rfl rfl (cell_one_new wm (.slice am (limbs (cnt ws t i)).length cm) 77) (by simp [Value.oneCell']) (by unfold maxLen; omega) (by omega) (by have := hB.out.size; have := BRM.out.size; simp; omega) ?_; intro v' w5 hown hgrow _ hat; have HO5 := hid hown; have HG5 := hid hgrow; have HA5 := hid hat; clear hown hgrow hat)
          have N5 := hid (NOwn.next (f := cnt ws t) HOO.out HO9.out BRM.out VM.out BRE2.out FM.out HO5.out HG5.out HA5.out)
          have B5 := hid (own_below HOO.out hB.out BRM.out HG5.out)
          clear HO5 HG5 HA5
          go_wp2_with fail
          go_roundw
          case rel => exact ⟨i + 1, by go_num, by omega, N5, B5⟩
          case measure => simp [intOf] <;> omega
      · have HFX : Hid (pre ws i * t / S + 1 = cntF ws t i) := by
          have := D1.out
          rw [hd1] at this
          have := of_decide_eq_true this.symm
          show _ = _
          rw [HF.out i, if_pos this]
        go_wp2_with fail
        refine (r5_natural _ 1 (by omega)).mono ?_; rintro e wy ⟨⟨vy, rfl, hvy⟩, hby⟩
        have VY := hid hvy; have BY := hid (bnext BO.out hby); have BRY := hid (bnext BRO.out hby); have VB4 := hid (VB3.out.call hby); clear hvy hby
        go_wp2_with fail
        refine (r1_Plus _ _ _ _ _ VB4.out VY.out (LQ.out i) L1.out).mono ?_; rintro e wx ⟨⟨vx, rfl, hvx⟩, hbx⟩
        have HX := hid (hvx.cast HFX.out)
        have BX := hid (bnext BY.out hbx); have BRX := hid (bnext BRY.out hbx); clear hvx hbx
        have hcx := CW'.out _ (bnext B2.out BX.out)
        go_wp2_with fail
        refine (r1_Times _ _ _ _ _ (HY'.out.call (bnext B2.out BX.out)) (V2.out.call BX.out) (LP.out (i + 1)) LT.out).mono ?_; rintro e wc ⟨⟨vc, rfl, hvc⟩, hbc⟩
        have VC := hid hvc; have BC := hid (bnext BX.out hbc); have BRC := hid (bnext BRX.out hbc); have BXC := hid hbc; clear hvc hbc hcx
        go_wp2_with fail
        refine (r1_Divide _ _ _ _ _ VC.out (Y0.out.call (bnext B2.out BC.out)) HS.out (LPT.out (i + 1))).mono ?_; rintro e we ⟨⟨vE, uE, rfl, hvE, -⟩, hbe⟩
        rw [HE.out] at hvE
        have VE := hid hvE; have BE := hid (bnext BC.out hbe); have BRE := hid (bnext BRC.out hbe); have BXE0 := hid (bnext BXC.out hbe); clear hvE hbe
        go_wp2_with fail
        refine (r1_Order _ _ _ _ _ VE.out (HX.out.call BXE0.out)).mono ?_; rintro e wf ⟨rfl, hbf⟩
        have BF := hid (bnext BE.out hbf); have BRE := hid (bnext BRE.out hbf); have BXE := hid (bnext BXE0.out hbf); have VE2 := hid (VE.out.call hbf); clear hbf
        obtain ⟨z2, hz2⟩ : ∃ z2, ordN (cntE ws t i) (cntF ws t i) = z2 := ⟨_, rfl⟩
        have D2 := hid (show decide (z2 ≤ 0) = decide (cntE ws t i ≤ cntF ws t i) from by rw [← hz2]; exact pk_le)
        rw [hz2]
        clear hz2
        cases hd2 : decide (z2 ≤ 0)
        · have HLE2 : Hid (cntF ws t i ≤ cntE ws t i) := by
            have := D2.out
            rw [hd2] at this
            have := of_decide_eq_false this.symm
            show _ ≤ _
            omega
          have HCN : Hid (cntE ws t i - cntF ws t i = cnt ws t i) := (HC.out i).symm
          go_wp2_with fail
          refine (r1_MinusF _ _ _ _ _ (VE2.out) (HX.out.call BXE.out) (HLE2.out) (LE.out i)).mono ?_; rintro e wm ⟨⟨vm, rfl, hvm, hfm⟩, hbm⟩
          have hcn := HCN.out
          rw [hcn] at hvm
          obtain ⟨am, cm, rfl, -, -, -⟩ := hvm.openI
          have VM := hid hvm; have BRM := hid (bnext BRE.out hbm); have FM := hid hfm; have BRE2 := hid BRE.out.size
          clear hvm hbm hfm hcn
          obtain ⟨vs, HO0, HO1⟩ := id hO.out
          have HOO := hid HO0; have HO9 := hid HO1
          clear HO0 HO1
          go_wp2_with (at_builtin; refine wpList_append_own_at _ rfl _ _ 102 rfl w2.heap.size 77 i0 (.slice none 0 0) 1 24 Tryz.underlying102 hi hz0 hz1 hz2 rfl (by decide) _ i vs rfl ((HOO.out.kept (below_grown BRM.out none) (by cases ao0 <;> simp [Value.ownBlock])).alloc _) ⟨wm.heap.size, 0, none⟩ 1 1 [.slice am (limbs (cnt ws t i)).length cm] rfl rfl (cell_one_new wm (.slice am (limbs (cnt ws t i)).length cm) 77) (by simp [Value.oneCell']) (by unfold maxLen; omega) (by omega) (by have := hB.out.size; have := BRM.out.size; simp; omega) ?_; intro v' w5 hown hgrow _ hat; have HO5 := hid hown; have HG5 := hid hgrow; have HA5 := hid hat; clear hown hgrow hat)
          have N5 := hid (NOwn.next (f := cnt ws t) HOO.out HO9.out BRM.out VM.out BRE2.out FM.out HO5.out HG5.out HA5.out)
          have B5 := hid (own_below HOO.out hB.out BRM.out HG5.out)
          clear HO5 HG5 HA5
          go_wp2_with fail
          go_roundw
          case rel => exact ⟨i + 1, by go_num, by omega, N5, B5⟩
          case measure => simp [intOf] <;> omega
        · have HCN : Hid (cntF ws t i - cntF ws t i = cnt ws t i) := by
            have := D2.out
            rw [hd2] at this
            have := of_decide_eq_true this.symm
            show _ = _
            rw [HC.out i]
            omega
          go_wp2_with fail
          refine (r1_MinusF _ _ _ _ _ (HX.out.call BXE.out) (HX.out.call BXE.out) (Nat.le_refl _) (LF.out i)).mono ?_; rintro e wm ⟨⟨vm, rfl, hvm, hfm⟩, hbm⟩
          have hcn := HCN.out
          rw [hcn] at hvm
          obtain ⟨am, cm, rfl, -, -, -⟩ := hvm.openI
          have VM := hid hvm; have BRM := hid (bnext BRE.out hbm); have FM := hid hfm; have BRE2 := hid BRE.out.size
          clear hvm hbm hfm hcn
          obtain ⟨vs, HO0, HO1⟩ := id hO.out
          have HOO := hid HO0; have HO9 := hid HO1
          clear HO0 HO1
          go_wp2_with (at_builtin; refine wpList_append_own_at _ rfl _ _ 102 rfl w2.heap.size 77 i0 (.slice none 0 0) 1 24 Tryz.underlying102 hi hz0 hz1 hz2 rfl (by decide) _ i vs rfl ((HOO.out.kept (below_grown BRM.out none) (by cases ao0 <;> simp [Value.ownBlock])).alloc _) ⟨wm.heap.size, 0, none⟩ 1 1 [.slice am (limbs (cnt ws t i)).length cm] rfl rfl (cell_one_new wm (.slice am (limbs (cnt ws t i)).length cm) 77) (by simp [Value.oneCell']) (by unfold maxLen; omega) (by omega) (by have := hB.out.size; have := BRM.out.size; simp; omega) ?_; intro v' w5 hown hgrow _ hat; have HO5 := hid hown; have HG5 := hid hgrow; have HA5 := hid hat; clear hown hgrow hat)
          have N5 := hid (NOwn.next (f := cnt ws t) HOO.out HO9.out BRM.out VM.out BRE2.out FM.out HO5.out HG5.out HA5.out)
          have B5 := hid (own_below HOO.out hB.out BRM.out HG5.out)
          clear HO5 HG5 HA5
          go_wp2_with fail
          go_roundw
          case rel => exact ⟨i + 1, by go_num, by omega, N5, B5⟩
          case measure => simp [intOf] <;> omega
    · obtain rfl : i = N := by omega
      go_wp2_with fail
      go_ret
      exact ⟨⟨_, rfl, hO.out.row⟩, BW.out⟩
end Go.Proofs.YtjgcjjbnnlnilaaGreatDoor

/- Plain: what a map of texts holds, as a list of pairs, sorted by key; what pick.law's map holds. -/
namespace Go.Proofs.YtjgcjjbnnlnilaaGreatDoor
open Go.RowKit Go.Maps
open Go.Lib (decDigits nDigits)
set_option linter.unusedVariables false

/-- A pair's key, as bytes. -/
def keyL (p : ByteArray × ByteArray) : List UInt8 := p.1.data.toList

/-- D holds the pairs of L and no others. -/
structure Reads {H : Type} (D : DataW H) (L : List (ByteArray × ByteArray)) : Prop where
  map : IsMap D
  nd : (L.map keyL).Nodup
  has : ∀ k : List UInt8, Maps.has D (.string k) = true ↔ k ∈ L.map keyL
  look : ∀ p ∈ L, ∀ z, D.atKey (.string (keyL p)) z = .lit (.string p.2.data.toList)

theorem Reads.nil {H : Type} : Reads (.map [] : DataW H) [] :=
  ⟨isMap_empty, by simp, fun k => by simp [Maps.has_eq], fun p h => by simp at h⟩

theorem Reads.put {H : Type} {D : DataW H} {L : List (ByteArray × ByteArray)} (h : Reads D L) {k v : ByteArray} (hk : k.data.toList ∉ L.map keyL) :
    Reads (D.put (.string k.data.toList) (.lit (.string v.data.toList))) (L ++ [(k, v)]) := by
  refine ⟨h.map.put _ _, ?_, fun x => ?_, fun p hp z => ?_⟩
  · rw [List.map_append]
    refine List.nodup_append.2 ⟨h.nd, by simp, fun a ha b hb => ?_⟩
    simp [keyL] at hb
    subst hb
    exact fun e => hk (e ▸ ha)
  · rw [List.map_append, List.mem_append, ← h.has x]
    by_cases hx : x = k.data.toList
    · subst hx
      rw [has_put_same h.map (show WideAt.IsKeyLit (.string k.data.toList) from trivial)]
      simp [keyL]
    · rw [has_put_other (fun e => hx (by injection e))]
      simp [keyL, hx]
  · rcases List.mem_append.1 hp with hp | hp
    · rw [atKey_put_other (fun e => hk ?_), h.look p hp]
      injection e with e
      rw [← e]
      exact List.mem_map_of_mem hp
    · simp at hp
      subst hp
      exact atKey_put_same h.map (show WideAt.IsKeyLit (.string k.data.toList) from trivial) _ _

/-- Pairs by their keys. -/
def sortM (L : List (ByteArray × ByteArray)) : List (ByteArray × ByteArray) := L.mergeSort (fun p q => leB (keyL p) (keyL q))
theorem sortM_keys (L : List (ByteArray × ByteArray)) : (sortM L).map keyL = (L.map keyL).mergeSort leB := List.map_mergeSort (fun _ _ _ _ => rfl)
theorem sortM_mem {L : List (ByteArray × ByteArray)} {p : ByteArray × ByteArray} : p ∈ sortM L ↔ p ∈ L := List.mem_mergeSort
theorem sortM_length (L : List (ByteArray × ByteArray)) : (sortM L).length = L.length := List.length_mergeSort L
theorem leB_trans : ∀ a b c : List UInt8, leB a b = true → leB b c = true → leB a c = true := fun a b c h1 h2 => by simp only [leB, decide_eq_true_eq] at *; exact List.le_trans h1 h2
theorem leB_total : ∀ a b : List UInt8, (leB a b || leB b a) = true := fun a b => by simp only [leB, Bool.or_eq_true, decide_eq_true_eq]; exact List.le_total a b
theorem sortM_sorted (L : List (ByteArray × ByteArray)) : (sortM L).Pairwise (fun p q => leB (keyL p) (keyL q) = true) :=
  List.pairwise_mergeSort (le := fun p q => leB (keyL p) (keyL q)) (fun a b c => leB_trans (keyL a) (keyL b) (keyL c)) (fun a b => leB_total (keyL a) (keyL b)) L

/-- The datum's keys, sorted, are the pairs' keys, sorted. -/
theorem Reads.keys {H : Type} {P : Program} {k : TypeId} {R : Value → Option (DataW H × List MemPlace)} {w : World} {b n : Nat} {D : DataW H} {L : List (ByteArray × ByteArray)} (h : Reads D L) (hown : w.ownsMap P k R b n D) (K : Keyed P k) (hk : P.underlying k = some .string) {ss : List (List UInt8)} (hp : ss.Perm (strKeys D)) :
    ss.mergeSort leB = (sortM L).map keyL := by
  have hc : Collected D (fun _ => false) (L.map keyL) := ⟨h.nd, fun x => by rw [h.has x]; simp⟩
  have hp2 := hc.perm hown K hk (fun _ => rfl)
  rw [sortM_keys]
  exact mergeSort_of_perm (hp.trans hp2.symm)
theorem Reads.size {H : Type} {P : Program} {k : TypeId} {R : Value → Option (DataW H × List MemPlace)} {w : World} {b n : Nat} {D : DataW H} {L : List (ByteArray × ByteArray)} (h : Reads D L) (hown : w.ownsMap P k R b n D) (K : Keyed P k) (hk : P.underlying k = some .string) :
    Maps.size D = L.length := by
  have hc : Collected D (fun _ => false) (L.map keyL) := ⟨h.nd, fun x => by rw [h.has x]; simp⟩
  have hp2 := hc.perm hown K hk (fun _ => rfl)
  have := hp2.length_eq
  rw [List.length_map] at this
  rw [this]
  obtain ⟨es, rfl⟩ := h.map
  simp [strKeys, Maps.size]

/-- The cells of some masses. -/
def massC (L : List (ByteArray × ByteArray)) : List Value := L.flatMap (fun p => [.string p.1, .string p.2])
theorem massC_length (L : List (ByteArray × ByteArray)) : (massC L).length = L.length * 2 := by
  unfold massC
  induction L with
  | nil => rfl
  | cons p r ih => rw [List.flatMap_cons, List.length_append, ih, List.length_cons]; simp; omega
theorem massC_append (L M : List (ByteArray × ByteArray)) : massC (L ++ M) = massC L ++ massC M := by simp [massC]
theorem massC_get {L : List (ByteArray × ByteArray)} : ∀ {i : Nat} {p : ByteArray × ByteArray}, L[i]? = some p → (massC L)[2 * i]? = some (.string p.1) ∧ (massC L)[2 * i + 1]? = some (.string p.2) := by
  induction L with
  | nil => intro i p h; simp at h
  | cons q r ih =>
    intro i p h
    cases i with
    | zero => simp at h; subst h; exact ⟨rfl, rfl⟩
    | succ i =>
      have h' : r[i]? = some p := by simpa using h
      obtain ⟨h1, h2⟩ := ih h'
      have e : massC (q :: r) = [.string q.1, .string q.2] ++ massC r := rfl
      rw [e, show 2 * (i + 1) = 2 + 2 * i by omega]
      constructor
      · rw [List.getElem?_append_right (by simp)]; simpa using h1
      · rw [List.getElem?_append_right (by simp <;> omega)]
        simp only [List.length_cons, List.length_nil]
        rw [show 2 + 2 * i + 1 - (0 + 1 + 1) = 2 * i + 1 by omega]
        exact h2

theorem MRow.of_owns {w : World} {base n : Nat} {e : TypeId} {v : Value} {L : List (ByteArray × ByteArray)} (h : w.ownsRow base e 2 v n (massC L)) : MRow w v L := by
  have hn : n = L.length := by have := h.1; rw [massC_length] at this; omega
  subst hn
  refine ⟨?_⟩
  have hh := h
  rcases h.2 with ⟨rfl, h0⟩ | ⟨g, cap, cur, rfl, hb, hg, h1, h2, h3, h4⟩
  · exact ⟨none, 0, by rw [h0], by omega, by omega, fun i x hx => by have := (List.getElem?_eq_some_iff.1 hx).1; omega⟩
  · refine ⟨some ⟨g, 0, none⟩, cap, rfl, h1, by unfold maxLen at h2; exact h2, fun i x hx => ⟨g, 0, rfl, (Array.getElem?_eq_some_iff.1 hg).1, ?_⟩⟩
    obtain ⟨m1, m2⟩ := massC_get hx
    have k1 := hh.cells rfl _ _ m1
    have k2 := hh.cells rfl _ _ m2
    rw [Addr.add_lit] at k1 k2
    rw [← Nat.add_assoc] at k2
    exact ⟨k1, k2⟩

/-- The pairs of pick.law's map behind i indexes. -/
def lawL (ws : List Nat) (t : Nat) : Nat → List (ByteArray × ByteArray)
  | 0 => []
  | i + 1 => if cntF ws t i < cntE ws t i then lawL ws t i ++ [(numB i, shB (cnt ws t i) t)] else lawL ws t i
/-- All of them. -/
def lawP (ws : List Nat) (t N : Nat) : List (ByteArray × ByteArray) := if t - lwS ws t N = 0 then lawL ws t N else lawL ws t N ++ [(lateB, shB (t - lwS ws t N) t)]

theorem lawL_mem {ws : List Nat} {t : Nat} {p : ByteArray × ByteArray} : ∀ {N : Nat}, p ∈ lawL ws t N ↔ ∃ i, i < N ∧ cntF ws t i < cntE ws t i ∧ p = (numB i, shB (cnt ws t i) t)
  | 0 => by simp [lawL]
  | N + 1 => by
    unfold lawL
    have ih := @lawL_mem ws t p N
    by_cases h : cntF ws t N < cntE ws t N
    · rw [if_pos h, List.mem_append, ih, List.mem_singleton]
      constructor
      · rintro (⟨i, h1, h2, h3⟩ | rfl)
        · exact ⟨i, by omega, h2, h3⟩
        · exact ⟨N, by omega, h, rfl⟩
      · rintro ⟨i, h1, h2, h3⟩
        rcases Nat.lt_or_ge i N with h4 | h4
        · exact .inl ⟨i, h4, h2, h3⟩
        · obtain rfl : i = N := by omega
          exact .inr h3
    · rw [if_neg h, ih]
      constructor
      · rintro ⟨i, h1, h2, h3⟩
        exact ⟨i, by omega, h2, h3⟩
      · rintro ⟨i, h1, h2, h3⟩
        rcases Nat.lt_or_ge i N with h4 | h4
        · exact ⟨i, h4, h2, h3⟩
        · obtain rfl : i = N := by omega
          exact absurd h2 h

theorem lawL_length (ws : List Nat) (t : Nat) : ∀ N, (lawL ws t N).length ≤ N
  | 0 => by simp [lawL]
  | N + 1 => by
    unfold lawL
    have := lawL_length ws t N
    split <;> simp <;> omega
theorem lawP_length (ws : List Nat) (t N : Nat) : (lawP ws t N).length ≤ N + 1 := by
  unfold lawP
  have := lawL_length ws t N
  split <;> simp <;> omega

theorem numB_late (i : Nat) : (numB i).data.toList ≠ lateB.data.toList := by
  intro e
  have h : (108 : UInt8) ∈ decDigits i := by
    rw [← numB_list, e]; decide
  exact absurd (allDig_dec i 108 h) (by decide)

theorem reads_lawD {H : Type} (ws : List Nat) (t : Nat) : ∀ N, Reads (lawD (H := H) ws t N) (lawL ws t N)
  | 0 => Reads.nil
  | N + 1 => by
    have ih := reads_lawD (H := H) ws t N
    unfold lawD lawL
    by_cases h : cntF ws t N < cntE ws t N
    · rw [if_pos h, if_pos h]
      refine ih.put fun hm => ?_
      obtain ⟨p, hp, he⟩ := List.mem_map.1 hm
      obtain ⟨i, h1, -, rfl⟩ := lawL_mem.1 hp
      simp only [keyL, numB_list] at he
      have := dec_inj he
      omega
    · rw [if_neg h, if_neg h]; exact ih
theorem reads_lawM {H : Type} (ws : List Nat) (t N : Nat) : Reads (lawM (H := H) ws t N) (lawP ws t N) := by
  have ih := reads_lawD (H := H) ws t N
  unfold lawM lawP
  by_cases h : t - lwS ws t N = 0
  · rw [if_pos h, if_pos h]; exact ih
  · rw [if_neg h, if_neg h]
    refine ih.put (k := lateB) fun hm => ?_
    obtain ⟨p, hp, he⟩ := List.mem_map.1 hm
    obtain ⟨i, h1, -, rfl⟩ := lawL_mem.1 hp
    exact numB_late i he
end Go.Proofs.YtjgcjjbnnlnilaaGreatDoor

/-
  DERIVED: THE SHELF's CONTRACTS AT THIS DUMP, IN PLAIN WORDS (tools/lay-plain.mjs out of 'YtjgcjjbnnlnilaaGreatDoorShK.lean', which tools/lay-shelf.mjs wrote): THE SAME DECLARATIONS UNDER THE SAME NAMES: 'import', 'namespace', 'open', 'def', 'theorem' AND NOTHING ELSE: no command of the shelf's: FOR A HAND-IN. Each laying: the table of numbers ('.._ren') and one theorem, a field a fact of the dump's own or the kernel's comparison; each contract: ONE APPLICATION.
-/
namespace Go.Proofs
open Go.Shelf
def Tryz.keysK_ren : Go.Shelf.Ren := ⟨fun | 7 => 111 | 10 => 155 | n => n, fun | 23 => 80 | 26 => 9 | 3 => 23 | 28 => 139 | 0 => 0 | 27 => 138 | 33 => 149 | 4 => 4 | n => n, fun | n => n⟩
theorem Tryz.keysK : Go.Proofs.SlLaysZ.n7 Tryz.prog Tryz.keysK_ren := {
  mixed := by kernel_rfl
  f7 := ⟨Tryz.f111.name, by decide, Tryz.func111.trans (congrArg some (by kernel_rfl))⟩
  f10 := ⟨Tryz.f155.name, by decide, Tryz.func155.trans (congrArg some (by kernel_rfl))⟩
  t0 := Tryz.underlying0
  a0 := Tryz.isAgg0
  z0 := Tryz.sizeOf0
  v0 := Tryz.zeroValue0
  t4 := Tryz.underlying4
  a4 := Tryz.isAgg4
  z4 := Tryz.sizeOf4
  v4 := Tryz.zeroValue4
  t23 := Tryz.underlying80
  a23 := Tryz.isAgg80
  z23 := Tryz.sizeOf80
  v23 := Tryz.zeroValue80
  t26 := Tryz.underlying9
  a26 := Tryz.isAgg9
  z26 := Tryz.sizeOf9
  v26 := Tryz.zeroValue9
  t27 := Tryz.underlying138
  a27 := Tryz.isAgg138
  z27 := Tryz.sizeOf138
  v27 := Tryz.zeroValue138
  t28 := Tryz.underlying139
  a28 := Tryz.isAgg139
  z28 := Tryz.sizeOf139
  v28 := Tryz.zeroValue139
  t33 := Tryz.underlying149
  a33 := Tryz.isAgg149
  z33 := Tryz.sizeOf149
  v33 := Tryz.zeroValue149 }
def Tryz.sortedK_ren : Go.Shelf.Ren := ⟨fun | 6 => 110 | 8 => 153 | 9 => 154 | 11 => 185 | 13 => 187 | 12 => 186 | 23 => 212 | 24 => 196 | 14 => 203 | 15 => 204 | 16 => 205 | 17 => 206 | 18 => 207 | 19 => 208 | 20 => 209 | 21 => 210 | 22 => 211 | 25 => 219 | 26 => 220 | 27 => 221 | 28 => 222 | 29 => 223 | 30 => 224 | 31 => 229 | n => n, fun | 26 => 9 | 28 => 139 | 24 => 136 | 0 => 0 | 3 => 3 | 37 => 119 | 48 => 216 | 50 => 159 | 4 => 4 | 40 => 226 | 39 => 225 | 45 => 118 | 5 => 5 | 9 => 9 | 51 => 237 | 55 => 241 | 57 => 252 | 58 => 253 | 33 => 149 | n => n, fun | n => n⟩
theorem Tryz.sortedK : Go.Proofs.SlLaysZ.n6 Tryz.prog Tryz.sortedK_ren := {
  mixed := by kernel_rfl
  f6 := ⟨Tryz.f110.name, by decide, Tryz.func110.trans (congrArg some (by kernel_rfl))⟩
  f8 := ⟨Tryz.f153.name, by decide, Tryz.func153.trans (congrArg some (by kernel_rfl))⟩
  f11 := ⟨Tryz.f185.name, by decide, Tryz.func185.trans (congrArg some (by kernel_rfl))⟩
  t0 := Tryz.underlying0
  a0 := Tryz.isAgg0
  z0 := Tryz.sizeOf0
  v0 := Tryz.zeroValue0
  t24 := Tryz.underlying136
  a24 := Tryz.isAgg136
  z24 := Tryz.sizeOf136
  v24 := Tryz.zeroValue136
  t26 := Tryz.underlying9
  a26 := Tryz.isAgg9
  z26 := Tryz.sizeOf9
  v26 := Tryz.zeroValue9
  t28 := Tryz.underlying139
  a28 := Tryz.isAgg139
  z28 := Tryz.sizeOf139
  v28 := Tryz.zeroValue139
  i26 := by kernel_rfl }
def Tryz.sortK_ren : Go.Shelf.Ren := ⟨fun | 6 => 154 | 8 => 187 | 9 => 186 | 19 => 212 | 20 => 196 | 21 => 203 | 22 => 204 | 23 => 205 | 24 => 206 | 25 => 207 | 26 => 208 | 27 => 209 | 28 => 210 | 29 => 211 | 36 => 219 | 31 => 220 | 32 => 221 | 37 => 222 | 38 => 223 | 39 => 224 | 41 => 229 | n => n, fun | 27 => 136 | 29 => 9 | 3 => 3 | 32 => 119 | 26 => 136 | 0 => 0 | 44 => 216 | 46 => 159 | 4 => 4 | 36 => 226 | 35 => 225 | 41 => 118 | 5 => 5 | 9 => 9 | 53 => 237 | 57 => 241 | 63 => 252 | 64 => 253 | n => n, fun | n => n⟩
theorem Tryz.sortK : Go.Proofs.SlLaysM.n6 Tryz.prog Tryz.sortK_ren := {
  mixed := by kernel_rfl
  f6 := ⟨Tryz.f154.name, by decide, Tryz.func154.trans (congrArg some (by kernel_rfl))⟩
  f8 := Tryz.func187.trans (congrArg some (by kernel_rfl))
  f9 := ⟨Tryz.f186.name, by decide, Tryz.func186.trans (congrArg some (by kernel_rfl))⟩
  f19 := Tryz.func212.trans (congrArg some (by kernel_rfl))
  f20 := Tryz.func196.trans (congrArg some (by kernel_rfl))
  f21 := ⟨Tryz.f203.name, by decide, Tryz.func203.trans (congrArg some (by kernel_rfl))⟩
  f22 := ⟨Tryz.f204.name, by decide, Tryz.func204.trans (congrArg some (by kernel_rfl))⟩
  f23 := ⟨Tryz.f205.name, by decide, Tryz.func205.trans (congrArg some (by kernel_rfl))⟩
  f24 := ⟨Tryz.f206.name, by decide, Tryz.func206.trans (congrArg some (by kernel_rfl))⟩
  f25 := ⟨Tryz.f207.name, by decide, Tryz.func207.trans (congrArg some (by kernel_rfl))⟩
  f26 := ⟨Tryz.f208.name, by decide, Tryz.func208.trans (congrArg some (by kernel_rfl))⟩
  f27 := ⟨Tryz.f209.name, by decide, Tryz.func209.trans (congrArg some (by kernel_rfl))⟩
  f28 := ⟨Tryz.f210.name, by decide, Tryz.func210.trans (congrArg some (by kernel_rfl))⟩
  f29 := ⟨Tryz.f211.name, by decide, Tryz.func211.trans (congrArg some (by kernel_rfl))⟩
  f31 := Tryz.func220.trans (congrArg some (by kernel_rfl))
  f32 := Tryz.func221.trans (congrArg some (by kernel_rfl))
  f36 := ⟨Tryz.f219.name, by decide, Tryz.func219.trans (congrArg some (by kernel_rfl))⟩
  f37 := ⟨Tryz.f222.name, by decide, Tryz.func222.trans (congrArg some (by kernel_rfl))⟩
  f38 := ⟨Tryz.f223.name, by decide, Tryz.func223.trans (congrArg some (by kernel_rfl))⟩
  f39 := ⟨Tryz.f224.name, by decide, Tryz.func224.trans (congrArg some (by kernel_rfl))⟩
  f41 := ⟨Tryz.f229.name, by decide, Tryz.func229.trans (congrArg some (by kernel_rfl))⟩
  t0 := Tryz.underlying0
  a0 := Tryz.isAgg0
  z0 := Tryz.sizeOf0
  v0 := Tryz.zeroValue0
  t3 := Tryz.underlying3
  a3 := Tryz.isAgg3
  z3 := Tryz.sizeOf3
  v3 := Tryz.zeroValue3
  t4 := Tryz.underlying4
  a4 := Tryz.isAgg4
  z4 := Tryz.sizeOf4
  v4 := Tryz.zeroValue4
  t5 := Tryz.underlying5
  a5 := Tryz.isAgg5
  z5 := Tryz.sizeOf5
  v5 := Tryz.zeroValue5
  t9 := Tryz.underlying9
  a9 := Tryz.isAgg9
  z9 := Tryz.sizeOf9
  v9 := Tryz.zeroValue9
  t26 := Tryz.underlying136
  a26 := Tryz.isAgg136
  z26 := Tryz.sizeOf136
  v26 := Tryz.zeroValue136
  t27 := Tryz.underlying136
  a27 := Tryz.isAgg136
  z27 := Tryz.sizeOf136
  v27 := Tryz.zeroValue136
  t29 := Tryz.underlying9
  a29 := Tryz.isAgg9
  z29 := Tryz.sizeOf9
  v29 := Tryz.zeroValue9
  t32 := Tryz.underlying119
  a32 := Tryz.isAgg119
  z32 := Tryz.sizeOf119
  v32 := Tryz.zeroValue119
  t35 := Tryz.underlying225
  a35 := Tryz.isAgg225
  z35 := Tryz.sizeOf225
  v35 := Tryz.zeroValue225
  t36 := Tryz.underlying226
  a36 := Tryz.isAgg226
  z36 := Tryz.sizeOf226
  v36 := Tryz.zeroValue226
  t41 := Tryz.underlying118
  a41 := Tryz.isAgg118
  z41 := Tryz.sizeOf118
  v41 := Tryz.zeroValue118
  t44 := Tryz.underlying216
  a44 := Tryz.isAgg216
  z44 := Tryz.sizeOf216
  v44 := Tryz.zeroValue216
  t46 := Tryz.underlying159
  a46 := Tryz.isAgg159
  z46 := Tryz.sizeOf159
  v46 := Tryz.zeroValue159
  t53 := Tryz.underlying237
  a53 := Tryz.isAgg237
  z53 := Tryz.sizeOf237
  v53 := Tryz.zeroValue237
  t57 := Tryz.underlying241
  a57 := Tryz.isAgg241
  z57 := Tryz.sizeOf241
  v57 := Tryz.zeroValue241
  t63 := Tryz.underlying252
  a63 := Tryz.isAgg252
  z63 := Tryz.sizeOf252
  v63 := Tryz.zeroValue252
  t64 := Tryz.underlying253
  a64 := Tryz.isAgg253
  z64 := Tryz.sizeOf253
  v64 := Tryz.zeroValue253 }
end Go.Proofs
