/- Texts that the proof rests on, merged: Pn1, Cm1, PlM, Ch6, KoS, ChL, Pc0, Pn2, QO, Pn3, Pn4, Pn6, Fr1b, QC, LtP, Fr2, FrC, RtW, Rt4i, Rt5, RtC, ChLt, R2m, Rb1. -/
import Derived.Test.YtpehhgkghgbhiaaGreatDoorKj8
namespace Go.Proofs.YtpehhgkghgbhiaaGreatDoor
open Go.RowKit Go.Shelf Go.Maps
open Go.Lib (decDigits nDigits)
set_option linter.unusedVariables false
set_option linter.unusedSimpArgs false
/-- The pairs of the exact distribution behind i indexes, as a map, as a list. -/
def exD {H : Type} (ws : List Nat) (S : Nat) : Nat → DataW H
  | 0 => .map []
  | i + 1 => if ws.getD i 0 ≠ 0 then (exD ws S i).put (.string (numB i).data.toList) (.lit (.string (shB (ws.getD i 0) S).data.toList)) else exD ws S i
def exL (ws : List Nat) (S : Nat) : Nat → List (ByteArray × ByteArray)
  | 0 => []
  | i + 1 => if ws.getD i 0 ≠ 0 then exL ws S i ++ [(numB i, shB (ws.getD i 0) S)] else exL ws S i
theorem exL_mem {ws : List Nat} {S : Nat} {p : ByteArray × ByteArray} : ∀ {N : Nat}, p ∈ exL ws S N ↔ ∃ i, i < N ∧ ws.getD i 0 ≠ 0 ∧ p = (numB i, shB (ws.getD i 0) S)
  | 0 => by simp [exL]
  | N + 1 => by
    unfold exL
    have ih := @exL_mem ws S p N
    by_cases h : ws.getD N 0 ≠ 0
    · rw [if_pos h, List.mem_append, ih, List.mem_singleton]
      constructor
      · rintro (⟨i, h1, h2, h3⟩ | rfl)
        · exact ⟨i, by omega, h2, h3⟩
        · exact ⟨N, by omega, h, rfl⟩
      · rintro ⟨i, h1, h2, h3⟩
        rcases Nat.lt_or_ge i N with h4 | h4
        · exact .inl ⟨i, h4, h2, h3⟩
        · obtain rfl : i = N := by omega
          exact .inr h3
    · rw [if_neg h, ih]
      constructor
      · rintro ⟨i, h1, h2, h3⟩
        exact ⟨i, by omega, h2, h3⟩
      · rintro ⟨i, h1, h2, h3⟩
        rcases Nat.lt_or_ge i N with h4 | h4
        · exact ⟨i, h4, h2, h3⟩
        · obtain rfl : i = N := by omega
          exact absurd h2 h
theorem exL_length (ws : List Nat) (S : Nat) : ∀ N, (exL ws S N).length ≤ N
  | 0 => by simp [exL]
  | N + 1 => by
    unfold exL
    have := exL_length ws S N
    split <;> simp <;> omega
theorem reads_exD {H : Type} (ws : List Nat) (S : Nat) : ∀ N, Reads (exD (H := H) ws S N) (exL ws S N)
  | 0 => Reads.nil
  | N + 1 => by
    have ih := reads_exD (H := H) ws S N
    unfold exD exL
    by_cases h : ws.getD N 0 ≠ 0
    · rw [if_pos h, if_pos h]
      refine ih.put fun hm => ?_
      obtain ⟨p, hp, he⟩ := List.mem_map.1 hm
      obtain ⟨i, h1, -, rfl⟩ := exL_mem.1 hp
      simp only [keyL, numB_list] at he
      have := dec_inj he
      omega
    · rw [if_neg h, if_neg h]; exact ih
theorem exL_keys {ws : List Nat} {S N : Nat} (hN : N ≤ 64) : ∀ p ∈ exL ws S N, (keyL p).length ≤ 1000 := fun p hp => by
  obtain ⟨i, h1, -, rfl⟩ := exL_mem.1 hp
  have := nDigits_le (n := i) (k := 2) (by omega) (by omega)
  simp only [keyL, numB_list, Lib.decDigits_length]
  omega
/-- The exact distribution. -/
def exR (l : List ByteArray) : List (ByteArray × ByteArray) := if wsE l = 0 then sortM (exL (l.map bN) (l.map bN).sum l.length) else []
set_option maxRecDepth 100000 in
set_option maxHeartbeats 4000000 in
theorem p_Exact (w : World) (v : Value) (l : List ByteArray) (hv : Row w v (strs l)) (hl : ∀ x ∈ l, x.size ≤ 1000000) (hL : Lay w) :
    Calls Tryz.prog 36 #[v] w fun e w' => (∃ u, e = .returned (.tuple #[u, .int .i64 (wsE l)]) ∧ MRow w' u (exR l)) ∧ Below w.heap.size w w' := by
  have PC := hid (p_check w v l hv hl)
  have HL := hid hL; have HV := hid hv
  by_cases he : wsE l = 0
  · obtain ⟨D1, D2, D3⟩ := wsE_ok he
    have hS := wsE_pos he
    have er : exR l = sortM (exL (l.map bN) (l.map bN).sum l.length) := by rw [exR, if_pos he]
    rw [er, he]
    rw [he] at PC
    have PE := fun V hV hLV => hid (p_ends V v (l.map bN) D2 hV hLV)
    obtain ⟨a, c, rfl, q1, q2, -⟩ := hv.openS
    obtain ⟨N, hN⟩ : ∃ N, l.length = N := ⟨_, rfl⟩
    have HN := hid hN
    obtain ⟨ws, hws⟩ : ∃ ws, l.map bN = ws := ⟨_, rfl⟩
    have hlen : ws.length = N := by rw [← hws, List.length_map]; exact hN
    rw [hws] at PE D1 D2 hS ⊢
    rw [hN] at PE PC HV q1 D3 ⊢
    obtain ⟨m, rfl⟩ : ∃ m, N = m + 1 := ⟨N - 1, by omega⟩
    have hm : m < 64 := by have := D2.len; omega
    have HD1 := hid D1; have HWS := hid D2; have HLEN := hid hlen; have HPOS := hid hS
    have hmm := @run_makeMap Tryz.prog
    clear hv hl hL D1 D2 D3 hlen hS hN hws er he
    go_enter Tryz.func36, Tryz.ntmps36
    go_wp2_with fail
    refine PC.out.mono ?_; rintro e w1 ⟨rfl, hb1⟩
    have y1 := hid hb1; clear hb1
    go_wp2_with fail
    refine (PE _ (by rw [← HD1.out]; exact HV.out.call y1.out) (HL.out.call y1.out)).out.mono ?_; rintro e w2 ⟨⟨u, rfl, hu⟩, hb2⟩
    have y2 := hid (bnext y1.out hb2)
    have hu2 := hid hu
    obtain ⟨a5, c5, rfl, r1, r2, r3⟩ := hu.openS
    rw [endL_length] at hu2 r1 ⊢
    obtain ⟨g, o, rfl, hg, hc⟩ := r3 m _ (endL_get (by rw [HLEN.out]; omega))
    rw [pre_all (by rw [HLEN.out]; omega)] at hc
    rw [HLEN.out] at r1 ⊢
    obtain ⟨S0, hS0⟩ : ∃ s, numB ws.sum = s := ⟨_, rfl⟩
    have HS0 := hid hS0
    rw [hS0] at hc
    have HG := hid hg; have HC := hid hc
    clear hb2 hu hu2 r3 hS0 hg hc
    go_wp2_with fail
    have M0 := World.ownsMap_made (H := Unit) w2 Tryz.prog 9 (plainElem Tryz.prog 23)
    have B0 := hid ((Below.refl w2.heap.size w2).alloc (Nat.le_refl _) (.map #[] 0))
    obtain ⟨B, hB⟩ : ∃ B, w2.heap.size = B := ⟨_, rfl⟩
    rw [hB] at M0 ⊢
    have hgB : g < B := by rw [← hB]; exact HG.out
    have HB := hid hB
    have HM0 := hid M0
    clear M0 hB
    go_loopw [19] (fun s19 wr => ∃ i : Nat, s19 = .int .i64 (i : Nat) ∧ i ≤ m + 1 ∧ Hid (wr.ownsMap Tryz.prog 9 (plainElem (H := Unit) Tryz.prog 23) B i (exD ws ws.sum i)) ∧ Hid (Below w2.heap.size w2 wr)) (fun s19 wr => m + 1 - (intOf s19).toNat)
    case atStart => exact ⟨0, rfl, Nat.zero_le _, HM0, B0⟩
    case round =>
      obtain ⟨i, rfl, hi, hM, hW⟩ := hrel
      have yr := hid (bnext y2.out hW.out)
      by_cases hlt : i < m + 1
      · obtain ⟨x, hx⟩ : ∃ x, ws[i]? = some x := ⟨_, List.getElem?_eq_getElem (by rw [HLEN.out]; exact hlt)⟩
        obtain ⟨g', o', rfl, hg', hc'⟩ := HV.out.at (strs_get (show l[i]? = some (numB x) by rw [HD1.out, List.getElem?_map, hx]; rfl))
        have hc2 := (yr.out.cell (p := ⟨g', o' + i, none⟩) hg').trans hc'
        have hgd : ws.getD i 0 = x := by rw [List.getD_eq_getElem?_getD, hx]; rfl
        have hxd := HWS.out.dig x (List.mem_of_getElem? hx)
        have b1 : (0 : Int) ≤ (i : Int) := by omega
        have b2 : (i : Int) < (m : Int) + 1 := by omega
        have wi : IntKind.i64.wrap ((i : Int) + 1) = ((i + 1 : Nat) : Int) := by rw [IntWalk.i64_in _ ⟨by omega, by omega⟩]; omega
        obtain ⟨X0, hX0⟩ : ∃ s, numB x = s := ⟨_, rfl⟩
        rw [hX0] at hc2
        have HX0 := hid hX0; have HGD := hid hgd
        by_cases h0 : x = 0
        · have e0 : X0 = ⟨#[48]⟩ := by rw [← hX0, h0, numB_zero]
          subst e0
          have eD : Hid (exD (H := Unit) ws ws.sum (i + 1) = exD ws ws.sum i) := by show exD ws ws.sum (i + 1) = _; rw [exD, if_neg (by rw [hgd, h0]; simp)]
          clear hX0 hgd h0 hx hc' hg'
          go_wp2_with fail
          go_roundw
          case rel => exact ⟨i + 1, rfl, by omega, by rw [eD.out]; exact hM.out.mono (Nat.le_succ _), hW⟩
          case measure => simp [intOf] <;> omega
        · have hne := ne_lit (show ¬ X0 = ⟨[48].toArray⟩ by rw [← hX0, ← numB_zero]; exact numB_ne h0)
          have eD : Hid (exD (H := Unit) ws ws.sum (i + 1) = (exD ws ws.sum i).put (.string (numB i).data.toList) (.lit (.string (shB x ws.sum).data.toList))) := by show exD ws ws.sum (i + 1) = _; rw [exD, if_pos (by rw [hgd]; exact h0), hgd]
          have nS := HWS.out.sum
          have C1 := fun V hV => hid (s_Itoa V i (by omega) hV)
          have C2 := fun V hV => hid (pk_make V x ws.sum (by omega) (by omega) (by have := HPOS.out; omega) hV)
          obtain ⟨I0, hI0⟩ : ∃ s, numB i = s := ⟨_, rfl⟩
          obtain ⟨J0, hJ0⟩ : ∃ s, shB x ws.sum = s := ⟨_, rfl⟩
          obtain ⟨oe, hoe⟩ : ∃ s, outE (qmk false x ws.sum) = s := ⟨_, rfl⟩
          rw [hI0] at C1
          rw [hX0, HS0.out, hJ0, hoe] at C2
          have HI0 := hid hI0; have HJ0 := hid hJ0
          have e1 : IntKind.i64.wrap (((m + 1 : Nat) : Int) - 1) = (m : Int) := by rw [IntWalk.i64_in _ ⟨by omega, by omega⟩]; omega
          have e2 : IntKind.i64.wrap ((m : Int) + 1 - 1) = (m : Int) := by rw [IntWalk.i64_in _ ⟨by omega, by omega⟩]; omega
          have e3 : IntKind.i64.wrap (m : Int) = (m : Int) := by rw [IntWalk.i64_in _ ⟨by omega, by omega⟩]
          have b3 : (0 : Int) ≤ (m : Int) := by omega
          have b4 : (m : Int) < (m : Int) + 1 := by omega
          have KK : Hid (∀ w', Below w2.heap.size w2 w' → w'.cell? ⟨g, o + m, none⟩ = some (.string S0)) := fun w' hb => (hb.cell (p := ⟨g, o + m, none⟩) HG.out).trans HC.out
          clear hX0 hgd h0 hx hc' hg' hI0 hJ0 hoe nS
          go_wp2_with fail
          refine held_plain [0, 1, 3, 4, 5, 6, 7, 8, 9] 6 (fun w' => w'.cell? ⟨g, o + m, none⟩ = some (.string S0)) (by kernel_rfl) (by kernel_rfl) (by kernel_rfl) (by kernel_rfl) (KK.out _ hW.out.drew) ?_
          iterate 9
            refine ⟨_, rfl, ?_⟩
            apply Exists.intro
            refine ⟨.inl ⟨by rfl, ?_⟩, ?_⟩
            · (intro W' hW'; obtain q9 := hW'; go_simp; try (with_reducible rfl))
            (dsimp only [Act.put]; try simp only [List.setIfInBounds_toArray, List.set_cons_zero, List.set_cons_succ])
          refine held_one (i := 2) (by kernel_rfl) (by rfl) (by rfl) ?_
          go_wp2_with fail
          refine (C1 _ (HL.out.call yr.out.drew)).out.mono ?_; rintro e w4 ⟨rfl, hb4⟩
          have x4 := hid (show Below wr.heap.size wr w4 from (Below.refl _ _).drew.trans hb4)
          clear hb4
          go_wp2_with fail
          refine ⟨KK.out _ (hW.out.trans (x4.out.mono hW.out.size)), ?_⟩
          refine held_one (i := 10) (by kernel_rfl) (by rfl) (by rfl) ?_
          go_wp2_with fail
          refine (C2 _ (HL.out.call (bnext yr.out x4.out))).out.mono ?_; rintro e w5 ⟨rfl, hb5⟩
          have x5 := hid (bnext x4.out hb5)
          clear hb5
          go_wp2_with fail
          refine ⟨KK.out _ (hW.out.trans (x5.out.mono hW.out.size)), ?_⟩
          refine held_more (is := [11, 12, 13]) (g := 1) (by kernel_rfl) rfl (KK.out _ (hW.out.trans (x5.out.mono hW.out.size))) (by kernel_rfl) ?_
          iterate 3
            refine ⟨_, rfl, ?_⟩
            apply Exists.intro
            refine ⟨.inl ⟨by rfl, ?_⟩, ?_⟩
            · (intro W' hW'; obtain q9 := hW'; go_simp; try (with_reducible rfl))
            (dsimp only [Act.put]; try simp only [List.setIfInBounds_toArray, List.set_cons_zero, List.set_cons_succ])
          refine held_one (i := 14) (by kernel_rfl) (by rfl) (by rfl) ?_
          have hIs : I0.size ≤ maxLen := by rw [← HI0.out, numB_size]; have := nDigits_le (n := i) (k := 2) (by omega) (by omega); unfold maxLen; omega
          have hJs : J0.size ≤ maxLen := by rw [← HJ0.out]; exact shB_size _ _
          refine wpList_mapUpdate_own _ rfl _ _ _ 102 rfl 9 23 lawKeyed Tryz.underlying102 _ B i _ rfl (hM.out.kept (row := none) ⟨x5.out.os, x5.out.tape, x5.out.output, x5.out.size, fun k hk _ => x5.out.block k hk⟩ (by simp)) (by unfold maxLen; omega) _ _ _ rfl rfl (Go.WideMaps.keyOf_string_mk Tryz.underlying9 hIs) _ [] (plainElem_string Tryz.underlying23 hJs) ?_
          intro w15 hown hgrow
          have UM := hid hown
          have UB := hid (below_gb (hW.out.trans (x5.out.mono hW.out.size)) (by have := hW.out.size; have := x5.out.size; omega) hgrow (by have := HB.out; omega))
          have m0 := KK.out _ UB.out
          clear hown hgrow
          go_wp2_with fail
          refine ⟨m0, ?_⟩
          refine wpAnyH_done (by kernel_rfl) ?_ _
          simp only [Only]
          go_wp2_with fail
          go_roundw
          case rel => exact ⟨i + 1, rfl, by omega, by rw [eD.out, HI0.out, HJ0.out]; exact UM, UB⟩
          case measure => simp [intOf] <;> omega
      · obtain rfl : i = m + 1 := by omega
        have q1 : decide (((m + 1 : Nat) : Int) < ((m + 1 : Nat) : Int)) = false := by simp
        have Q := hid (p_listed _ B _ _ _ hM.out (reads_exD ws ws.sum (m + 1)) (by have := exL_length ws ws.sum (m + 1); omega) (exL_keys (by omega)))
        clear hlt
        go_wp2_with fail
        refine Q.out.mono ?_; rintro e w6 ⟨⟨u, rfl, hu⟩, hb6⟩
        have U6 := hid hu
        have y6 := hid (bnext yr.out hb6)
        clear hu hb6
        go_wp2_with fail
        go_ret2
        exact ⟨⟨_, rfl, U6.out⟩, y6.out⟩
  · have er : exR l = [] := by rw [exR, if_neg he]
    rw [er]
    obtain ⟨a, c, rfl, -⟩ := hv.openS
    obtain ⟨z, hz⟩ : ∃ z, wsE l = z := ⟨_, rfl⟩
    rw [hz] at PC he ⊢
    have q0 : (z != 0) = true := by simpa using he
    clear hv hl hL er he hz
    go_enter Tryz.func36, Tryz.ntmps36
    go_wp2_with fail
    refine PC.out.mono ?_; rintro e w1 ⟨rfl, hb1⟩
    go_wp2_with fail
    go_ret2
    exact ⟨⟨_, rfl, MRow.nil _⟩, hb1⟩
end Go.Proofs.YtpehhgkghgbhiaaGreatDoor
namespace Go.Proofs.YtpehhgkghgbhiaaGreatDoor
open Go.RowKit Go.Shelf
open Go.Lib (decDigits nDigits)
set_option linter.unusedVariables false
/-- What Draw, Law give. -/
def cdE (us : List Int) (s : ByteArray) (B : Int) (b : ByteArray) : Int := if cwE us s B ≠ 0 then cwE us s B else drE (cwT us s B) b
def clE (us : List Int) (s : ByteArray) (B n : Int) : Int := if cwE us s B ≠ 0 then cwE us s B else lawE (cwT us s B) n
structure CwOk (us : List Int) (s : ByteArray) (B : Nat) : Prop where
  ok : ChOk (vQ s).num.natAbs (vQ s).den B
  lo : 1 ≤ us.length
  hi : us.length ≤ 64
  b200 : B ≤ 200
theorem cw_good {us : List Int} {s : ByteArray} {B : Int} (h : cwE us s B = 0) : CwOk us s B.toNat ∧ B = B.toNat := by
  obtain ⟨h1, h2, h3, h4, h5, h6⟩ := cwE_ok h
  obtain ⟨k1, k2⟩ := base_ok (B := B.toNat) h4 (by omega)
  exact ⟨⟨k1, h1, h2, k2⟩, by omega⟩
/-- The weights as numbers. -/
def cwV (us : List Int) (s : ByteArray) (B : Int) : List Nat := cwL (vQ s).num.natAbs (vQ s).den B.toNat us
theorem cwT_eq (us : List Int) (s : ByteArray) (B : Int) : cwT us s B = (cwV us s B).map numB := by
  unfold cwT cwV cwL; rw [List.map_map]; rfl
theorem cwV_bN (us : List Int) (s : ByteArray) (B : Int) : (cwT us s B).map bN = cwV us s B := by
  rw [cwT_eq, List.map_map]
  have : (bN ∘ numB) = id := by funext x; exact bN_num x
  rw [this, List.map_id]
theorem cwV_len (us : List Int) (s : ByteArray) (B : Int) : (cwV us s B).length = us.length := by unfold cwV cwL; simp
theorem cwT_len (us : List Int) (s : ByteArray) (B : Int) : (cwT us s B).length = us.length := by unfold cwT; simp
theorem cwV_get {us : List Int} {s : ByteArray} {B : Int} {i : Nat} {u : Int} (h : us[i]? = some u) : (cwV us s B).getD i 0 = cwN (vQ s).num.natAbs (vQ s).den B.toNat u := by
  unfold cwV cwL
  rw [List.getD_eq_getElem?_getD, List.getElem?_map, h]; rfl
theorem cwV_dig {us : List Int} {s : ByteArray} {B : Int} (h : CwOk us s B.toNat) : ∀ x ∈ cwV us s B, nDigits x ≤ 400 := fun x hx => by
  obtain ⟨u, -, rfl⟩ := List.mem_map.1 hx
  exact h.ok.fits u
theorem cwV_pos {us : List Int} {s : ByteArray} {B : Int} (h : CwOk us s B.toNat) : ∀ x ∈ cwV us s B, 0 < x := fun x hx => by
  obtain ⟨u, -, rfl⟩ := List.mem_map.1 hx
  exact h.ok.pos u
theorem cwT_size {us : List Int} {s : ByteArray} {B : Int} (h : CwOk us s B.toNat) : ∀ x ∈ cwT us s B, x.size ≤ 400 := fun x hx => by
  rw [cwT_eq] at hx
  obtain ⟨y, hy, rfl⟩ := List.mem_map.1 hx
  rw [numB_size]
  exact cwV_dig h y hy
theorem wsE_good {l : List ByteArray} (h0 : 1 ≤ l.length) (h1 : l.length ≤ 64) (h2 : ∀ x ∈ l, ∃ n, x = numB n ∧ 0 < n ∧ nDigits n ≤ 3800) : wsE l = 0 := by
  unfold wsE
  rw [if_neg (by omega)]
  have hw : ∀ l : List ByteArray, (∀ x ∈ l, ∃ n, x = numB n ∧ 0 < n ∧ nDigits n ≤ 3800) → wtE l = 0 := by
    intro l
    induction l with
    | nil => intro _; rfl
    | cons a r ih =>
      intro h
      obtain ⟨n, rfl, hn, hd⟩ := h a (List.mem_cons_self ..)
      unfold wtE
      rw [errN_numB (by omega), if_neg (by simp), if_neg (by rw [numB_size]; omega)]
      exact ih fun x hx => h x (List.mem_cons_of_mem _ hx)
  rw [hw l h2, if_neg (by simp)]
  cases l with
  | nil => simp at h0
  | cons a r =>
    obtain ⟨n, rfl, hn, -⟩ := h2 a (List.mem_cons_self ..)
    have hne : numB n ≠ ⟨#[48]⟩ := by rw [← numB_zero]; exact numB_ne (by omega)
    rw [if_pos (by simp [hne])]
theorem wsE_cw {us : List Int} {s : ByteArray} {B : Int} (h : CwOk us s B.toNat) : wsE (cwT us s B) = 0 := by
  refine wsE_good (by rw [cwT_len]; exact h.lo) (by rw [cwT_len]; exact h.hi) fun x hx => ?_
  rw [cwT_eq] at hx
  obtain ⟨y, hy, rfl⟩ := List.mem_map.1 hx
  exact ⟨y, rfl, cwV_pos h y hy, by have := cwV_dig h y hy; omega⟩
theorem wsE_nil : wsE [] = 2 := rfl
theorem exR_nil : exR [] = [] := by rw [exR, if_neg (by rw [wsE_nil]; decide)]
theorem lawE_nil (n : Int) : lawE [] n = 2 := by rw [lawE, wsE_nil, if_pos (by decide)]
theorem lawR_nil (n : Int) : lawR [] n = [] := by rw [lawR, lawE_nil, if_neg (by decide)]
theorem dr3_nil (b : ByteArray) : dr3 [] b = (false, 0, 0) := by
  unfold dr3
  rw [if_neg]
  unfold drE
  rw [wsE_nil, if_pos (by decide)]
  decide
end Go.Proofs.YtpehhgkghgbhiaaGreatDoor
namespace Go.Proofs.YtpehhgkghgbhiaaGreatDoor
open Go.RowKit
theorem MRow.openM {w : World} {v : Value} {L : List (ByteArray × ByteArray)} (h : MRow w v L) : ∃ a c, v = .slice a L.length c := by
  obtain ⟨a, c, e, -⟩ := h.ex
  exact ⟨a, c, e⟩
end Go.Proofs.YtpehhgkghgbhiaaGreatDoor
namespace Go.Proofs.YtpehhgkghgbhiaaGreatDoor
open Go.RowKit Go.Shelf
open Go.Lib (decDigits nDigits)
set_option linter.unusedVariables false
set_option linter.unusedSimpArgs false
set_option maxRecDepth 100000 in
set_option maxHeartbeats 1000000 in
theorem ch_Exact (w : World) (v : Value) (us : List Int) (s : ByteArray) (B : Int) (hv : Row w v (zs us)) (hs : s.size ≤ 100000) (hL : Lay w) :
    Calls Tryz.prog 10 #[v, .string s, .int .i64 B] w fun e w' => (∃ u, e = .returned (.tuple #[u, .int .i64 (cwE us s B)]) ∧ MRow w' u (exR (cwR us s B))) ∧ Below w.heap.size w w' := by
  have PW := hid (ch_Weights w v us s B hv hs hL)
  obtain ⟨a, c, rfl, -⟩ := hv.openZ
  have HL := hid hL
  by_cases he : cwE us s B = 0
  · obtain ⟨ok, -⟩ := cw_good he
    have hsz := fun x hx => Nat.le_trans (cwT_size ok x hx) (by omega : 400 ≤ 1000000)
    have PE := fun V u hu hLV => hid (p_Exact V u (cwT us s B) hu hsz hLV)
    rw [wsE_cw ok] at PE
    have e1 : cwR us s B = cwT us s B := if_pos he
    rw [e1, he] at PW ⊢
    obtain ⟨T, hT⟩ : ∃ T, cwT us s B = T := ⟨_, rfl⟩
    rw [hT] at PW PE ⊢
    clear hv hs hL he ok hsz e1 hT
    go_enter Tryz.func10, Tryz.ntmps10
    go_wp2_with fail
    refine PW.out.mono ?_; rintro e w1 ⟨⟨u, rfl, hu⟩, hb1⟩
    obtain ⟨a1, c1, rfl, -⟩ := hu.openS
    have U1 := hid hu; have y1 := hid hb1
    clear hu hb1
    go_wp2_with fail
    refine (PE _ _ U1.out (HL.out.call y1.out)).out.mono ?_; rintro e w2 ⟨⟨u2, rfl, hu2⟩, hb2⟩
    obtain ⟨a2, c2, rfl⟩ := hu2.openM
    have U2 := hid hu2; have y2 := hid (bnext y1.out hb2)
    clear hu2 hb2
    go_wp2_with fail
    go_ret2
    exact ⟨⟨_, rfl, U2.out⟩, y2.out⟩
  · have e1 : cwR us s B = [] := if_neg he
    rw [e1] at PW ⊢
    rw [exR_nil]
    obtain ⟨z, hz⟩ : ∃ z, cwE us s B = z := ⟨_, rfl⟩
    rw [hz] at PW he ⊢
    have q0 : (z != 0) = true := by simpa using he
    clear hv hs hL he e1 hz
    go_enter Tryz.func10, Tryz.ntmps10
    go_wp2_with fail
    refine PW.out.mono ?_; rintro e w1 ⟨⟨u, rfl, hu⟩, hb1⟩
    obtain ⟨a1, c1, rfl, -⟩ := hu.openS
    have y1 := hid hb1
    clear hu hb1
    go_wp2_with fail
    go_ret2
    exact ⟨⟨_, rfl, MRow.nil _⟩, y1.out⟩
set_option maxRecDepth 100000 in
set_option maxHeartbeats 1000000 in
theorem ch_Law (w : World) (v : Value) (us : List Int) (s : ByteArray) (B n : Int) (hv : Row w v (zs us)) (hs : s.size ≤ 100000) (hL : Lay w) :
    Calls Tryz.prog 18 #[v, .string s, .int .i64 B, .int .i64 n] w fun e w' => (∃ u, e = .returned (.tuple #[u, .int .i64 (clE us s B n)]) ∧ MRow w' u (lawR (cwR us s B) n)) ∧ Below w.heap.size w w' := by
  have PW := hid (ch_Weights w v us s B hv hs hL)
  obtain ⟨a, c, rfl, -⟩ := hv.openZ
  have HL := hid hL
  by_cases he : cwE us s B = 0
  · obtain ⟨ok, -⟩ := cw_good he
    have hsz := fun x hx => Nat.le_trans (cwT_size ok x hx) (by omega : 400 ≤ 1000000)
    have PE := fun V u hu hLV => hid (p_Law V u (cwT us s B) n hu hsz hLV)
    have e1 : cwR us s B = cwT us s B := if_pos he
    have e2 : clE us s B n = lawE (cwT us s B) n := if_neg (by simpa using he)
    rw [e1, he] at PW
    rw [e1, e2]
    obtain ⟨T, hT⟩ : ∃ T, cwT us s B = T := ⟨_, rfl⟩
    rw [hT] at PW PE ⊢
    clear hv hs hL he ok hsz e1 e2 hT
    go_enter Tryz.func18, Tryz.ntmps18
    go_wp2_with fail
    refine PW.out.mono ?_; rintro e w1 ⟨⟨u, rfl, hu⟩, hb1⟩
    obtain ⟨a1, c1, rfl, -⟩ := hu.openS
    have U1 := hid hu; have y1 := hid hb1
    clear hu hb1
    go_wp2_with fail
    refine (PE _ _ U1.out (HL.out.call y1.out)).out.mono ?_; rintro e w2 ⟨⟨u2, rfl, hu2⟩, hb2⟩
    obtain ⟨a2, c2, rfl⟩ := hu2.openM
    have U2 := hid hu2; have y2 := hid (bnext y1.out hb2)
    clear hu2 hb2
    go_wp2_with fail
    go_ret2
    exact ⟨⟨_, rfl, U2.out⟩, y2.out⟩
  · have e1 : cwR us s B = [] := if_neg he
    have e2 : clE us s B n = cwE us s B := if_pos he
    rw [e1] at PW ⊢
    rw [lawR_nil, e2]
    obtain ⟨z, hz⟩ : ∃ z, cwE us s B = z := ⟨_, rfl⟩
    rw [hz] at PW he ⊢
    have q0 : (z != 0) = true := by simpa using he
    clear hv hs hL he e1 e2 hz
    go_enter Tryz.func18, Tryz.ntmps18
    go_wp2_with fail
    refine PW.out.mono ?_; rintro e w1 ⟨⟨u, rfl, hu⟩, hb1⟩
    obtain ⟨a1, c1, rfl, -⟩ := hu.openS
    have y1 := hid hb1
    clear hu hb1
    go_wp2_with fail
    go_ret2
    exact ⟨⟨_, rfl, MRow.nil _⟩, y1.out⟩
set_option maxRecDepth 100000 in
set_option maxHeartbeats 1000000 in
theorem ch_Draw (w : World) (v : Value) (us : List Int) (s : ByteArray) (B : Int) (b : ByteArray) (hv : Row w v (zs us)) (hs : s.size ≤ 100000) (hb : b.size ≤ 100000000) (hL : Lay w) :
    Calls Tryz.prog 20 #[v, .string s, .int .i64 B, .string b] w fun e w' => e = .returned (.tuple #[dw3 (dr3 (cwR us s B) b), .int .i64 (cdE us s B b)]) ∧ Below w.heap.size w w' := by
  have A0 := hid ((Below.refl w.heap.size w).alloc (Nat.le_refl _) (.cells #[.bool false, .int .i64 0, .int .i64 0] 48))
  have x0 := hid (Blk.new w #[.bool false, .int .i64 0, .int .i64 0] 48)
  have PW := hid (ch_Weights _ v us s B (hv.call A0.out) hs (hL.call A0.out))
  obtain ⟨a, c, rfl, -⟩ := hv.openZ
  have HL := hid hL
  by_cases he : cwE us s B = 0
  · obtain ⟨ok, -⟩ := cw_good he
    have hsz := fun x hx => Nat.le_trans (cwT_size ok x hx) (by omega : 400 ≤ 1000000)
    have PE := fun V u hu hLV => hid (p_Draw V u (cwT us s B) b hu hsz hb hLV)
    have e1 : cwR us s B = cwT us s B := if_pos he
    have e2 : cdE us s B b = drE (cwT us s B) b := if_neg (by simpa using he)
    rw [e1, he] at PW
    rw [e1, e2]
    obtain ⟨T, hT⟩ : ∃ T, cwT us s B = T := ⟨_, rfl⟩
    rw [hT] at PW PE ⊢
    obtain ⟨y, hy⟩ : ∃ y, drE T b = y := ⟨_, rfl⟩
    obtain ⟨X, hX⟩ : ∃ X, dr3 T b = X := ⟨_, rfl⟩
    rw [hy, hX] at PE ⊢
    obtain ⟨d, vv, uu⟩ := X
    simp only [dw3] at PE ⊢
    clear hv hs hL he ok hsz e1 e2 hT hb hy hX
    go_enter Tryz.func20, Tryz.ntmps20
    go_wp2_with fail
    refine PW.out.mono ?_; rintro e w1 ⟨⟨u, rfl, hu⟩, hb1⟩
    obtain ⟨a1, c1, rfl, -⟩ := hu.openS
    have U1 := hid hu; have y1 := hid (bnext A0.out hb1); have k1 := hid (x0.out.call hb1)
    clear hu hb1
    go_wp2_with fail
    refine (PE _ _ U1.out (HL.out.call y1.out)).out.mono ?_; rintro e w4 ⟨rfl, hb2⟩
    have y4 := hid (bnext y1.out hb2); have k4 := hid (k1.out.call hb2)
    clear hb2
    have r0 := k4.out.cell 0
    have r1' := k4.out.cell 1
    have r2' := k4.out.cell 2
    have f0 := k4.out.free 0
    have f1 := k4.out.free 1
    have f2 := k4.out.free 2
    simp at r0 r1' r2'
    go_wp2_with fail
    have s3 := ((k4.out.set 0 (.bool d)).set 1 (.int .i64 (vv : Nat))).set 2 (.int .i64 (uu : Nat))
    have z0 := s3.cell 0
    have z1 := s3.cell 1
    have z2 := s3.cell 2
    simp at z0 z1 z2
    refine bodyPost_ret (v := .tuple #[.agg #[.bool d, .int .i64 (vv : Nat), .int .i64 (uu : Nat)], .int .i64 y]) (by simp [results, Tryz.results20, go_sem, z0, z1, z2]) rfl ⟨rfl, ?_⟩
    exact ((y4.out.setCell (Nat.le_refl _) _).setCell (Nat.le_refl _) _).setCell (Nat.le_refl _) _
  · have e1 : cwR us s B = [] := if_neg he
    have e2 : cdE us s B b = cwE us s B := if_pos he
    rw [e1] at PW ⊢
    rw [dr3_nil, e2]
    simp only [dw3]
    obtain ⟨z, hz⟩ : ∃ z, cwE us s B = z := ⟨_, rfl⟩
    rw [hz] at PW he ⊢
    have q0 : (z != 0) = true := by simpa using he
    clear hv hs hL he e1 e2 hz hb
    go_enter Tryz.func20, Tryz.ntmps20
    go_wp2_with fail
    refine PW.out.mono ?_; rintro e w1 ⟨⟨u, rfl, hu⟩, hb1⟩
    obtain ⟨a1, c1, rfl, -⟩ := hu.openS
    have y1 := hid (bnext A0.out hb1); have k1 := hid (x0.out.call hb1)
    clear hu hb1
    have r0 := k1.out.cell 0
    have r1' := k1.out.cell 1
    have r2' := k1.out.cell 2
    have f0 := k1.out.free 0
    have f1 := k1.out.free 1
    have f2 := k1.out.free 2
    simp at r0 r1' r2'
    go_wp2_with fail
    have s3 := ((k1.out.set 0 (.bool false)).set 1 (.int .i64 0)).set 2 (.int .i64 0)
    have z0 := s3.cell 0
    have z1 := s3.cell 1
    have z2 := s3.cell 2
    simp at z0 z1 z2
    refine bodyPost_ret (v := .tuple #[.agg #[.bool false, .int .i64 0, .int .i64 0], .int .i64 z]) (by simp [results, Tryz.results20, go_sem, z0, z1, z2]) rfl ⟨rfl, ?_⟩
    exact ((y1.out.setCell (Nat.le_refl _) _).setCell (Nat.le_refl _) _).setCell (Nat.le_refl _) _
end Go.Proofs.YtpehhgkghgbhiaaGreatDoor
namespace Go.Proofs.YtpehhgkghgbhiaaGreatDoor
open Go.RowKit Go.Shelf
open Go.Lib (decDigits nDigits)
set_option linter.unusedVariables false
set_option linter.unusedSimpArgs false
set_option maxRecDepth 100000 in
set_option maxHeartbeats 2000000 in
theorem k_SameS (w : World) (v u : Value) (L M : List ByteArray) (hv : Row w v (strs L)) (hu : Row w u (strs M)) :
    Calls Tryz.prog 27 #[v, u] w fun e w' => e = .returned (.bool (decide (L = M))) ∧ Below w.heap.size w w' := by
  obtain ⟨a, c, rfl, h1, h2, h3⟩ := hv.openS
  obtain ⟨a', c', rfl, h1', h2', h3'⟩ := hu.openS
  obtain ⟨n, hn⟩ : ∃ n, L.length = n := ⟨_, rfl⟩
  obtain ⟨m, hm⟩ : ∃ n, M.length = n := ⟨_, rfl⟩
  rw [hn] at h1 ⊢
  rw [hm] at h1' ⊢
  have H3 := hid h3; have H3' := hid h3'; have HN := hid hn; have HM := hid hm
  clear hv hu h3 h3'
  by_cases hnm : n = m
  · subst hnm
    have q0 : ((n : Int) != (n : Int)) = false := by simp
    clear hn hm
    go_enter Tryz.func27, Tryz.ntmps27
    go_wp2_with fail
    go_loopw [5] (fun ii wr => ∃ i : Nat, ii = .int .i64 (i : Nat) ∧ i ≤ n ∧ Hid (∀ j, j < i → L[j]? = M[j]?) ∧ Hid (Below w.heap.size w wr)) (fun ii wr => n - (intOf ii).toNat)
    case atStart => exact ⟨0, rfl, Nat.zero_le _, fun j hj => absurd hj (by omega), Below.refl _ _⟩
    case round =>
      obtain ⟨i, rfl, hi, hI, hB⟩ := hrel
      by_cases hlt : i < n
      · obtain ⟨x, hx⟩ : ∃ x, L[i]? = some x := ⟨_, List.getElem?_eq_getElem (by rw [HN.out]; exact hlt)⟩
        obtain ⟨y, hy⟩ : ∃ x, M[i]? = some x := ⟨_, List.getElem?_eq_getElem (by rw [HM.out]; exact hlt)⟩
        obtain ⟨g, o, rfl, hg, k1⟩ := H3.out i x hx
        obtain ⟨g', o', rfl, hg', k1'⟩ := H3'.out i y hy
        have HX := hid hx; have HY := hid hy
        have m1 := (hB.out.cell (p := ⟨g, o + i, none⟩) hg).trans k1
        have m3 := (hB.out.cell (p := ⟨g', o' + i, none⟩) hg').trans k1'
        have b1 : (0 : Int) ≤ (i : Int) := by omega
        have b2 : (i : Int) < (n : Int) := by omega
        have wi : IntKind.i64.wrap ((i : Int) + 1) = (i : Int) + 1 := by rw [IntWalk.i64_in _ ⟨by omega, by omega⟩]
        clear k1 k1' hx hy hg hg'
        by_cases he1 : x = y
        · subst he1
          go_wp2_with fail
          refine held_plain [0, 1, 2, 3, 4, 5, 6, 7, 8] 0 (fun w' => w'.cell? ⟨g, o + i, none⟩ = some (.string x) ∧ w'.cell? ⟨g', o' + i, none⟩ = some (.string x)) (by kernel_rfl) (by kernel_rfl) (by kernel_rfl) (by kernel_rfl) ⟨m1, m3⟩ ?_
          iterate 9
            refine ⟨_, rfl, ?_⟩
            apply Exists.intro
            refine ⟨.inl ⟨by rfl, ?_⟩, ?_⟩
            · (intro W' hW'; obtain ⟨q1, q2⟩ := hW'; go_simp; try (with_reducible rfl))
            (dsimp only [Act.put]; try simp only [List.setIfInBounds_toArray, List.set_cons_zero, List.set_cons_succ])
          refine wpAnyH_done (by kernel_rfl) ?_ _
          simp only [Only]
          go_wp2_with fail
          go_roundw
          case rel => exact ⟨i + 1, rfl, by omega, fun j hj => by
            rcases Nat.lt_or_ge j i with h | h
            · exact hI.out j h
            · obtain rfl : j = i := by omega
              rw [HX.out, HY.out], hB.out.drew⟩
          case measure => simp [intOf] <;> omega
        · have n1 : (x.toList == y.toList) = false := by rw [beq_eq_false_iff_ne]; exact ne_tl he1
          have hne : decide (L = M) = false := by
            rw [decide_eq_false_iff_not]; rintro rfl
            have := HX.out.symm.trans HY.out
            simp only [Option.some.injEq] at this
            exact he1 this
          have HNE := hid hne
          clear hne he1
          go_wp2_with fail
          refine held_plain [0, 1, 2, 3, 4, 5, 6, 7, 8] 0 (fun w' => w'.cell? ⟨g, o + i, none⟩ = some (.string x) ∧ w'.cell? ⟨g', o' + i, none⟩ = some (.string y)) (by kernel_rfl) (by kernel_rfl) (by kernel_rfl) (by kernel_rfl) ⟨m1, m3⟩ ?_
          iterate 9
            refine ⟨_, rfl, ?_⟩
            apply Exists.intro
            refine ⟨.inl ⟨by rfl, ?_⟩, ?_⟩
            · (intro W' hW'; obtain ⟨q1, q2⟩ := hW'; go_simp; try (with_reducible rfl))
            (dsimp only [Act.put]; try simp only [List.setIfInBounds_toArray, List.set_cons_zero, List.set_cons_succ])
          refine wpAnyH_done (by kernel_rfl) ?_ _
          simp only [Only]
          go_wp2_with fail
          go_ret
          exact ⟨by rw [HNE.out]; rfl, hB.out.drew⟩
      · obtain rfl : i = n := by omega
        have hE : L = M := by
          apply List.ext_getElem?
          intro j
          by_cases hj : j < i
          · exact hI.out j hj
          · rw [List.getElem?_eq_none (by rw [HN.out]; omega), List.getElem?_eq_none (by rw [HM.out]; omega)]
        have HE := hid hE
        have q1 : decide ((i : Int) < (i : Int)) = false := by simp
        clear hE
        go_wp2_with fail
        go_ret
        exact ⟨by rw [decide_eq_true HE.out]; rfl, hB.out⟩
  · have hE : decide (L = M) = false := by rw [decide_eq_false_iff_not]; rintro rfl; exact hnm (hn.symm.trans hm)
    have HE := hid hE
    have q0 : ((n : Int) != (m : Int)) = true := by simp; omega
    clear hn hm hE
    go_enter Tryz.func27, Tryz.ntmps27
    go_wp2_with fail
    go_ret
    exact ⟨by rw [HE.out]; rfl, Below.refl _ _⟩
end Go.Proofs.YtpehhgkghgbhiaaGreatDoor
namespace Go.Proofs.YtpehhgkghgbhiaaGreatDoor
open Go.RowKit Go.Shelf
open Go.Lib (decDigits nDigits)
set_option linter.unusedVariables false
set_option linter.unusedSimpArgs false
theorem dig1 {n : Nat} (h : n < 10) : numB n = ⟨#[UInt8.ofNat (48 + n)]⟩ := by unfold numB; rw [decDigits_small h]
theorem vq_three : (vQ ⟨#[51, 47, 50]⟩).num.natAbs = 3 ∧ (vQ ⟨#[51, 47, 50]⟩).den = 2 := by decide +kernel
theorem vq_tri : (vQ ⟨#[51]⟩).num.natAbs = 3 ∧ (vQ ⟨#[51]⟩).den = 1 := by decide +kernel
theorem bp_three : bPE ⟨#[51, 47, 50]⟩ = 0 ∧ (cW ⟨#[51, 47, 50]⟩).size = 1 := by decide +kernel
theorem bp_tri : bPE ⟨#[51]⟩ = 0 ∧ (cW ⟨#[51]⟩).size = 1 := by decide +kernel
theorem lv_E1 : cwE [0, 1, -1] ⟨#[51, 47, 50]⟩ 1 = 0 := by
  unfold cwE mbB
  rw [bp_three.1, bp_three.2]
  decide
theorem lv_T1 : cwT [0, 1, -1] ⟨#[51, 47, 50]⟩ 1 = [⟨#[54]⟩, ⟨#[57]⟩, ⟨#[52]⟩] := by
  unfold cwT
  rw [vq_three.1, vq_three.2]
  show [numB (cwN 3 2 1 0), numB (cwN 3 2 1 1), numB (cwN 3 2 1 (-1))] = _
  rw [show cwN 3 2 1 0 = 6 by decide, show cwN 3 2 1 1 = 9 by decide, show cwN 3 2 1 (-1) = 4 by decide, dig1 (by omega), dig1 (by omega), dig1 (by omega)]
  rfl
theorem lv_E2 : cwE [0, 1] ⟨#[51]⟩ 1 = 0 := by
  unfold cwE mbB
  rw [bp_tri.1, bp_tri.2]
  decide
theorem lv_V2 : cwV [0, 1] ⟨#[51]⟩ 1 = [3, 9] := by
  unfold cwV cwL
  rw [vq_tri.1, vq_tri.2]
  decide
theorem lv_D : cdE [0, 1] ⟨#[51]⟩ 1 ⟨#[48, 48]⟩ = 0 ∧ dr3 (cwR [0, 1] ⟨#[51]⟩ 1) ⟨#[48, 48]⟩ = (true, 0, 2) := by
  have hW : wsE (cwT [0, 1] ⟨#[51]⟩ 1) = 0 := wsE_cw (cw_good lv_E2).1
  have hE : drE (cwT [0, 1] ⟨#[51]⟩ 1) ⟨#[48, 48]⟩ = 0 := by
    unfold drE
    rw [hW]
    decide
  refine ⟨by rw [cdE, lv_E2, if_neg (by simp)]; exact hE, ?_⟩
  rw [cwR, if_pos lv_E2]
  unfold dr3
  rw [if_pos hE, cwV_bN, lv_V2]
  show pdr (pkF [3, 9]) 0 1 [48, 48] = _
  rw [pdr_next (by decide), pdr_next (by decide), pdr_done (by decide)]
  decide
set_option maxRecDepth 100000 in
set_option maxHeartbeats 4000000 in
theorem w_lives (w : World) (hL : Lay w) :
    Calls Tryz.prog 8 #[] w fun e w' => e = .returned (.bool true) ∧ Below w.heap.size w w' := by
  have A0 := hid ((Below.refl w.heap.size w).alloc (Nat.le_refl _) (.cells #[.int .i64 0, .int .i64 1, .int .i64 (-1)] 3))
  have X0 := Blk.new w #[.int .i64 0, .int .i64 1, .int .i64 (-1)] 3
  have R0 := hid (Row.of_blk (n := 3) (xs := zs [0, 1, -1]) X0 rfl (by decide) (fun i x h => by
    rcases i with _ | _ | _ | i <;> simp [zs] at h ⊢ <;> exact h) (Nat.le_refl 3) (by decide))
  have HL := hid hL
  have PW := fun V hV hLV => hid (ch_Weights V (.slice (some ⟨w.heap.size, 0, none⟩) 3 3) [0, 1, -1] ⟨#[51, 47, 50]⟩ 1 hV (by decide) hLV)
  have PD := fun V u hV hLV => hid (ch_Draw V u [0, 1] ⟨#[51]⟩ 1 ⟨#[48, 48]⟩ hV (by decide) (by decide) hLV)
  rw [cwR, if_pos lv_E1, lv_E1, lv_T1] at PW
  rw [lv_D.1, lv_D.2] at PD
  simp only [dw3] at PD
  clear hL X0
  go_enter Tryz.func8, Tryz.ntmps8
  go_wp2_with fail
  refine (PW _ R0.out (HL.out.call A0.out)).out.mono ?_; rintro e w1 ⟨⟨u, rfl, hu⟩, hb1⟩
  obtain ⟨a1, c1, rfl, -, -, -⟩ := hu.openS
  have U1 := hid hu; have y1 := hid (bnext A0.out hb1); clear hu hb1
  have X1 := Blk.new w1 #[.int .i64 0, .int .i64 1] 3
  have R1 := hid (Row.of_blk (n := 2) (xs := zs [0, 1]) X1 rfl (by decide) (fun i x h => by
    rcases i with _ | _ | i <;> simp [zs] at h ⊢ <;> exact h) (Nat.le_refl 2) (by decide))
  have A1 := hid ((Below.refl w1.heap.size w1).alloc (Nat.le_refl _) (.cells #[.int .i64 0, .int .i64 1] 3))
  have z1 := hid (bnext y1.out A1.out)
  have V1 := hid (U1.out.call A1.out)
  clear X1
  go_wp2_with fail
  refine (PD _ _ R1.out (HL.out.call z1.out)).out.mono ?_; rintro e w2 ⟨rfl, hb2⟩
  have y2 := hid (bnext z1.out hb2); have V2 := hid (V1.out.call hb2); clear hb2
  have X2 := hid (Blk.new w2 #[.bool true, .int .i64 0, .int .i64 2] 48)
  have A2 := hid ((Below.refl w2.heap.size w2).alloc (Nat.le_refl _) (.cells #[.bool true, .int .i64 0, .int .i64 2] 48))
  have A3 := hid ((A2.out.alloc A2.out.size (.cells #[.string ⟨#[54]⟩, .string ⟨#[57]⟩, .string ⟨#[52]⟩] 23)))
  have X3 := hid (X2.out.alloc (.cells #[.string ⟨#[54]⟩, .string ⟨#[57]⟩, .string ⟨#[52]⟩] 23))
  have Y3 := Blk.made (w2.alloc (.cells #[.bool true, .int .i64 0, .int .i64 2] 48)) #[.string ⟨#[54]⟩, .string ⟨#[57]⟩, .string ⟨#[52]⟩] 23 (n := w2.heap.size + 1) (by simp)
  have R3 := hid (Row.of_blk (n := 3) (xs := strs [⟨#[54]⟩, ⟨#[57]⟩, ⟨#[52]⟩]) Y3 rfl (by decide) (fun i x h => by
    rcases i with _ | _ | _ | i <;> simp [strs] at h ⊢ <;> exact h) (Nat.le_refl 3) (by decide))
  have V3 := hid (V2.out.call A3.out)
  have y3 := hid (bnext y2.out A3.out)
  have PS := fun V u v hu hv => hid (k_SameS V u v [⟨#[54]⟩, ⟨#[57]⟩, ⟨#[52]⟩] [⟨#[54]⟩, ⟨#[57]⟩, ⟨#[52]⟩] hu hv)
  rw [decide_eq_true rfl] at PS
  clear Y3
  go_wp2_with fail
  refine (PS _ _ _ V3.out R3.out).out.mono ?_; rintro e w4 ⟨rfl, hb4⟩
  have y4 := hid (bnext y3.out hb4)
  have X4 := hid (X3.out.call hb4)
  have r0 := X4.out.cell 0
  have r1 := X4.out.cell 1
  have r2 := X4.out.cell 2
  simp at r0 r1 r2
  clear hb4
  go_wp2_with fail
  go_ret
  exact ⟨rfl, y4.out⟩
end Go.Proofs.YtpehhgkghgbhiaaGreatDoor
namespace Go.Proofs.YtpehhgkghgbhiaaGreatDoor
open Go.RowKit
set_option linter.unusedVariables false
/-- All words of n bits, in order. -/
def allW : Nat → List (List UInt8)
  | 0 => [[]]
  | n + 1 => (allW n).flatMap fun l => [l ++ [48], l ++ [49]]
/-- The number of a word, behind a number. -/
def bvL : List UInt8 → Nat → Nat
  | [], k => k
  | b :: r, k => bvL r (k + k + (if b = 49 then 1 else 0))
theorem bvL_snoc (b : UInt8) : ∀ (l : List UInt8) (k : Nat), bvL (l ++ [b]) k = bvL l k + bvL l k + (if b = 49 then 1 else 0)
  | [], k => rfl
  | c :: r, k => bvL_snoc b r _
theorem allW_len : ∀ {n : Nat} {l : List UInt8}, l ∈ allW n → l.length = n
  | 0, l, h => by simp [allW] at h; subst h; rfl
  | n + 1, l, h => by
    simp only [allW, List.mem_flatMap] at h
    obtain ⟨m, hm, hl⟩ := h
    have := allW_len hm
    simp at hl
    rcases hl with rfl | rfl <;> simp [this]
theorem allW_bits : ∀ {n : Nat} {l : List UInt8}, l ∈ allW n → ∀ b ∈ l, b = 48 ∨ b = 49
  | 0, l, h => by simp [allW] at h; subst h; simp
  | n + 1, l, h => by
    simp only [allW, List.mem_flatMap] at h
    obtain ⟨m, hm, hl⟩ := h
    have := allW_bits hm
    simp at hl
    rcases hl with rfl | rfl <;> (intro b hb; rcases List.mem_append.1 hb with hb | hb; exact this b hb; simp at hb; simp [hb])
theorem allW_length : ∀ n, (allW n).length = 2 ^ n
  | 0 => rfl
  | n + 1 => by
    have h : ∀ L : List (List UInt8), (L.flatMap fun l => [l ++ [48], l ++ [49]]).length = 2 * L.length := fun L => by
      induction L with
      | nil => rfl
      | cons a r ih => rw [List.flatMap_cons, List.length_append, ih, List.length_cons]; simp; omega
    rw [allW, h, allW_length n, Nat.pow_succ]; omega
theorem range_twice : ∀ m, (List.range m).flatMap (fun v => [v + v, v + v + 1]) = List.range (m + m)
  | 0 => rfl
  | m + 1 => by
    rw [List.range_succ, List.flatMap_append, range_twice m, show m + 1 + (m + 1) = m + m + 1 + 1 by omega, List.range_succ, List.range_succ]
    simp
theorem allW_map : ∀ n, (allW n).map (fun l => bvL l 0) = List.range (2 ^ n)
  | 0 => rfl
  | n + 1 => by
    rw [Nat.pow_succ, Nat.mul_two, ← range_twice, ← allW_map n, allW, List.map_flatMap, List.flatMap_map]
    congr 1
    funext l
    simp [bvL_snoc]
/-- What is decided stays decided. -/
def Nest (f : Nat → Nat → Nat × Bool) : Prop := ∀ k t i b, k < t → b ≤ 1 → f k t = (i, true) → f (k + k + b) (t + t) = (i, true)
theorem Nest.end {f : Nat → Nat → Nat × Bool} (h : Nest f) {i : Nat} : ∀ (l : List UInt8) (k t : Nat), k < t → f k t = (i, true) → f (bvL l k) (t * 2 ^ l.length) = (i, true)
  | [], k, t, _, e => by simpa [bvL] using e
  | b :: r, k, t, hk, e => by
    have h1 := h k t i (if b = 49 then 1 else 0) hk (by split <;> omega) e
    have h2 := h.end r _ _ (by split <;> omega) h1
    rw [bvL, List.length_cons, Nat.pow_succ, show t * (2 ^ r.length * 2) = (t + t) * 2 ^ r.length by rw [← Nat.mul_two, Nat.mul_assoc, Nat.mul_comm 2]]
    exact h2
theorem pdr_end {f : Nat → Nat → Nat × Bool} (h : Nest f) : ∀ (l : List UInt8) (k t : Nat), k < t →
    (pdr f k t l).1 = (f (bvL l k) (t * 2 ^ l.length)).2 ∧ ((pdr f k t l).1 = true → (pdr f k t l).2.1 = (f (bvL l k) (t * 2 ^ l.length)).1) ∧ ((pdr f k t l).1 = false → (pdr f k t l).2.1 = 0) := by
  intro l
  induction l with
  | nil =>
    intro k t hk
    simp only [bvL, List.length_nil, Nat.pow_zero, Nat.mul_one]
    cases hf : (f k t).2
    · rw [pdr_late hf]; simp
    · rw [pdr_done hf]; simp
  | cons b r ih =>
    intro k t hk
    cases hf : (f k t).2
    · rw [pdr_next hf]
      have := ih (k + k + (if b = 49 then 1 else 0)) (t + t) (by split <;> omega)
      rw [bvL, List.length_cons, Nat.pow_succ, show t * (2 ^ r.length * 2) = (t + t) * 2 ^ r.length by rw [← Nat.mul_two, Nat.mul_assoc, Nat.mul_comm 2]]
      exact this
    · have e : f k t = ((f k t).1, true) := by rw [← hf]
      have := h.end (b :: r) k t hk e
      rw [pdr_done hf, this]
      simp
/-- How often a draw gives i, and how often it gives nothing. -/
def drawsI (f : Nat → Nat → Nat × Bool) (i : Nat) (l : List UInt8) : Bool := (pdr f 0 1 l).1 && decide ((pdr f 0 1 l).2.1 = i)
theorem draws_count {f : Nat → Nat → Nat × Bool} (h : Nest f) (n i : Nat) : (allW n).countP (drawsI f i) = (List.range (2 ^ n)).countP (fun k => decide (f k (2 ^ n) = (i, true))) := by
  rw [← allW_map n, List.countP_map]
  refine List.countP_congr fun l hl => ?_
  have hn := allW_len hl
  obtain ⟨h1, h2, h3⟩ := pdr_end h l 0 1 (by omega)
  rw [hn, Nat.one_mul] at h1 h2
  simp only [drawsI, Function.comp, Bool.and_eq_true, decide_eq_true_eq]
  constructor
  · rintro ⟨k1, k2⟩
    rw [k1] at h1
    rw [← k2, h2 k1, h1]
  · intro e
    have k1 : (pdr f 0 1 l).1 = true := by rw [h1, e]
    exact ⟨k1, by rw [h2 k1, e]⟩
theorem fstI_spec {p : Nat → Bool} {n i : Nat} (h : fstI p n = i) (hi : i < n) : p i = true ∧ ∀ j, j < i → p j = false := by
  unfold fstI at h
  subst h
  have hl : (List.range n).findIdx p < (List.range n).length := by simpa using hi
  constructor
  · have := List.findIdx_getElem (p := p) (w := hl)
    simpa using this
  · intro j hj
    have := List.not_of_lt_findIdx hj
    simpa using this
/-- When a cell decides an index. -/
theorem pkF_iff {ws : List Nat} {k t i : Nat} (hS : 0 < ws.sum) : pkF ws k t = (i, true) ↔ i < ws.length ∧ pre ws i * t ≤ k * ws.sum ∧ k * ws.sum + ws.sum ≤ pre ws (i + 1) * t := by
  constructor
  · intro h
    unfold pkF at h
    simp only [Prod.mk.injEq, Bool.and_eq_true, decide_eq_true_eq] at h
    obtain ⟨h1, h2, h3⟩ := h
    rw [h1] at h2 h3
    obtain ⟨h4, h5⟩ := fstI_spec h1 h2
    refine ⟨h2, ?_, h3⟩
    cases i with
    | zero => rw [pre_zero]; omega
    | succ j =>
      have := h5 j (by omega)
      simpa using this
  · rintro ⟨h1, h2, h3⟩
    have e : fstI (fun i => decide (k * ws.sum < pre ws (i + 1) * t)) ws.length = i := by
      refine fstI_eq (by omega) (fun x hx => ?_) (fun _ => ?_)
      · have := Nat.mul_le_mul_right t (pre_mono ws (show x + 1 ≤ i by omega))
        simp only [decide_eq_false_iff_not, Nat.not_lt]
        omega
      · simp only [decide_eq_true_eq]; omega
    unfold pkF
    simp only [e, decide_eq_true h1, decide_eq_true h3, Bool.and_self]
theorem pkF_nest {ws : List Nat} (hS : 0 < ws.sum) : Nest (pkF ws) := by
  intro k t i b hk hb h
  rw [pkF_iff hS] at h ⊢
  obtain ⟨h1, h2, h3⟩ := h
  have e1 : ∀ x : Nat, x * (t + t) = x * t + x * t := fun x => by rw [Nat.mul_add]
  have e2 : (k + k + b) * ws.sum = k * ws.sum + k * ws.sum + b * ws.sum := by rw [Nat.add_mul, Nat.add_mul]
  have e3 : b * ws.sum ≤ ws.sum := by
    rcases (show b = 0 ∨ b = 1 by omega) with rfl | rfl <;> omega
  rw [e1, e1, e2]
  exact ⟨h1, by omega, by omega⟩
theorem cntF_iff {ws : List Nat} {k t i : Nat} (hS : 0 < ws.sum) : cntF ws t i ≤ k ↔ pre ws i * t ≤ k * ws.sum := by
  unfold cntF
  obtain ⟨a, ha⟩ : ∃ a, pre ws i * t = a := ⟨_, rfl⟩
  rw [ha]
  have h1 := Nat.div_add_mod a ws.sum
  have h2 := Nat.mod_lt a hS
  rw [Nat.mul_comm k]
  by_cases h0 : a % ws.sum = 0
  · rw [if_neg (by simpa using h0), Nat.add_zero]
    constructor
    · intro h
      have := Nat.mul_le_mul_left ws.sum h
      omega
    · intro h
      rcases Nat.lt_or_ge k (a / ws.sum) with h3 | h3
      · have := Nat.mul_le_mul_left ws.sum (show k + 1 ≤ a / ws.sum from h3)
        rw [Nat.mul_add, Nat.mul_one] at this
        omega
      · exact h3
  · rw [if_pos h0]
    constructor
    · intro h
      have := Nat.mul_le_mul_left ws.sum h
      rw [Nat.mul_add, Nat.mul_one] at this
      omega
    · intro h
      rcases Nat.lt_or_ge (a / ws.sum) k with h3 | h3
      · exact h3
      · have := Nat.mul_le_mul_left ws.sum h3
        omega
theorem cntE_iff {ws : List Nat} {k t i : Nat} (hS : 0 < ws.sum) : k + 1 ≤ cntE ws t i ↔ k * ws.sum + ws.sum ≤ pre ws (i + 1) * t := by
  unfold cntE
  rw [Nat.le_div_iff_mul_le hS, Nat.add_mul, Nat.one_mul]
theorem cntE_fit {ws : List Nat} (t i : Nat) (hS : 0 < ws.sum) : cntE ws t i ≤ t := by
  unfold cntE
  refine Nat.div_le_of_le_mul ?_
  exact Nat.mul_le_mul_right _ (pre_sum ws (i + 1))
theorem countP_range (a b : Nat) : ∀ t, (List.range t).countP (fun k => decide (a ≤ k ∧ k + 1 ≤ b)) = min b t - a
  | 0 => by simp
  | t + 1 => by
    rw [List.range_succ, List.countP_append, countP_range a b t]
    simp only [List.countP_cons, List.countP_nil, decide_eq_true_eq]
    split <;> omega
/-- So many words draw an index. -/
theorem pick_count {ws : List Nat} (hS : 0 < ws.sum) (n : Nat) {i : Nat} (hi : i < ws.length) : (allW n).countP (drawsI (pkF ws) i) = cnt ws (2 ^ n) i := by
  rw [draws_count (pkF_nest hS), cnt]
  have e : (fun k => decide (pkF ws k (2 ^ n) = (i, true))) = fun k => decide (cntF ws (2 ^ n) i ≤ k ∧ k + 1 ≤ cntE ws (2 ^ n) i) := by
    funext k
    rw [decide_eq_decide, pkF_iff hS, cntF_iff hS, cntE_iff hS]
    exact ⟨fun h => h.2, fun h => ⟨hi, h⟩⟩
  rw [e, countP_range]
  have := cntE_fit (ws := ws) (2 ^ n) i hS
  omega
/-- The sum of some numbers. -/
def sumN (c : Nat → Nat) : Nat → Nat
  | 0 => 0
  | i + 1 => sumN c i + c i
theorem sumN_lwS (ws : List Nat) (t : Nat) : ∀ N, lwS ws t N = sumN (cnt ws t) N
  | 0 => rfl
  | N + 1 => by rw [lwS, sumN, sumN_lwS ws t N]
theorem sumN_congr {c d : Nat → Nat} : ∀ {N : Nat}, (∀ i, i < N → c i = d i) → sumN c N = sumN d N
  | 0, _ => rfl
  | N + 1, h => by rw [sumN, sumN, sumN_congr (fun i hi => h i (by omega)), h N (by omega)]
theorem sumN_add (c d : Nat → Nat) : ∀ N, sumN (fun i => c i + d i) N = sumN c N + sumN d N
  | 0 => rfl
  | N + 1 => by rw [sumN, sumN, sumN, sumN_add c d N]; omega
theorem sumN_zero : ∀ N, sumN (fun _ => 0) N = 0
  | 0 => rfl
  | N + 1 => by rw [sumN, sumN_zero N]
theorem sumN_one (j : Nat) : ∀ N, sumN (fun i => if j = i then 1 else 0) N = if j < N then 1 else 0
  | 0 => by simp [sumN]
  | N + 1 => by
    rw [sumN, sumN_one j N]
    by_cases h1 : j < N
    · rw [if_pos h1, if_neg (by omega), if_pos (by omega)]
    · rw [if_neg h1]
      by_cases h2 : j = N
      · rw [if_pos h2, if_pos (by omega)]
      · rw [if_neg h2, if_neg (by omega)]
/-- Each result is counted once. -/
theorem count_all {α : Type} (g : α → Bool × Nat) (N : Nat) : ∀ L : List α, (∀ x ∈ L, (g x).1 = true → (g x).2 < N) → sumN (fun i => L.countP (fun x => (g x).1 && decide ((g x).2 = i))) N + L.countP (fun x => !(g x).1) = L.length
  | [], _ => by simp [sumN_zero]
  | x :: r, h => by
    have ih := count_all g N r (fun y hy => h y (List.mem_cons_of_mem _ hy))
    simp only [List.countP_cons]
    rw [sumN_add, List.length_cons]
    cases hx : (g x).1
    · simp only [Bool.false_and, Bool.not_false, if_true]
      rw [show sumN (fun i => if false = true then 1 else 0) N = 0 by simpa using sumN_zero N]
      omega
    · have h1 := h x (List.mem_cons_self ..) hx
      simp only [Bool.true_and, decide_eq_true_eq]
      rw [sumN_one, if_pos h1]
      simp
      omega
/-- What remains is late. -/
theorem pick_late {ws : List Nat} (hS : 0 < ws.sum) (n : Nat) : (allW n).countP (fun l => !(pdr (pkF ws) 0 1 l).1) = 2 ^ n - lwS ws (2 ^ n) ws.length := by
  have h := count_all (fun l => ((pdr (pkF ws) 0 1 l).1, (pdr (pkF ws) 0 1 l).2.1)) ws.length (allW n) (fun l hl hd => by
    obtain ⟨h1, h2, -⟩ := pdr_end (pkF_nest hS) l 0 1 (by omega)
    dsimp only at hd ⊢
    rw [h2 hd]
    have e : pkF ws (bvL l 0) (1 * 2 ^ l.length) = ((pkF ws (bvL l 0) (1 * 2 ^ l.length)).1, true) := by rw [← hd, h1]
    exact ((pkF_iff hS).1 e).1)
  have h2 : sumN (fun i => (allW n).countP (drawsI (pkF ws) i)) ws.length + (allW n).countP (fun l => !(pdr (pkF ws) 0 1 l).1) = (allW n).length := h
  rw [allW_length, sumN_congr (d := cnt ws (2 ^ n)) (fun i hi => pick_count hS n hi), ← sumN_lwS] at h2
  omega
end Go.Proofs.YtpehhgkghgbhiaaGreatDoor
namespace Go.Proofs.YtpehhgkghgbhiaaGreatDoor
open Go.RowKit
set_option linter.unusedVariables false
theorem cntF_mul {ws : List Nat} (t i : Nat) (hS : 0 < ws.sum) : pre ws i * t ≤ cntF ws t i * ws.sum ∧ cntF ws t i * ws.sum < pre ws i * t + ws.sum := by
  unfold cntF
  obtain ⟨a, ha⟩ : ∃ a, pre ws i * t = a := ⟨_, rfl⟩
  rw [ha]
  have h1 := Nat.div_add_mod a ws.sum
  have h2 := Nat.mod_lt a hS
  by_cases h0 : a % ws.sum = 0
  · rw [if_neg (by simpa using h0), Nat.add_zero, Nat.mul_comm]
    omega
  · rw [if_pos h0, Nat.add_mul, Nat.one_mul, Nat.mul_comm]
    omega
theorem cntE_mul {ws : List Nat} (t i : Nat) (hS : 0 < ws.sum) : cntE ws t i * ws.sum ≤ pre ws (i + 1) * t ∧ pre ws (i + 1) * t < cntE ws t i * ws.sum + ws.sum := by
  unfold cntE
  obtain ⟨a, ha⟩ : ∃ a, pre ws (i + 1) * t = a := ⟨_, rfl⟩
  rw [ha]
  have h1 := Nat.div_add_mod a ws.sum
  have h2 := Nat.mod_lt a hS
  rw [Nat.mul_comm (a / ws.sum)]
  omega
/-- How many of the first i weights are not 0. -/
def nzW (ws : List Nat) : Nat → Nat
  | 0 => 0
  | i + 1 => nzW ws i + (if ws.getD i 0 ≠ 0 then 1 else 0)
theorem nzW_le (ws : List Nat) : ∀ i, nzW ws i ≤ i
  | 0 => Nat.le_refl _
  | i + 1 => by have := nzW_le ws i; unfold nzW; split <;> omega
theorem pre_step (ws : List Nat) (i : Nat) : pre ws (i + 1) = pre ws i + ws.getD i 0 := by
  cases h : ws[i]? with
  | some x => rw [pre_succ h, List.getD_eq_getElem?_getD, h]; rfl
  | none =>
    have hl := List.getElem?_eq_none_iff.1 h
    rw [List.getD_eq_getElem?_getD, h]
    unfold pre
    rw [List.take_of_length_le hl, List.take_of_length_le (by omega)]
    rfl
theorem cnt_zero {ws : List Nat} (t : Nat) {i : Nat} (hS : 0 < ws.sum) (h : ws.getD i 0 = 0) : cnt ws t i = 0 := by
  obtain ⟨f1, f2⟩ := cntF_mul t i hS
  obtain ⟨e1, e2⟩ := cntE_mul t i hS
  rw [pre_step, h, Nat.add_zero] at e1 e2
  unfold cnt
  rcases Nat.lt_or_ge (cntF ws t i) (cntE ws t i) with h1 | h1
  · have := Nat.mul_le_mul_right ws.sum (show cntF ws t i + 1 ≤ cntE ws t i from h1)
    rw [Nat.add_mul, Nat.one_mul] at this
    omega
  · omega
theorem late_steps {ws : List Nat} (t : Nat) (hS : 0 < ws.sum) : ∀ i, (nzW ws i = 0 → pre ws i = 0 ∧ lwS ws t i = 0) ∧ (nzW ws i ≠ 0 → pre ws i * t / ws.sum + 1 ≤ lwS ws t i + nzW ws i)
  | 0 => ⟨fun _ => ⟨rfl, rfl⟩, fun h => absurd rfl h⟩
  | i + 1 => by
    obtain ⟨a1, a2⟩ := late_steps t hS i
    have hE : pre ws (i + 1) * t / ws.sum = cntE ws t i := rfl
    by_cases h0 : ws.getD i 0 = 0
    · have e1 : nzW ws (i + 1) = nzW ws i := by rw [nzW, if_neg (by simpa using h0)]; rfl
      have e2 : pre ws (i + 1) = pre ws i := by rw [pre_step, h0]; rfl
      have e3 : lwS ws t (i + 1) = lwS ws t i := by rw [lwS, cnt_zero t hS h0]; rfl
      rw [e1, e2, e3]
      exact ⟨a1, a2⟩
    · have e1 : nzW ws (i + 1) = nzW ws i + 1 := by rw [nzW, if_pos h0]
      refine ⟨fun h => by omega, fun _ => ?_⟩
      rw [e1, hE, lwS]
      by_cases h1 : nzW ws i = 0
      · obtain ⟨p0, l0⟩ := a1 h1
        have f0 : cntF ws t i = 0 := by unfold cntF; rw [p0]; simp
        unfold cnt
        rw [f0, l0, h1]
        omega
      · have b := a2 h1
        have f0 : cntF ws t i ≤ pre ws i * t / ws.sum + 1 := by unfold cntF; split <;> omega
        unfold cnt
        omega
/-- At most one cell less than there are weights that are not 0 is late. -/
theorem late_few {ws : List Nat} (t : Nat) (hS : 0 < ws.sum) : 0 < nzW ws ws.length ∧ t - lwS ws t ws.length ≤ nzW ws ws.length - 1 := by
  obtain ⟨a1, a2⟩ := late_steps t hS ws.length
  have hp : pre ws ws.length = ws.sum := pre_all (Nat.le_refl _)
  have h0 : nzW ws ws.length ≠ 0 := fun e => by
    have := (a1 e).1
    rw [hp] at this
    omega
  have h2 := a2 h0
  rw [hp, Nat.mul_div_cancel_left _ hS] at h2
  exact ⟨by omega, by omega⟩
end Go.Proofs.YtpehhgkghgbhiaaGreatDoor
namespace Go.Proofs.YtpehhgkghgbhiaaGreatDoor
open Go.RowKit
open Go.Lib (decDigits nDigits)
set_option linter.unusedVariables false
theorem op2_err {f : Rat → Rat → Rat} {s t : ByteArray} (h0 : ¬ (qE s = 0 ∧ qE t = 0)) : (if qE s = 0 then qE t else qE s) ≠ 0 ∧ op2B f s t = ⟨#[]⟩ ∧ op2E f s t = (if qE s = 0 then qE t else qE s) := by
  refine ⟨?_, by rw [op2B, if_neg h0], ?_⟩
  · split
    · rename_i h; exact fun e => h0 ⟨h, e⟩
    · rename_i h; exact h
  · rw [op2E]
    split
    · rename_i h; rw [if_neg (fun e => h0 ⟨h, e⟩)]
    · rfl
/-- The sign of a number, of a difference. -/
def sgnQ (q : Rat) : Int := if q.num = 0 then 0 else if q.num < 0 then -1 else 1
def ordQ (p q : Rat) : Int := sgnQ (p - q)
def cmB (s t : ByteArray) : Int := if qE s = 0 ∧ qE t = 0 then ordQ (vQ s) (vQ t) else 0
def cmE (s t : ByteArray) : Int := if qE s = 0 then qE t else qE s
theorem limbs_none {n : Nat} : (limbs n).length = 0 ↔ n = 0 := by
  constructor
  · intro h
    have h2 : limbs n = limbs 0 := by rw [List.eq_nil_of_length_eq_zero h, limbs_zero]
    exact limbs_inj h2
  · rintro rfl; rw [limbs_zero]; rfl
end Go.Proofs.YtpehhgkghgbhiaaGreatDoor
namespace Go.Proofs.YtpehhgkghgbhiaaGreatDoor
open Go.RowKit
open Go.Lib (decDigits nDigits)
set_option linter.unusedVariables false
/-- The sign of an integer. -/
def sgnZ (z : Int) : Int := if z = 0 then 0 else if z < 0 then -1 else 1
theorem mk_num_zero {z : Int} {d : Nat} (hd : d ≠ 0) : (mkRat z d).num = 0 ↔ z = 0 := by
  rw [Rat.num_mkRat, if_neg hd]
  have hg : (0 : Int) < (Nat.gcd d z.natAbs : Nat) := by
    have := Nat.gcd_pos_of_pos_left z.natAbs (Nat.pos_of_ne_zero hd)
    omega
  have hdv : ((Nat.gcd d z.natAbs : Nat) : Int) ∣ z := Int.ofNat_dvd_left.2 (Nat.gcd_dvd_right _ _)
  constructor
  · intro h
    have := Int.ediv_mul_cancel hdv
    rw [h, Int.zero_mul] at this
    exact this.symm
  · rintro rfl; simp
theorem mk_num_neg {z : Int} {d : Nat} (hd : d ≠ 0) : (mkRat z d).num < 0 ↔ z < 0 := by
  rw [Rat.num_mkRat, if_neg hd]
  have hg : (0 : Int) < (Nat.gcd d z.natAbs : Nat) := by
    have := Nat.gcd_pos_of_pos_left z.natAbs (Nat.pos_of_ne_zero hd)
    omega
  constructor
  · intro h
    rcases Int.lt_or_le z 0 with h1 | h1
    · exact h1
    · have := Int.ediv_nonneg h1 (Int.le_of_lt hg)
      omega
  · intro h
    exact Int.ediv_neg_of_neg_of_pos h hg
theorem sgnQ_mk {z : Int} {d : Nat} (hd : d ≠ 0) : sgnQ (mkRat z d) = sgnZ z := by
  unfold sgnQ sgnZ
  by_cases h : z = 0
  · rw [if_pos ((mk_num_zero hd).2 h), if_pos h]
  · rw [if_neg (fun e => h ((mk_num_zero hd).1 e)), if_neg h]
    by_cases h2 : z < 0
    · rw [if_pos ((mk_num_neg hd).2 h2), if_pos h2]
    · rw [if_neg (fun e => h2 ((mk_num_neg hd).1 e)), if_neg h2]
theorem mk_sub {a c : Int} {b d : Nat} (hb : b ≠ 0) (hd : d ≠ 0) : mkRat a b - mkRat c d = mkRat (a * d - c * b) (b * d) := by
  rw [Rat.sub_eq_add_neg, Rat.neg_mkRat, Rat.mkRat_add_mkRat _ _ hb hd, Int.neg_mul, Int.sub_eq_add_neg]
theorem ordQ_mk {a c : Int} {b d : Nat} (hb : b ≠ 0) (hd : d ≠ 0) : ordQ (mkRat a b) (mkRat c d) = sgnZ (a * d - c * b) := by
  unfold ordQ
  rw [mk_sub hb hd, sgnQ_mk (Nat.mul_ne_zero hb hd)]
theorem mk_half_pow : ∀ n : Nat, (mkRat 1 2 : Rat) ^ n = mkRat 1 (2 ^ n)
  | 0 => by rw [Rat.pow_zero]; rfl
  | n + 1 => by rw [Rat.pow_succ, mk_half_pow n, Rat.mkRat_mul_mkRat, Nat.pow_succ]; rfl
theorem qmk_nat (a b : Nat) : qmk false a b = mkRat (a : Int) b := by unfold qmk sgn; rfl
/-- A fraction of few digits. -/
theorem dig_frac {K : Nat} {z : Int} {d : Nat} (hd : d ≠ 0) (h1 : nDigits z.natAbs ≤ K) (h2 : nDigits d ≤ K) : Dig K (mkRat z d) :=
  dig_mk (Nat.pos_of_ne_zero hd) (Nat.lt_of_lt_of_le (Go.Lib.lt_pow_nDigits _) (Nat.pow_le_pow_right (by omega) h1)) (Nat.lt_of_lt_of_le (Go.Lib.lt_pow_nDigits _) (Nat.pow_le_pow_right (by omega) h2))
theorem shB_tx {a b : Nat} (hb : b ≠ 0) (h1 : nDigits a ≤ 4000) (h2 : nDigits b ≤ 4000) : shB a b = txQ (mkRat (a : Int) b) := by
  unfold shB
  rw [qmk_nat]
  exact outB_fits ((dig_frac hb (by simpa using h1) h2).fits (by omega) (by omega))
theorem numB_tx (k : Nat) : numB k = txQ (mkRat (k : Int) 1) := by
  have e : (mkRat (k : Int) 1 : Rat) = ((k : Int) : Rat) := by rw [Rat.mkRat_one]
  apply ba_ext
  rw [e, txQ, txB_list, numB_list]
  have : ¬ ((k : Int) < 0) := by omega
  simp [this]
theorem op2_txt {f : Rat → Rat → Rat} {p q : Rat} (hp : ¬ ovQ p) (hq : ¬ ovQ q) (h : ¬ ovQ (f p q)) : op2B f (txQ p) (txQ q) = txQ (f p q) ∧ op2E f (txQ p) (txQ q) = 0 := by
  have h1 := qE_txQ hp
  have h2 := qE_txQ hq
  refine ⟨?_, ?_⟩
  · rw [op2B, if_pos ⟨h1, h2⟩, vQ_txQ, vQ_txQ, outB_fits h]
  · rw [op2E, if_pos h1, if_pos h2, vQ_txQ, vQ_txQ, outE_fits h]
theorem cm_txt {p q : Rat} (hp : ¬ ovQ p) (hq : ¬ ovQ q) : cmB (txQ p) (txQ q) = ordQ p q ∧ cmE (txQ p) (txQ q) = 0 := by
  have h1 := qE_txQ hp
  have h2 := qE_txQ hq
  exact ⟨by rw [cmB, if_pos ⟨h1, h2⟩, vQ_txQ, vQ_txQ], by rw [cmE, if_pos h1, h2]⟩
theorem tx_size {q : Rat} (h : ¬ ovQ q) : (txQ q).size ≤ 10000 := by
  have := outB_size q
  rwa [outB_fits h] at this
end Go.Proofs.YtpehhgkghgbhiaaGreatDoor
namespace Go.Proofs.YtpehhgkghgbhiaaGreatDoor
open Go.RowKit Go.Shelf
open Go.Lib (decDigits nDigits)
set_option linter.unusedVariables false
set_option linter.unusedSimpArgs false
/-- The probability that stands at a key, or "0". -/
def valM (L : List (ByteArray × ByteArray)) (k : ByteArray) : ByteArray := ((L.find? fun p => decide (p.1 = k)).map (·.2)).getD ⟨#[48]⟩
theorem valM_none {L : List (ByteArray × ByteArray)} {k : ByteArray} (h : ∀ p ∈ L, p.1 ≠ k) : valM L k = ⟨#[48]⟩ := by
  unfold valM
  rw [List.find?_eq_none.2 (fun p hp => by simpa using h p hp)]
  rfl
theorem valM_some {L : List (ByteArray × ByteArray)} {k v : ByteArray} (hm : (k, v) ∈ L) (nd : (L.map keyL).Nodup) : valM L k = v := by
  unfold valM
  cases hf : L.find? (fun p => decide (p.1 = k)) with
  | none =>
    have := List.find?_eq_none.1 hf (k, v) hm
    simp at this
  | some p =>
    have h1 := List.mem_of_find?_eq_some hf
    have h2 : p.1 = k := by simpa using List.find?_some hf
    obtain ⟨i, hi, e1⟩ := List.getElem_of_mem h1
    obtain ⟨j, hj, e2⟩ := List.getElem_of_mem hm
    have e : i = j := by
      rcases Nat.lt_trichotomy i j with h | h | h
      · have := List.pairwise_iff_getElem.1 nd i j (by simpa using hi) (by simpa using hj) h
        simp only [List.getElem_map, e1, e2, keyL, h2, ne_eq, not_true_eq_false] at this
      · exact h
      · have := List.pairwise_iff_getElem.1 nd j i (by simpa using hj) (by simpa using hi) h
        simp only [List.getElem_map, e1, e2, keyL, h2, ne_eq, not_true_eq_false] at this
    subst e
    rw [e1] at e2
    subst e2
    rfl
theorem sortM_nd {L : List (ByteArray × ByteArray)} (nd : (L.map keyL).Nodup) : ((sortM L).map keyL).Nodup := (((List.mergeSort_perm L _).map keyL).nodup_iff).2 nd
theorem val_late (ws : List Nat) (t N : Nat) : valM (sortM (lawP ws t N)) lateB = shB (t - lwS ws t N) t := by
  by_cases h : t - lwS ws t N = 0
  · rw [h, shB_zero]
    exact valM_none fun p hp => lawP_late.2 h p (sortM_mem.1 hp)
  · exact valM_some (sortM_mem.2 (lawP_late.1 h)) (sortM_nd (reads_lawM (H := Unit) ws t N).nd)
set_option maxRecDepth 100000 in
set_option maxHeartbeats 1000000 in
theorem w_value (w : World) (v : Value) (L : List (ByteArray × ByteArray)) (k : ByteArray) (hv : MRow w v L) :
    Calls Tryz.prog 13 #[v, .string k] w fun e w' => e = .returned (.string (valM L k)) ∧ w = w' := by
  obtain ⟨a, c, rfl, h1, h2, h3⟩ := hv.ex
  obtain ⟨n, hn⟩ : ∃ n, L.length = n := ⟨_, rfl⟩
  rw [hn] at h1 ⊢
  have H3 := hid h3; have HN := hid hn
  clear hv h3 hn
  go_enter Tryz.func13, Tryz.ntmps13
  go_wp2_with fail
  go_loop [5] (fun ii => ∃ i : Nat, ii = .int .i64 (i : Nat) ∧ i ≤ n ∧ Hid (valM L k = valM (L.drop i) k)) (fun ii => n - (intOf ii).toNat)
  case atStart => exact ⟨0, rfl, Nat.zero_le _, rfl⟩
  case round =>
    obtain ⟨i, rfl, hi, hI⟩ := hrel
    by_cases hlt : i < n
    · obtain ⟨p, hp⟩ : ∃ x, L[i]? = some x := ⟨_, List.getElem?_eq_getElem (by rw [HN.out]; exact hlt)⟩
      obtain ⟨g, o, rfl, hg, m1, m2⟩ := H3.out i p hp
      have hd : L.drop i = p :: L.drop (i + 1) := by
        obtain ⟨h, rfl⟩ := List.getElem?_eq_some_iff.1 hp
        exact List.drop_eq_getElem_cons h
      obtain ⟨x1, x2⟩ := p
      dsimp only at m1 m2
      rw [Nat.mul_comm 2 i] at m1 m2
      have b1 : (0 : Int) ≤ (i : Int) := by omega
      have b2 : (i : Int) < (n : Int) := by omega
      have wi : IntKind.i64.wrap ((i : Int) + 1) = (i : Int) + 1 := by rw [IntWalk.i64_in _ ⟨by omega, by omega⟩]
      by_cases he : x1 = k
      · subst he
        have hR : valM L x1 = x2 := by rw [hI.out, hd, valM, List.find?_cons_of_pos (by simp)]; rfl
        have HR := hid hR
        clear hp hg hd hR
        go_wp2_with fail
        go_ret
        exact ⟨by rw [HR.out]; rfl, rfl⟩
      · have hR : Hid (valM L k = valM (L.drop (i + 1)) k) := by show valM L k = _; rw [hI.out, hd, valM, List.find?_cons_of_neg (by simpa using he)]; rfl
        have n1 : (x1.toList == k.toList) = false := by rw [beq_eq_false_iff_ne]; exact ne_tl he
        clear hp hg hd he
        go_wp2_with fail
        go_round
        case rel => exact ⟨i + 1, by go_num, by omega, hR⟩
        case measure => simp [intOf] <;> omega
    · obtain rfl : i = n := by omega
      have q1 : decide ((i : Int) < (i : Int)) = false := by simp
      have hR : valM L k = ⟨#[48]⟩ := by rw [hI.out, List.drop_of_length_le (by rw [HN.out]; exact Nat.le_refl _)]; rfl
      have HR := hid hR
      clear hlt hR
      go_wp2_with fail
      go_ret
      exact ⟨by rw [HR.out]; rfl, rfl⟩
end Go.Proofs.YtpehhgkghgbhiaaGreatDoor
namespace Go.Proofs.YtpehhgkghgbhiaaGreatDoor
open Go.RowKit
open Go.Lib (decDigits nDigits)
set_option linter.unusedVariables false
/-- The weights of the law: at most 64, of at most 300 digits, not all 0. -/
structure Few (ws : List Nat) : Prop where
  len : ws.length ≤ 64
  dig : ∀ x ∈ ws, nDigits x ≤ 300
  pos : 0 < ws.sum
theorem Few.sum {ws : List Nat} (h : Few ws) : nDigits ws.sum ≤ 302 := nd_sum h.dig (by have := h.len; omega)
theorem Few.pre {ws : List Nat} (h : Few ws) (i : Nat) : nDigits (pre ws i) ≤ 302 := nd_pre i h.sum
theorem Few.at {ws : List Nat} (h : Few ws) (i : Nat) : nDigits (ws.getD i 0) ≤ 300 := by
  cases hx : ws[i]? with
  | some x => rw [List.getD_eq_getElem?_getD, hx]; exact h.dig x (List.mem_of_getElem? hx)
  | none => rw [List.getD_eq_getElem?_getD, hx]; exact Nat.le_trans (by rw [show (none : Option Nat).getD 0 = 0 from rfl, nDigits_zero]; exact Nat.le_refl 1) (by omega)
theorem Few.cnt {ws : List Nat} (h : Few ws) {m : Nat} (hm : m ≤ 256) (i : Nat) : nDigits (cnt ws (2 ^ m) i) ≤ 300 := by
  have h1 := nDigits_mono (Nat.le_trans (cnt_le ws (2 ^ m) i h.pos) (Nat.sub_le _ _))
  have h2 := two_nd (u := m) (by omega)
  omega
theorem two_ne (m : Nat) : 2 ^ m ≠ 0 := Nat.ne_of_gt (Nat.pow_pos (by omega))
def szQ (t : Nat) : Rat := mkRat 1 t
theorem frac_fits {K : Nat} {z : Int} {d : Nat} (hd : d ≠ 0) (h1 : nDigits z.natAbs ≤ K) (h2 : nDigits d ≤ K) (hk : K ≤ 4000) : ¬ ovQ (mkRat z d) := by
  have h := dig_frac hd h1 h2
  refine h.fits ?_ hk
  have := nd_pos d
  omega
section
variable {ws : List Nat} {m : Nat} (h : Few ws) (hm : m ≤ 256)
include h
include hm
omit hm
end
theorem sz_dig {m : Nat} (hm : m ≤ 256) : Dig 302 (szQ (2 ^ m)) := dig_frac (two_ne m) (by rw [show (1 : Int).natAbs = 1 from rfl, nDigits_one]; omega) (by have := two_nd (u := m) (by omega); omega)
theorem half_tx : (⟨#[49, 47, 50]⟩ : ByteArray) = txQ (mkRat 1 2) := by
  apply ba_ext
  rw [txQ, txB_list]
  have e1 : (mkRat 1 2 : Rat).num = 1 := by decide +kernel
  have e2 : (mkRat 1 2 : Rat).den = 2 := by decide +kernel
  rw [e1, e2]
  simp [decDigits_small]
theorem half_fits : ¬ ovQ (mkRat 1 2) := frac_fits (K := 1) (by decide) (by rw [show (1 : Int).natAbs = 1 from rfl, nDigits_one]; omega) (by rw [Go.Lib.nDigits_small (by omega)]; omega) (by omega)
theorem half_ok : qE ⟨#[49, 47, 50]⟩ = 0 ∧ vQ ⟨#[49, 47, 50]⟩ = mkRat 1 2 ∧ 0 ≤ (mkRat 1 2 : Rat).num := by
  rw [half_tx]
  exact ⟨qE_txQ half_fits, vQ_txQ _, by decide +kernel⟩
theorem near_pow {m : Nat} (hm : m ≤ 256) : outB ((mkRat 1 2 : Rat) ^ m) = txQ (szQ (2 ^ m)) ∧ outE ((mkRat 1 2 : Rat) ^ m) = 0 := by
  rw [mk_half_pow]
  have f := (sz_dig hm).fits (by omega) (by omega)
  exact ⟨outB_fits f, outE_fits f⟩
theorem near_mul {m : Nat} (hm : m ≤ 256) {k : Nat} (hk : nDigits k ≤ 300) : op2B (· * ·) (numB k) (txQ (szQ (2 ^ m))) = txQ (mkRat (k : Nat) (2 ^ m)) ∧ op2E (· * ·) (numB k) (txQ (szQ (2 ^ m))) = 0 := by
  have e : (mkRat (k : Int) 1 : Rat) * szQ (2 ^ m) = mkRat (k : Nat) (2 ^ m) := by
    unfold szQ
    rw [Rat.mkRat_mul_mkRat, Int.mul_one, Nat.one_mul]
  have d1 : Dig 302 (mkRat (k : Int) 1) := dig_frac (by omega) (by simpa using (by omega : nDigits k ≤ 302)) (by rw [nDigits_one]; omega)
  rw [numB_tx, ← e]
  exact op2_txt (d1.fits (by omega) (by omega)) ((sz_dig hm).fits (by omega) (by omega)) ((dig_mul d1 (sz_dig hm)).fits (by omega) (by omega))
theorem near_late {m : Nat} (hm : m ≤ 256) {L k : Nat} (hL : L ≤ k) (hk : nDigits k ≤ 300) : cmB (shB L (2 ^ m)) (txQ (mkRat (k : Nat) (2 ^ m))) ≤ 0 ∧ cmE (shB L (2 ^ m)) (txQ (mkRat (k : Nat) (2 ^ m))) = 0 := by
  have nt := two_nd (u := m) (by omega)
  have hLd := nDigits_mono hL
  rw [shB_tx (two_ne m) (by omega) (by omega)]
  have f1 : ¬ ovQ (mkRat (L : Int) (2 ^ m)) := frac_fits (K := 302) (two_ne m) (by simpa using (by omega : nDigits L ≤ 302)) (by omega) (by omega)
  have f2 : ¬ ovQ (mkRat (k : Int) (2 ^ m)) := frac_fits (K := 302) (two_ne m) (by simpa using (by omega : nDigits k ≤ 302)) (by omega) (by omega)
  obtain ⟨e1, e2⟩ := cm_txt f1 f2
  refine ⟨?_, e2⟩
  rw [e1, ordQ_mk (two_ne m) (two_ne m)]
  have h1 : ((L * 2 ^ m : Nat) : Int) ≤ ((k * 2 ^ m : Nat) : Int) := Int.ofNat_le.2 (Nat.mul_le_mul_right _ hL)
  rw [Int.natCast_mul, Int.natCast_mul] at h1
  unfold sgnZ
  split
  · omega
  · split
    · omega
    · omega
end Go.Proofs.YtpehhgkghgbhiaaGreatDoor
namespace Go.Proofs.YtpehhgkghgbhiaaGreatDoor
open Go.RowKit
open Go.Lib (decDigits nDigits)
set_option linter.unusedVariables false
/-- The sign of a number. -/
def sgQ (q : Rat) : Int := if q.num = 0 then 0 else if q.num < 0 then -1 else 1
theorem sgQ_zero {q : Rat} (h : q.num = 0) : sgQ q = 0 := if_pos h
theorem sgQ_neg {q : Rat} (h : ¬ q.num = 0) (h2 : q.num < 0) : sgQ q = -1 := by rw [sgQ, if_neg h, if_pos h2]
theorem sgQ_pos {q : Rat} (h : ¬ q.num = 0) (h2 : ¬ q.num < 0) : sgQ q = 1 := by rw [sgQ, if_neg h, if_neg h2]
theorem f_Sign (w : World) (v : Value) (q : Rat) (h : IsQ .u64 w v q) :
    Calls Tryz.prog 215 #[v] w fun e w' => e = .returned (.int .i64 (sgQ q)) ∧ Below w.heap.size w w' := by
  obtain ⟨N, D, rfl, hn, hd⟩ := h.ex
  obtain ⟨m, hm⟩ : ∃ m, decide (q.num < 0) = m := ⟨_, rfl⟩
  have HN := hid hn; have HM := hid hm
  rw [hm]
  obtain ⟨a1, c1, rfl, _⟩ := hn.openI
  obtain ⟨a2, c2, rfl, _⟩ := hd.openI
  obtain ⟨k1, hk1⟩ : ∃ k, (limbs q.num.natAbs).length = k := ⟨_, rfl⟩
  obtain ⟨k2, hk2⟩ : ∃ k, (limbs q.den).length = k := ⟨_, rfl⟩
  rw [hk1] at HN ⊢
  rw [hk2]
  have b0 := hid ((Below.refl w.heap.size w).alloc (Nat.le_refl _) (.cells #[.bool m, .slice a1 k1 c1, .slice a2 k2 c2] 127))
  have N0 := hid (HN.out.call b0.out)
  clear hn hd hm h hk1 hk2
  go_enter Tryz.func215, Tryz.ntmps215
  go_wp2_with fail
  refine (l_Zero _ _ _ N0.out).mono ?_; rintro e w1 ⟨rfl, rfl⟩
  by_cases hz : q.num = 0
  · have h1 : isZ q.num.natAbs = true := isZ_iff.2 (by omega)
    rw [h1]
    have HZ := hid hz
    clear h1 hz
    go_wp2_with fail
    go_ret
    exact ⟨ret_int (sgQ_zero HZ.out).symm, b0.out⟩
  · have h1 : isZ q.num.natAbs = false := decide_eq_false (by omega)
    rw [h1]
    have HZ := hid hz
    clear h1 hz
    cases m
    · go_wp2_with fail
      go_ret
      exact ⟨ret_int (sgQ_pos HZ.out (of_decide_eq_false HM.out)).symm, b0.out⟩
    · go_wp2_with fail
      go_ret
      exact ⟨ret_int (sgQ_neg HZ.out (of_decide_eq_true HM.out)).symm, b0.out⟩
end Go.Proofs.YtpehhgkghgbhiaaGreatDoor
namespace Go.Proofs.YtpehhgkghgbhiaaGreatDoor
open Go.RowKit
set_option linter.unusedVariables false
/-- What Frac.Cmp gives. -/
def cmF (p q : Rat) : Int := if sgQ p ≠ sgQ q then sgQ p - sgQ q else if p.num < 0 then -ordN (p.num.natAbs * q.den) (q.num.natAbs * p.den) else ordN (p.num.natAbs * q.den) (q.num.natAbs * p.den)
theorem sgQ_scale {q : Rat} {d : Nat} (hd : 0 < d) : sgQ q = sgnZ (q.num * (d : Int)) := by
  have hd' : (0 : Int) < (d : Int) := by omega
  unfold sgQ sgnZ
  by_cases h0 : q.num = 0
  · rw [if_pos h0, h0, Int.zero_mul, if_pos rfl]
  · rw [if_neg h0]
    have hne : q.num * (d : Int) ≠ 0 := Int.mul_ne_zero h0 (by omega)
    rw [if_neg hne]
    by_cases h1 : q.num < 0
    · rw [if_pos h1, if_pos (Int.mul_neg_of_neg_of_pos h1 hd')]
    · rw [if_neg h1, if_neg (by have := Int.mul_pos (a := q.num) (b := (d : Int)) (by omega) hd'; omega)]
theorem clamp_int {P Q : Int} {a b : Nat} (ha : P.natAbs = a) (hb : Q.natAbs = b) :
    max (-1) (min 1 (if sgnZ P ≠ sgnZ Q then sgnZ P - sgnZ Q else if P < 0 then -ordN a b else ordN a b)) = sgnZ (P - Q) := by
  unfold sgnZ ordN
  split <;> (repeat' split) <;> omega
theorem cmF_clamp (p q : Rat) : max (-1) (min 1 (cmF p q)) = ordQ p q := by
  have e1 : ordQ p q = sgnZ (p.num * q.den - q.num * p.den) := by
    have h := ordQ_mk (a := p.num) (b := p.den) (c := q.num) (d := q.den) p.den_nz q.den_nz
    rw [Rat.mkRat_self, Rat.mkRat_self] at h
    exact h
  have h1 := sgQ_scale (q := p) (d := q.den) q.den_pos
  have h2 := sgQ_scale (q := q) (d := p.den) p.den_pos
  have hP : (p.num * (q.den : Int)).natAbs = p.num.natAbs * q.den := by rw [Int.natAbs_mul, Int.natAbs_natCast]
  have hQ : (q.num * (p.den : Int)).natAbs = q.num.natAbs * p.den := by rw [Int.natAbs_mul, Int.natAbs_natCast]
  have hs : p.num < 0 ↔ p.num * (q.den : Int) < 0 := by
    have hd : (0 : Int) < (q.den : Int) := by have := q.den_pos; omega
    constructor
    · intro h; exact Int.mul_neg_of_neg_of_pos h hd
    · intro h
      rcases Int.lt_or_le p.num 0 with h' | h'
      · exact h'
      · exact absurd (Int.mul_nonneg h' (Int.le_of_lt hd)) (by omega)
  rw [e1, ← clamp_int hP hQ, ← h1, ← h2]
  unfold cmF
  simp only [hs]
theorem sgnZ_pos {z : Int} : (0 < sgnZ z ↔ 0 < z) ∧ (sgnZ z < 0 ↔ z < 0) ∧ (sgnZ z = 0 ↔ z = 0) := by
  unfold sgnZ
  split <;> (repeat' split) <;> omega
end Go.Proofs.YtpehhgkghgbhiaaGreatDoor
namespace Go.Proofs.YtpehhgkghgbhiaaGreatDoor
open Go.RowKit
open Go.Lib (decDigits nDigits)
set_option linter.unusedVariables false
/-- The error of the bound, its text. -/
def ltcE (many n : Int) : Int := if many < 1 ∨ 64 < many ∨ n < 0 ∨ 256 < n then 2 else 0
def ltcV (k m : Nat) : ByteArray := if 2 ^ m < k then ⟨#[49]⟩ else shB k (2 ^ m)
def ltcB (many n : Int) : ByteArray := if ltcE many n = 0 then ltcV (many.toNat - 1) n.toNat else ⟨#[]⟩
theorem lt_ok {many n : Int} (h : ltcE many n = 0) : ∃ k m : Nat, many = ((k + 1 : Nat) : Int) ∧ k ≤ 63 ∧ n = (m : Nat) ∧ m ≤ 256 := by
  unfold ltcE at h
  split at h
  · exact absurd h (by decide)
  · rename_i h0
    exact ⟨many.toNat - 1, n.toNat, by omega, by omega, by omega, by omega⟩
theorem lt_at {k m : Nat} (hk : k ≤ 63) (hm : m ≤ 256) : ltcE ((k + 1 : Nat) : Int) (m : Nat) = 0 ∧ ltcB ((k + 1 : Nat) : Int) (m : Nat) = ltcV k m := by
  have e : ltcE ((k + 1 : Nat) : Int) (m : Nat) = 0 := by rw [ltcE, if_neg (by omega)]
  refine ⟨e, ?_⟩
  rw [ltcB, if_pos e, Int.toNat_natCast, Int.toNat_natCast, Nat.add_sub_cancel]
theorem few_nd {k : Nat} (hk : k ≤ 63) : nDigits k ≤ 2 := by
  have := nDigits_mono (show k ≤ 99 by omega)
  have e : nDigits 99 = 2 := by decide +kernel
  omega
theorem lt_fits {k m : Nat} (hk : k ≤ 63) (hm : m ≤ 256) : ¬ ovQ (mkRat (k : Int) (2 ^ m)) := by
  have nt := two_nd (u := m) (by omega)
  have := few_nd hk
  exact frac_fits (K := 302) (two_ne m) (by simpa using (by omega : nDigits k ≤ 302)) (by omega) (by omega)
theorem lt_tx {k m : Nat} (hk : k ≤ 63) (hm : m ≤ 256) : shB k (2 ^ m) = txQ (mkRat (k : Int) (2 ^ m)) := by
  have nt := two_nd (u := m) (by omega)
  have := few_nd hk
  exact shB_tx (two_ne m) (by omega) (by omega)
theorem sh_size {k m : Nat} : (shB k m).size ≤ 10000 := outB_size _
/-- The bound against 1. -/
theorem lt_one {k m : Nat} (hk : k ≤ 63) (hm : m ≤ 256) : cmB (shB k (2 ^ m)) ⟨#[49]⟩ = sgnZ ((k : Int) - ((2 ^ m : Nat) : Int)) ∧ cmE (shB k (2 ^ m)) ⟨#[49]⟩ = 0 := by
  have e1 : (⟨#[49]⟩ : ByteArray) = txQ (mkRat (1 : Int) 1) := by
    have := numB_tx 1
    rw [numB_one] at this
    exact this
  have f2 : ¬ ovQ (mkRat (1 : Int) 1) := frac_fits (K := 1) (by decide) (by rw [show (1 : Int).natAbs = 1 from rfl, nDigits_one]; omega) (by rw [nDigits_one]; omega) (by omega)
  rw [lt_tx hk hm, e1]
  obtain ⟨h1, h2⟩ := cm_txt (lt_fits hk hm) f2
  refine ⟨?_, h2⟩
  rw [h1, ordQ_mk (two_ne m) (by decide)]
  congr 1
  rw [Int.natCast_one, Int.mul_one, Int.one_mul]
/-- How texts of numbers are least, greatest. -/
def mnB (s t : ByteArray) : ByteArray := if cmE s t = 0 then (if 0 < cmB s t then t else s) else ⟨#[]⟩
theorem cmB_three (s t : ByteArray) : cmB s t = -1 ∨ cmB s t = 0 ∨ cmB s t = 1 := by
  unfold cmB ordQ sgnQ
  split
  · split
    · simp
    · split <;> simp
  · simp
theorem lt_min {k m : Nat} (hk : k ≤ 63) (hm : m ≤ 256) : mnB (shB k (2 ^ m)) ⟨#[49]⟩ = ltcV k m := by
  obtain ⟨h1, h2⟩ := lt_one hk hm
  rw [mnB, if_pos h2, h1, ltcV]
  have := (sgnZ_pos (z := (k : Int) - ((2 ^ m : Nat) : Int))).1
  by_cases h : 2 ^ m < k
  · rw [if_pos h, if_pos (this.2 (by omega))]
  · rw [if_neg h, if_neg (fun hh => by have := this.1 hh; omega)]
/-- The late ones are bounded. -/
theorem lt_bound {L k m : Nat} (hk : k ≤ 63) (hm : m ≤ 256) (hL : L ≤ k) (hL2 : L ≤ 2 ^ m) : cmB (shB L (2 ^ m)) (ltcV k m) ≤ 0 ∧ cmE (shB L (2 ^ m)) (ltcV k m) = 0 := by
  unfold ltcV
  split
  · rename_i h
    have hl : L ≤ 63 := by omega
    obtain ⟨h1, h2⟩ := lt_one hl hm
    refine ⟨?_, h2⟩
    rw [h1]
    have := (sgnZ_pos (z := (L : Int) - ((2 ^ m : Nat) : Int))).1
    rcases Int.lt_or_le 0 (sgnZ ((L : Int) - ((2 ^ m : Nat) : Int))) with h3 | h3
    · have := this.1 h3; omega
    · exact h3
  · have := few_nd hk
    rw [lt_tx hk hm]
    exact near_late hm hL (by omega)
end Go.Proofs.YtpehhgkghgbhiaaGreatDoor
namespace Go.Proofs.YtpehhgkghgbhiaaGreatDoor
open Go.RowKit
set_option linter.unusedVariables false
set_option linter.unusedSimpArgs false
/-- The six cells of two fractions that lie in the blocks b and b + 1. -/
def twoF (b : Nat) (m1 m2 : Bool) (n1 d1 n2 d2 : Value) (w : World) : Prop :=
  w.cell? ⟨b, 0, none⟩ = some (.bool m1) ∧ w.cell? ⟨b, 1, none⟩ = some n1 ∧ w.cell? ⟨b, 2, none⟩ = some d1 ∧ w.cell? ⟨b + 1, 0, none⟩ = some (.bool m2) ∧ w.cell? ⟨b + 1, 1, none⟩ = some n2 ∧ w.cell? ⟨b + 1, 2, none⟩ = some d2
/-- Three blocks are laid: two fractions and a result. -/
structure Three (w W : World) (m1 m2 : Bool) (n1 d1 n2 d2 : Value) : Prop where
  below : Below w.heap.size w W
  size : W.heap.size = w.heap.size + 3
  b0 : Blk W w.heap.size #[.bool m1, n1, d1] 127
  b1 : Blk W (w.heap.size + 1) #[.bool m2, n2, d2] 127
  b2 : Blk W (w.heap.size + 1 + 1) #[.bool false, .slice none 0 0, .slice none 0 0] 127
theorem Three.mk' {w W : World} {m1 m2 : Bool} {n1 d1 n2 d2 : Value} (h : ((w.alloc (.cells #[.bool m1, n1, d1] 127)).alloc (.cells #[.bool m2, n2, d2] 127)).alloc (.cells #[.bool false, .slice none 0 0, .slice none 0 0] 127) = W) : Three w W m1 m2 n1 d1 n2 d2 := by
  subst h
  exact ⟨(((Below.refl _ _).alloc (Nat.le_refl _) _).alloc (by simp) _).alloc (by simp; omega) _, by simp, ((Blk.new w _ _).alloc _).alloc _, (Blk.made (w.alloc _) _ _ (by simp)).alloc _, Blk.made ((w.alloc _).alloc _) _ _ (by simp)⟩
theorem Three.cells {w W V : World} {m1 m2 : Bool} {n1 d1 n2 d2 : Value} (h : Three w W m1 m2 n1 d1 n2 d2) (hb : Below W.heap.size W V) : twoF w.heap.size m1 m2 n1 d1 n2 d2 V :=
  have y0 := h.b0.call hb
  have y1 := h.b1.call hb
  ⟨y0.cell 0, y0.cell 1, y0.cell 2, y1.cell 0, y1.cell 1, y1.cell 2⟩
end Go.Proofs.YtpehhgkghgbhiaaGreatDoor
namespace Go.Proofs.YtpehhgkghgbhiaaGreatDoor
open Go.RowKit
set_option linter.unusedVariables false
set_option linter.unusedSimpArgs false
theorem sgQ_bd (q : Rat) : -1 ≤ sgQ q ∧ sgQ q ≤ 1 := by
  unfold sgQ
  split
  · omega
  · split <;> omega
theorem ordN_bd (a b : Nat) : -1 ≤ ordN a b ∧ ordN a b ≤ 1 := by
  unfold ordN
  split
  · omega
  · split <;> omega
set_option maxRecDepth 100000 in
set_option maxHeartbeats 4000000 in
theorem f_Cmp (w : World) (v u : Value) (p q : Rat) (hp : IsQ .u64 w v p) (hq : IsQ .u64 w u q)
    (h1 : (limbs p.num.natAbs).length ≤ 100000) (h2 : (limbs p.den).length ≤ 100000) (h3 : (limbs q.num.natAbs).length ≤ 100000) (h4 : (limbs q.den).length ≤ 100000) :
    Calls Tryz.prog 179 #[v, u] w fun e w' => e = .returned (.int .i64 (cmF p q)) ∧ Below w.heap.size w w' := by
  have PS1 := fun V v h => hid (f_Sign V v p h)
  have PS2 := fun V v h => hid (f_Sign V v q h)
  have PM1 := fun V v u hv hu => hid (l_Mul V v u p.num.natAbs q.den hv hu (Nat.le_trans h1 (by omega)) (Nat.le_trans h4 (by omega)))
  have PM2 := fun V v u hv hu => hid (l_Mul V v u q.num.natAbs p.den hv hu (Nat.le_trans h3 (by omega)) (Nat.le_trans h2 (by omega)))
  have lx := len_mul h1 h4
  have PC := fun V v u hv hu => hid (l_Cmp V v u (p.num.natAbs * q.den) (q.num.natAbs * p.den) hv hu (Nat.le_trans lx (by omega)))
  have bp := sgQ_bd p
  have bq := sgQ_bd q
  have bo := ordN_bd (p.num.natAbs * q.den) (q.num.natAbs * p.den)
  obtain ⟨Z, hZ⟩ : ∃ z, cmF p q = z := ⟨_, rfl⟩
  rw [hZ]
  unfold cmF at hZ
  obtain ⟨s1, hs1⟩ : ∃ z, sgQ p = z := ⟨_, rfl⟩
  obtain ⟨s2, hs2⟩ : ∃ z, sgQ q = z := ⟨_, rfl⟩
  obtain ⟨oc, hoc⟩ : ∃ z, ordN (p.num.natAbs * q.den) (q.num.natAbs * p.den) = z := ⟨_, rfl⟩
  rw [hs1] at PS1 bp hZ
  rw [hs2] at PS2 bq hZ
  rw [hoc] at PC bo hZ
  have HZ := hid hZ
  have HP := hid hp; have HQ := hid hq
  obtain ⟨N1, D1, rfl, hn1, hd1⟩ := hp.ex
  obtain ⟨N2, D2, rfl, hn2, hd2⟩ := hq.ex
  have HN1 := hid hn1; have HD1 := hid hd1; have HN2 := hid hn2; have HD2 := hid hd2
  obtain ⟨a1, c1, rfl, _⟩ := hn1.openI
  obtain ⟨a2, c2, rfl, _⟩ := hd1.openI
  obtain ⟨a3, c3, rfl, _⟩ := hn2.openI
  obtain ⟨a4, c4, rfl, _⟩ := hd2.openI
  obtain ⟨k1, hk1⟩ : ∃ k, (limbs p.num.natAbs).length = k := ⟨_, rfl⟩
  obtain ⟨k2, hk2⟩ : ∃ k, (limbs p.den).length = k := ⟨_, rfl⟩
  obtain ⟨k3, hk3⟩ : ∃ k, (limbs q.num.natAbs).length = k := ⟨_, rfl⟩
  obtain ⟨k4, hk4⟩ : ∃ k, (limbs q.den).length = k := ⟨_, rfl⟩
  obtain ⟨m1, hm1⟩ : ∃ m, decide (p.num < 0) = m := ⟨_, rfl⟩
  obtain ⟨m2, hm2⟩ : ∃ m, decide (q.num < 0) = m := ⟨_, rfl⟩
  rw [hk1] at HN1; rw [hk2] at HD1; rw [hk3] at HN2; rw [hk4] at HD2
  rw [hk1, hk2, hm1] at HP ⊢
  rw [hk3, hk4, hm2] at HQ ⊢
  have HM1 : Hid ((p.num < 0) ↔ m1 = true) := by rw [← hm1]; simp [Hid]
  clear hZ hk1 hk2 hk3 hk4 hm1 hm2 hn1 hn2 hd1 hd2 hp hq h1 h2 h3 h4 lx hs1 hs2 hoc
  have W12 : IntKind.i64.wrap (s1 - s2) = s1 - s2 := IntWalk.i64_in _ ⟨by omega, by omega⟩
  have WO : IntKind.i64.wrap (-oc) = -oc := IntWalk.i64_in _ ⟨by omega, by omega⟩
  clear bp bq bo
  go_enter Tryz.func179, Tryz.ntmps179
  go_wp2_with fail
  obtain ⟨W, hW⟩ : ∃ W, (w.alloc (.cells #[.bool m1, .slice a1 k1 c1, .slice a2 k2 c2] 127)).alloc (.cells #[.bool m2, .slice a3 k3 c3, .slice a4 k4 c4] 127) = W := ⟨_, rfl⟩
  have Y0 : Blk W w.heap.size #[.bool m1, .slice a1 k1 c1, .slice a2 k2 c2] 127 := by rw [← hW]; exact (Blk.new w _ _).alloc _
  have Y1 : Blk W (w.heap.size + 1) #[.bool m2, .slice a3 k3 c3, .slice a4 k4 c4] 127 := by rw [← hW]; exact Blk.made _ _ _ (by simp)
  have y0 : Below w.heap.size w W := by rw [← hW]; exact ((Below.refl _ _).alloc (Nat.le_refl _) _).alloc (by simp) _
  rw [hW]
  have KK : Hid (∀ w', Below W.heap.size W w' → w'.cell? ⟨w.heap.size, 0, none⟩ = some (.bool m1) ∧ w'.cell? ⟨w.heap.size, 1, none⟩ = some (.slice a1 k1 c1) ∧ w'.cell? ⟨w.heap.size, 2, none⟩ = some (.slice a2 k2 c2) ∧ w'.cell? ⟨w.heap.size + 1, 0, none⟩ = some (.bool m2) ∧ w'.cell? ⟨w.heap.size + 1, 1, none⟩ = some (.slice a3 k3 c3) ∧ w'.cell? ⟨w.heap.size + 1, 2, none⟩ = some (.slice a4 k4 c4)) := fun w' hb =>
    ⟨(Y0.call hb).cell 0, (Y0.call hb).cell 1, (Y0.call hb).cell 2, (Y1.call hb).cell 0, (Y1.call hb).cell 1, (Y1.call hb).cell 2⟩
  have Q1 := hid (HP.out.call y0); have Q2 := hid (HQ.out.call y0)
  have N1' := hid (HN1.out.call y0); have D1' := hid (HD1.out.call y0); have N2' := hid (HN2.out.call y0); have D2' := hid (HD2.out.call y0)
  have HY := hid y0
  clear Y0 Y1 y0 hW HN1 HD1 HN2 HD2 HP HQ
  refine held_plain [0, 2] 4 (fun w' => w'.cell? ⟨w.heap.size, 0, none⟩ = some (.bool m1) ∧ w'.cell? ⟨w.heap.size, 1, none⟩ = some (.slice a1 k1 c1) ∧ w'.cell? ⟨w.heap.size, 2, none⟩ = some (.slice a2 k2 c2) ∧ w'.cell? ⟨w.heap.size + 1, 0, none⟩ = some (.bool m2) ∧ w'.cell? ⟨w.heap.size + 1, 1, none⟩ = some (.slice a3 k3 c3) ∧ w'.cell? ⟨w.heap.size + 1, 2, none⟩ = some (.slice a4 k4 c4)) (by kernel_rfl) (by kernel_rfl) (by kernel_rfl) (by kernel_rfl) (KK.out _ (Below.refl _ _).drew) ?_
  iterate 2
    refine ⟨_, rfl, ?_⟩
    apply Exists.intro
    refine ⟨.inl ⟨by rfl, ?_⟩, ?_⟩
    · (intro W' hW'; obtain ⟨q1, q2, q3, q4, q5, q6⟩ := hW'; go_simp; try (with_reducible rfl))
    (dsimp only [Act.put]; try simp only [List.setIfInBounds_toArray, List.set_cons_zero, List.set_cons_succ])
  refine held_one (i := 1) (by kernel_rfl) (by rfl) (by rfl) ?_
  go_wp2_with fail
  refine (PS1 _ _ (Q1.out.call (Below.refl _ _).drew)).out.mono ?_; rintro e w1 ⟨rfl, hb1⟩
  have x1 := hid (show Below W.heap.size W w1 from (Below.refl _ _).drew.trans hb1)
  clear hb1
  go_wp2_with fail
  refine ⟨KK.out _ x1.out, ?_⟩
  refine held_one (i := 3) (by kernel_rfl) (by rfl) (by rfl) ?_
  go_wp2_with fail
  refine (PS2 _ _ (Q2.out.call x1.out)).out.mono ?_; rintro e w2 ⟨rfl, hb2⟩
  have x2 := hid (bnext x1.out hb2)
  clear hb2
  go_wp2_with fail
  refine ⟨KK.out _ x2.out, ?_⟩
  refine held_more (is := [4, 5]) (g := 0) (by kernel_rfl) rfl (KK.out _ x2.out) (by kernel_rfl) ?_
  iterate 2
    refine ⟨_, rfl, ?_⟩
    apply Exists.intro
    refine ⟨.inl ⟨by rfl, ?_⟩, ?_⟩
    · (intro W' hW'; obtain ⟨q1, q2, q3, q4, q5, q6⟩ := hW'; go_simp; try (with_reducible rfl))
    (dsimp only [Act.put]; try simp only [List.setIfInBounds_toArray, List.set_cons_zero, List.set_cons_succ])
  refine wpAnyH_done (by kernel_rfl) ?_ _
  simp only [Only]
  by_cases hne : s1 = s2
  · subst hne
    have t0 : (s1 != s1) = false := by simp
    go_wp2_with fail
    refine held_plain [0, 1, 2, 3, 5, 6, 7, 8] 4 (fun w' => w'.cell? ⟨w.heap.size, 0, none⟩ = some (.bool m1) ∧ w'.cell? ⟨w.heap.size, 1, none⟩ = some (.slice a1 k1 c1) ∧ w'.cell? ⟨w.heap.size, 2, none⟩ = some (.slice a2 k2 c2) ∧ w'.cell? ⟨w.heap.size + 1, 0, none⟩ = some (.bool m2) ∧ w'.cell? ⟨w.heap.size + 1, 1, none⟩ = some (.slice a3 k3 c3) ∧ w'.cell? ⟨w.heap.size + 1, 2, none⟩ = some (.slice a4 k4 c4)) (by kernel_rfl) (by kernel_rfl) (by kernel_rfl) (by kernel_rfl) (KK.out _ x2.out.drew) ?_
    iterate 8
      refine ⟨_, rfl, ?_⟩
      apply Exists.intro
      refine ⟨.inl ⟨by rfl, ?_⟩, ?_⟩
      · (intro W' hW'; obtain ⟨q1, q2, q3, q4, q5, q6⟩ := hW'; go_simp; try (with_reducible rfl))
      (dsimp only [Act.put]; try simp only [List.setIfInBounds_toArray, List.set_cons_zero, List.set_cons_succ])
    refine held_one (i := 4) (by kernel_rfl) (by rfl) (by rfl) ?_
    go_wp2_with fail
    refine (PM1 _ _ _ (N1'.out.call x2.out.drew) (D2'.out.call x2.out.drew)).out.mono ?_; rintro e w3 ⟨⟨v3, rfl, hv3⟩, hb3⟩
    have x3 := hid (show Below W.heap.size W w3 from bnext x2.out.drew hb3)
    have V3 := hid hv3
    clear hb3 hv3
    go_wp2_with fail
    refine ⟨KK.out _ x3.out, ?_⟩
    refine held_one (i := 9) (by kernel_rfl) (by rfl) (by rfl) ?_
    go_wp2_with fail
    refine (PM2 _ _ _ (N2'.out.call x3.out) (D1'.out.call x3.out)).out.mono ?_; rintro e w4 ⟨⟨v4, rfl, hv4⟩, hb4⟩
    have x4 := hid (bnext x3.out hb4)
    have V4 := hid hv4
    have V34 := hid (V3.out.call hb4)
    clear hb4 hv4
    go_wp2_with fail
    refine ⟨KK.out _ x4.out, ?_⟩
    refine held_one (i := 10) (by kernel_rfl) (by rfl) (by rfl) ?_
    go_wp2_with fail
    refine (PC _ _ _ V34.out V4.out).out.mono ?_; rintro e w5 ⟨rfl, hb5⟩
    have x5 := hid (bnext x4.out hb5)
    clear hb5
    go_wp2_with fail
    refine ⟨KK.out _ x5.out, ?_⟩
    refine held_more (is := [11]) (g := 0) (by kernel_rfl) rfl (KK.out _ x5.out) (by kernel_rfl) ?_
    iterate 1
      refine ⟨_, rfl, ?_⟩
      apply Exists.intro
      refine ⟨.inl ⟨by rfl, ?_⟩, ?_⟩
      · (intro W' hW'; obtain ⟨q1, q2, q3, q4, q5, q6⟩ := hW'; go_simp; try (with_reducible rfl))
      (dsimp only [Act.put]; try simp only [List.setIfInBounds_toArray, List.set_cons_zero, List.set_cons_succ])
    refine wpAnyH_done (by kernel_rfl) ?_ _
    simp only [Only]
    obtain ⟨e0, e1, e2, e3, e4, e5⟩ := KK.out _ x5.out
    have yy := hid (bnext HY.out x5.out)
    cases m1
    · go_wp2_with fail
      go_ret
      exact ⟨by rw [← HZ.out, if_neg (fun h => h rfl), if_neg (fun h => by have := HM1.out.1 h; simp at this)]; rfl, yy.out⟩
    · go_wp2_with fail
      go_ret
      exact ⟨by rw [← HZ.out, if_neg (fun h => h rfl), if_pos (HM1.out.2 (by simp))]; rfl, yy.out⟩
  · have t0 : (s1 != s2) = true := by simpa using hne
    have HNE := hid hne
    have yy := hid (bnext HY.out x2.out)
    clear hne
    go_wp2_with fail
    go_ret
    exact ⟨by rw [← HZ.out, if_pos HNE.out]; rfl, yy.out⟩
end Go.Proofs.YtpehhgkghgbhiaaGreatDoor
namespace Go.Proofs.YtpehhgkghgbhiaaGreatDoor
open Go.RowKit Go.Shelf
open Go.Lib (decDigits nDigits)
set_option linter.unusedVariables false
def wE (x : Int) (s : ByteArray) : Int := if qE s = 0 then x else qE s
theorem isQ_of {w : World} {v : Value} {s : ByteArray} (hq : qE s = 0) (h : IsF w v (iM (cW s)) (bN (iD (cW s))) (bN (qD s))) : IsQ .u64 w v (vQ s) := by
  obtain ⟨N, D, rfl, h1, h2⟩ := h
  obtain ⟨e1, e2, e3⟩ := vQ_ok hq
  exact ⟨N, D, by rw [e1], by rw [e2]; exact h1, by rw [e3]; exact h2⟩
end Go.Proofs.YtpehhgkghgbhiaaGreatDoor
namespace Go.Proofs.YtpehhgkghgbhiaaGreatDoor
open Go.RowKit Go.Shelf
open Go.Lib (decDigits nDigits)
set_option linter.unusedVariables false
set_option linter.unusedSimpArgs false
/-- What comes of a text, of two. -/
def wI (z : Int) (s : ByteArray) : Int := if qE s = 0 then z else 0
def xE (x : Int) (s t : ByteArray) : Int := wE (wE x t) s
def tI (z : Int) (s t : ByteArray) : Int := wI (wI z t) s
set_option maxRecDepth 100000 in
set_option maxHeartbeats 1000000 in
theorem q_withI (w : World) (s : ByteArray) (F : Nat) (cs : Array Value) (R : Int) (x : Int) (hs : s.size ≤ 1000000) (hL : Lay w)
    (hen : ∀ args w, (callFunc F args).run Tryz.prog w = .ok (.enter F args) w)
    (hF : ∀ W v, qE s = 0 → Below w.heap.size w W → IsQ .u64 W v (vQ s) → Lay W → Calls Tryz.prog F (#[v] ++ cs) W fun e w' => e = .returned (.tuple #[.int .i64 R, .int .i64 x]) ∧ Below W.heap.size W w') :
    Calls Tryz.prog 212 #[.string s, .func (.func F) #[] cs] w fun e w' => e = .returned (.tuple #[.int .i64 (wI R s), .int .i64 (wE x s)]) ∧ Below w.heap.size w w' := by
  have HP := hid (f_Parse w s hs hL)
  have HL := hid hL
  have HF := hid hF
  clear hF hs hL
  by_cases h1 : qE s = 0
  · have e1 : wI R s = R := if_pos h1
    have e2 : wE x s = x := if_pos h1
    rw [e1, e2]
    have HQ := hid h1
    rw [h1] at HP
    clear h1 e1 e2
    go_enter Tryz.func212, Tryz.ntmps212
    go_wp2_with fail
    refine HP.out.mono ?_; rintro e w1 ⟨⟨v, rfl, hv, -⟩, hb1⟩
    have hq := isQ_of HQ.out (hv rfl)
    have y1 := hid hb1
    obtain ⟨N, D, hvv, hN, hD⟩ := hv rfl
    subst hvv
    obtain ⟨a, c, rfl, _⟩ := hN.openI
    obtain ⟨a', c', rfl, _⟩ := hD.openI
    obtain ⟨k, hk⟩ : ∃ k, (limbs (bN (iD (cW s)))).length = k := ⟨_, rfl⟩
    obtain ⟨k', hk'⟩ : ∃ k, (limbs (bN (qD s))).length = k := ⟨_, rfl⟩
    obtain ⟨m, hm⟩ : ∃ m, iM (cW s) = m := ⟨_, rfl⟩
    rw [hk, hk', hm] at hq
    rw [hk, hk', hm]
    have Q1 := hid hq
    have X2 := hid (Blk.new w1 #[.bool m, .slice a k c, .slice a' k' c'] 127)
    have b2 := hid ((Below.refl w1.heap.size w1).alloc (Nat.le_refl _) (.cells #[.bool m, .slice a k c, .slice a' k' c'] 127))
    have y2 := hid (bnext y1.out b2.out)
    have Q2 := hid (hq.call b2.out)
    have r0 := X2.out.cell 0
    have r1 := X2.out.cell 1
    have r2 := X2.out.cell 2
    simp at r0 r1 r2
    clear hb1 hv hN hD hk hk' hm hq b2
    go_wp2_with fail
    refine (HF.out _ _ HQ.out y2.out Q2.out (HL.out.call y2.out)).mono ?_; rintro e w3 ⟨rfl, hb3⟩
    have y3 := hid (bnext y2.out hb3); clear hb3
    go_wp2_with fail
    go_ret2
    exact ⟨rfl, y3.out⟩
  · have e1 : wI R s = 0 := if_neg h1
    have e2 : wE x s = qE s := if_neg h1
    rw [e1, e2]
    obtain ⟨y, hy⟩ : ∃ y, qE s = y := ⟨_, rfl⟩
    rw [hy] at HP h1 ⊢
    have q0 : (y == 0) = false := by simpa using h1
    have q1 : (y != 0) = true := by simpa using h1
    have H1 := hid h1
    clear e1 e2 hy h1
    go_enter Tryz.func212, Tryz.ntmps212
    go_wp2_with fail
    refine HP.out.mono ?_; rintro e w1 ⟨⟨v, rfl, -, hv⟩, hb1⟩
    have hv' := hv H1.out
    subst hv'
    have y1 := hid hb1
    have y2 := hid (y1.out.alloc y1.out.size (.cells #[.bool false, .slice none 0 0, .slice none 0 0] 127))
    clear hb1 hv
    go_wp2_with fail
    go_ret2
    exact ⟨rfl, y2.out⟩
set_option maxRecDepth 100000 in
set_option maxHeartbeats 1000000 in
theorem q_both11I (w : World) (v u : Value) (p q : Rat) (F g1 g2 : Nat) (R : Int) (x : Int) (hv : IsQ .u64 w v p) (hu : IsQ .u64 w u q) (hL : Lay w)
    (hen : ∀ args w, (callFunc F args).run Tryz.prog w = .ok (.enter F args) w)
    (c1 : w.cell? ⟨g1, 0, none⟩ = some (.func (.func F) #[] #[])) (m : Bool) (a a' : Option Addr) (k c k' c' : Nat) (hv0 : v = .agg #[.bool m, .slice a k c, .slice a' k' c'])
    (c2 : Blk w g2 #[.bool m, .slice a k c, .slice a' k' c'] 127)
    (hF : ∀ W v u, IsQ .u64 W v p → IsQ .u64 W u q → Lay W → Calls Tryz.prog F #[v, u] W fun e w' => e = .returned (.tuple #[.int .i64 R, .int .i64 x]) ∧ Below W.heap.size W w') :
    Calls Tryz.prog 214 #[u, .pointer (some ⟨g1, 0, none⟩), .pointer (some ⟨g2, 0, none⟩)] w fun e w' => e = .returned (.tuple #[.int .i64 R, .int .i64 x]) ∧ Below w.heap.size w w' := by
  have HF := hid hF
  have HL := hid hL
  obtain ⟨N, D, rfl, hN, hD⟩ := hu.ex
  obtain ⟨a1, d1, rfl, _⟩ := hN.openI
  obtain ⟨a2, d2, rfl, _⟩ := hD.openI
  obtain ⟨k1, hk1⟩ : ∃ k, (limbs q.num.natAbs).length = k := ⟨_, rfl⟩
  obtain ⟨k2, hk2⟩ : ∃ k, (limbs q.den).length = k := ⟨_, rfl⟩
  obtain ⟨mu, hmu⟩ : ∃ m, decide (q.num < 0) = m := ⟨_, rfl⟩
  rw [hk1, hk2, hmu] at hu
  rw [hk1, hk2, hmu]
  subst hv0
  have X2 := hid (Blk.new w #[.bool mu, .slice a1 k1 d1, .slice a2 k2 d2] 127)
  have b2 := hid ((Below.refl w.heap.size w).alloc (Nat.le_refl _) (.cells #[.bool mu, .slice a1 k1 d1, .slice a2 k2 d2] 127))
  have V2 := hid (hv.call b2.out)
  have U2 := hid (hu.call b2.out)
  have C1 := (b2.out.cell (cell_lt c1)).trans c1
  have C2 := hid (c2.call b2.out)
  have r0 := X2.out.cell 0
  have r1 := X2.out.cell 1
  have r2 := X2.out.cell 2
  have s0 := C2.out.cell 0
  have s1 := C2.out.cell 1
  have s2 := C2.out.cell 2
  simp at r0 r1 r2 s0 s1 s2
  clear hk1 hk2 hmu hN hD hv hu c1 c2 hF hL
  go_enter Tryz.func214, Tryz.ntmps214
  go_wp2_with fail
  refine (HF.out _ _ _ V2.out U2.out (HL.out.call b2.out)).mono ?_; rintro e w3 ⟨rfl, hb3⟩
  have y3 := hid (bnext b2.out hb3); clear hb3
  go_wp2_with fail
  go_ret2
  exact ⟨rfl, y3.out⟩
set_option maxRecDepth 100000 in
set_option maxHeartbeats 1000000 in
theorem q_both1I (w : World) (v : Value) (t : ByteArray) (p : Rat) (F g1 g2 : Nat) (R : Int) (x : Int) (ht : t.size ≤ 1000000) (hv : IsQ .u64 w v p) (hL : Lay w)
    (hen : ∀ args w, (callFunc F args).run Tryz.prog w = .ok (.enter F args) w)
    (c1 : w.cell? ⟨g1, 0, none⟩ = some (.string t)) (c2 : w.cell? ⟨g2, 0, none⟩ = some (.func (.func F) #[] #[]))
    (hF : ∀ W v u, qE t = 0 → IsQ .u64 W v p → IsQ .u64 W u (vQ t) → Lay W → Calls Tryz.prog F #[v, u] W fun e w' => e = .returned (.tuple #[.int .i64 R, .int .i64 x]) ∧ Below W.heap.size W w') :
    Calls Tryz.prog 213 #[v, .pointer (some ⟨g1, 0, none⟩), .pointer (some ⟨g2, 0, none⟩)] w fun e w' => e = .returned (.tuple #[.int .i64 (wI R t), .int .i64 (wE x t)]) ∧ Below w.heap.size w w' := by
  have HF := hid hF
  have HL := hid hL
  have HEN := hid hen
  obtain ⟨N, D, rfl, hN, hD⟩ := hv.ex
  obtain ⟨a1, d1, rfl, _⟩ := hN.openI
  obtain ⟨a2, d2, rfl, _⟩ := hD.openI
  obtain ⟨k1, hk1⟩ : ∃ k, (limbs p.num.natAbs).length = k := ⟨_, rfl⟩
  obtain ⟨k2, hk2⟩ : ∃ k, (limbs p.den).length = k := ⟨_, rfl⟩
  obtain ⟨mu, hmu⟩ : ∃ m, decide (p.num < 0) = m := ⟨_, rfl⟩
  rw [hk1, hk2, hmu] at hv
  rw [hk1, hk2, hmu]
  have X2 := hid (Blk.new w #[.bool mu, .slice a1 k1 d1, .slice a2 k2 d2] 127)
  have b2 := hid ((Below.refl w.heap.size w).alloc (Nat.le_refl _) (.cells #[.bool mu, .slice a1 k1 d1, .slice a2 k2 d2] 127))
  have V2 := hid (hv.call b2.out)
  have C1 := (b2.out.cell (cell_lt c1)).trans c1
  have C2 := hid ((b2.out.cell (cell_lt c2)).trans c2)
  have L2 := hid (HL.out.call b2.out)
  obtain ⟨w2, hw2⟩ : ∃ w2, w.alloc (.cells #[.bool mu, .slice a1 k1 d1, .slice a2 k2 d2] 127) = w2 := ⟨_, rfl⟩
  obtain ⟨g3, hg3⟩ : ∃ g, w.heap.size = g := ⟨_, rfl⟩
  have W2 := hid (q_withI w2 t 214 #[.pointer (some ⟨g2, 0, none⟩), .pointer (some ⟨g3, 0, none⟩)] R x ht (hw2 ▸ L2.out) (enters_of Tryz.func214 (by kernel_rfl) rfl)
    (fun W u hq hb hu hLW => by
      subst hw2
      subst hg3
      have hVW := V2.out.call hb
      have hX := X2.out.call hb
      have hC := (hb.cell (cell_lt C2.out)).trans C2.out
      exact q_both11I W _ u p (vQ t) F g2 w.heap.size R x hVW hu hLW HEN.out hC mu a1 a2 k1 d1 k2 d2 rfl hX (fun W v u h1 h2 h3 => HF.out W v u hq h1 h2 h3)))
  rw [hw2] at C1
  clear hk1 hk2 hmu hN hD hv c1 c2 hF hL hen
  go_enter Tryz.func213, Tryz.ntmps213
  go_wp2_with fail
  refine W2.out.mono ?_; rintro e w3 ⟨rfl, hb3⟩
  have y3 := hid (bnext b2.out (hw2 ▸ hb3)); clear hb3
  go_wp2_with fail
  go_ret2
  exact ⟨rfl, y3.out⟩
set_option maxRecDepth 100000 in
set_option maxHeartbeats 1000000 in
theorem q_bothI (w : World) (s t : ByteArray) (F : Nat) (R : Int) (x : Int) (hs : s.size ≤ 1000000) (ht : t.size ≤ 1000000) (hL : Lay w)
    (hen : ∀ args w, (callFunc F args).run Tryz.prog w = .ok (.enter F args) w)
    (hF : ∀ W v u, qE s = 0 → qE t = 0 → IsQ .u64 W v (vQ s) → IsQ .u64 W u (vQ t) → Lay W → Calls Tryz.prog F #[v, u] W fun e w' => e = .returned (.tuple #[.int .i64 R, .int .i64 x]) ∧ Below W.heap.size W w') :
    Calls Tryz.prog 177 #[.string s, .string t, .func (.func F) #[] #[]] w fun e w' => e = .returned (.tuple #[.int .i64 (tI R s t), .int .i64 (xE x s t)]) ∧ Below w.heap.size w w' := by
  have HF := hid hF
  have HL := hid hL
  have HEN := hid hen
  have HT := hid ht
  have b1 := hid ((Below.refl w.heap.size w).alloc (Nat.le_refl _) (.cells #[.string t] 23))
  obtain ⟨w1, hw1⟩ : ∃ w1, w.alloc (.cells #[.string t] 23) = w1 := ⟨_, rfl⟩
  obtain ⟨g1, hg1⟩ : ∃ g, w.heap.size = g := ⟨_, rfl⟩
  have X1 := hid (Blk.new w #[.string t] 23)
  rw [hw1] at b1
  rw [hw1, hg1] at X1
  have b2 := hid ((Below.refl w1.heap.size w1).alloc (Nat.le_refl _) (.cells #[.func (.func F) #[] #[]] 200))
  obtain ⟨w2, hw2⟩ : ∃ w2, w1.alloc (.cells #[.func (.func F) #[] #[]] 200) = w2 := ⟨_, rfl⟩
  have X2 := hid (Blk.new w1 #[.func (.func F) #[] #[]] 200)
  have X12 := hid (X1.out.call b2.out)
  have y2 := hid (bnext b1.out b2.out)
  have hg2 : w1.heap.size = g1 + 1 := by rw [← hw1, ← hg1]; simp
  rw [hw2] at b2 X12 y2
  rw [hw2, hg2] at X2
  have L2 := hid (HL.out.call y2.out)
  have W2 := hid (q_withI w2 s 213 #[.pointer (some ⟨g1, 0, none⟩), .pointer (some ⟨g1 + 1, 0, none⟩)] (wI R t) (wE x t) hs L2.out (enters_of Tryz.func213 (by kernel_rfl) rfl)
    (fun W v hq hb hv hLW => by
      have hX1 := (X12.out.call hb).cell 0
      have hX2 := (X2.out.call hb).cell 0
      exact q_both1I W v t (vQ s) F g1 (g1 + 1) R x HT.out hv hLW HEN.out hX1 hX2 (fun W v u h0 h1 h2 h3 => HF.out W v u hq h0 h1 h2 h3)))
  have HW1 := hid hw1; have HW2 := hid hw2; have HG1 := hid hg1
  clear hF hL hen hs ht hw1 hw2 hg1 hg2 b1
  go_enter Tryz.func177, Tryz.ntmps177
  go_wp2_with fail
  have hw1 := HW1.out; have hw2 := HW2.out; have hg1 := HG1.out
  rw [hw1, hg1, hw2]
  refine W2.out.mono ?_; rintro e w3 ⟨rfl, hb3⟩
  have y3 := hid (bnext y2.out hb3)
  clear hb3 hw1 hw2 hg1
  go_wp2_with fail
  go_ret2
  exact ⟨rfl, by have := y3.out; exact this⟩
end Go.Proofs.YtpehhgkghgbhiaaGreatDoor
namespace Go.Proofs.YtpehhgkghgbhiaaGreatDoor
open Go.RowKit Go.Shelf
open Go.Lib (decDigits nDigits)
set_option linter.unusedVariables false
set_option linter.unusedSimpArgs false
/-- A rational number of few limbs. -/
structure Sml (K : Nat) (q : Rat) : Prop where
  n : (limbs q.num.natAbs).length ≤ K
  d : (limbs q.den).length ≤ K
theorem sml_vQ {s : ByteArray} (h : qE s = 0) : Sml 1000 (vQ s) := by
  obtain ⟨-, e2, e3⟩ := vQ_ok h
  obtain ⟨-, -, -, l1, l2, -⟩ := valid h
  exact ⟨by rw [e2]; exact Nat.le_trans (limbs_of_digits l1) (by omega), by rw [e3]; exact Nat.le_trans (limbs_of_digits l2) (by omega)⟩
theorem Sml.up {K L : Nat} {q : Rat} (h : Sml K q) (hl : K ≤ L) : Sml L q := ⟨Nat.le_trans h.n hl, Nat.le_trans h.d hl⟩
end Go.Proofs.YtpehhgkghgbhiaaGreatDoor
namespace Go.Proofs.YtpehhgkghgbhiaaGreatDoor
open Go.RowKit Go.Shelf
open Go.Lib (decDigits nDigits)
set_option linter.unusedVariables false
set_option linter.unusedSimpArgs false
theorem c2I (s t : ByteArray) : tI (ordQ (vQ s) (vQ t)) s t = cmB s t := by
  unfold tI wI cmB
  by_cases h1 : qE s = 0 <;> by_cases h2 : qE t = 0 <;> simp [h1, h2]
theorem c2E (s t : ByteArray) : xE 0 s t = cmE s t := by
  unfold xE wE cmE
  by_cases h1 : qE s = 0 <;> by_cases h2 : qE t = 0 <;> simp [h1, h2]
set_option maxRecDepth 100000 in
set_option maxHeartbeats 1000000 in
theorem q_Cmp1 (w : World) (v u : Value) (p q : Rat) (hp : IsQ .u64 w v p) (hq : IsQ .u64 w u q) (sp : Sml 1000 p) (sq : Sml 1000 q) (hL : Lay w) :
    Calls Tryz.prog 178 #[v, u] w fun e w' => e = .returned (.tuple #[.int .i64 (ordQ p q), .int .i64 0]) ∧ Below w.heap.size w w' := by
  have F1 := fun V v u hv hu => hid (f_Cmp V v u p q hv hu (Nat.le_trans sp.n (by omega)) (Nat.le_trans sp.d (by omega)) (Nat.le_trans sq.n (by omega)) (Nat.le_trans sq.d (by omega)))
  have HC := hid (cmF_clamp p q)
  obtain ⟨Z, hZ⟩ : ∃ Z, cmF p q = Z := ⟨_, rfl⟩
  rw [hZ] at F1 HC
  rw [← HC.out]
  obtain ⟨N1, D1, rfl, hn1, hd1⟩ := hp.ex
  obtain ⟨N2, D2, rfl, hn2, hd2⟩ := hq.ex
  obtain ⟨a1, c1, rfl, _⟩ := hn1.openI
  obtain ⟨a2, c2, rfl, _⟩ := hd1.openI
  obtain ⟨a3, c3, rfl, _⟩ := hn2.openI
  obtain ⟨a4, c4, rfl, _⟩ := hd2.openI
  obtain ⟨k1, hk1⟩ : ∃ k, (limbs p.num.natAbs).length = k := ⟨_, rfl⟩
  obtain ⟨k2, hk2⟩ : ∃ k, (limbs p.den).length = k := ⟨_, rfl⟩
  obtain ⟨k3, hk3⟩ : ∃ k, (limbs q.num.natAbs).length = k := ⟨_, rfl⟩
  obtain ⟨k4, hk4⟩ : ∃ k, (limbs q.den).length = k := ⟨_, rfl⟩
  obtain ⟨m1, hm1⟩ : ∃ m, decide (p.num < 0) = m := ⟨_, rfl⟩
  obtain ⟨m2, hm2⟩ : ∃ m, decide (q.num < 0) = m := ⟨_, rfl⟩
  rw [hk1, hk2, hm1] at hp ⊢
  rw [hk3, hk4, hm2] at hq ⊢
  have X1 := hid (Blk.new w #[.bool m1, .slice a1 k1 c1, .slice a2 k2 c2] 127)
  have b1 := hid ((Below.refl w.heap.size w).alloc (Nat.le_refl _) (.cells #[.bool m1, .slice a1 k1 c1, .slice a2 k2 c2] 127))
  have Y1 := hid (X1.out.alloc (.cells #[.bool m2, .slice a3 k3 c3, .slice a4 k4 c4] 127))
  have X2 := hid (Blk.new (w.alloc (.cells #[.bool m1, .slice a1 k1 c1, .slice a2 k2 c2] 127)) #[.bool m2, .slice a3 k3 c3, .slice a4 k4 c4] 127)
  have b2 := hid (b1.out.alloc b1.out.size (.cells #[.bool m2, .slice a3 k3 c3, .slice a4 k4 c4] 127))
  have P2 := hid (hp.call b2.out)
  have Q2 := hid (hq.call b2.out)
  have r0 := Y1.out.cell 0
  have r1 := Y1.out.cell 1
  have r2 := Y1.out.cell 2
  have s0 := X2.out.cell 0
  have s1 := X2.out.cell 1
  have s2 := X2.out.cell 2
  simp at r0 r1 r2 s0 s1 s2
  clear hk1 hk2 hk3 hk4 hm1 hm2 hn1 hn2 hd1 hd2 hp hq hL sp sq hZ
  go_enter Tryz.func178, Tryz.ntmps178
  go_wp2_with fail
  refine (F1 _ _ _ P2.out Q2.out).out.mono ?_; rintro e w3 ⟨rfl, hb3⟩
  have y3 := hid (bnext b2.out hb3)
  clear hb3
  go_wp2_with fail
  go_ret2
  exact ⟨rfl, y3.out⟩
set_option maxRecDepth 100000 in
set_option maxHeartbeats 1000000 in
theorem q_Cmp (w : World) (s t : ByteArray) (hs : s.size ≤ 1000000) (ht : t.size ≤ 1000000) (hL : Lay w) :
    Calls Tryz.prog 147 #[.string s, .string t] w fun e w' => e = .returned (.tuple #[.int .i64 (cmB s t), .int .i64 (cmE s t)]) ∧ Below w.heap.size w w' := by
  have H := hid (q_bothI w s t 178 (ordQ (vQ s) (vQ t)) 0 hs ht hL (enters_of Tryz.func178 (by kernel_rfl) rfl)
    (fun W v u h1 h2 hv hu hLW => q_Cmp1 W v u _ _ hv hu (sml_vQ h1) (sml_vQ h2) hLW))
  rw [c2I, c2E] at H
  obtain ⟨B, hB⟩ : ∃ B, cmB s t = B := ⟨_, rfl⟩
  obtain ⟨E, hE⟩ : ∃ E, cmE s t = E := ⟨_, rfl⟩
  rw [hB, hE] at H ⊢
  clear hB hE hs ht hL
  go_enter Tryz.func147, Tryz.ntmps147
  go_wp2_with fail
  refine H.out.mono ?_; rintro e w3 ⟨rfl, hb3⟩
  have y3 := hid hb3; clear hb3
  go_wp2_with fail
  go_ret2
  exact ⟨rfl, y3.out⟩
set_option maxRecDepth 100000 in
set_option maxHeartbeats 1000000 in
theorem q_chooseMin (w : World) (s t : ByteArray) (hs : s.size ≤ 1000000) (ht : t.size ≤ 1000000) (hL : Lay w) :
    Calls Tryz.prog 104 #[.string s, .string t, .int .i64 1] w fun e w' => e = .returned (.tuple #[.string (mnB s t), .int .i64 (cmE s t)]) ∧ Below w.heap.size w w' := by
  have H := hid (q_Cmp w s t hs ht hL)
  unfold mnB
  have h3 := cmB_three s t
  obtain ⟨B, hB⟩ : ∃ B, cmB s t = B := ⟨_, rfl⟩
  obtain ⟨E, hE⟩ : ∃ E, cmE s t = E := ⟨_, rfl⟩
  rw [hB] at h3
  rw [hB, hE] at H ⊢
  clear hB hE hs ht hL
  by_cases he : E = 0
  · subst he
    rcases h3 with rfl | rfl | rfl
    · go_enter Tryz.func104, Tryz.ntmps104
      go_wp2_with fail
      refine H.out.mono ?_; rintro e w3 ⟨rfl, hb3⟩
      have y3 := hid hb3; clear hb3
      go_wp2_with fail
      go_ret2
      exact ⟨rfl, y3.out⟩
    · go_enter Tryz.func104, Tryz.ntmps104
      go_wp2_with fail
      refine H.out.mono ?_; rintro e w3 ⟨rfl, hb3⟩
      have y3 := hid hb3; clear hb3
      go_wp2_with fail
      go_ret2
      exact ⟨rfl, y3.out⟩
    · go_enter Tryz.func104, Tryz.ntmps104
      go_wp2_with fail
      refine H.out.mono ?_; rintro e w3 ⟨rfl, hb3⟩
      have y3 := hid hb3; clear hb3
      go_wp2_with fail
      go_ret2
      exact ⟨rfl, y3.out⟩
  · rw [if_neg he]
    have q0 : (E == 0) = false := by simpa using he
    have q1 : (E != 0) = true := by simpa using he
    clear he h3
    go_enter Tryz.func104, Tryz.ntmps104
    go_wp2_with fail
    refine H.out.mono ?_; rintro e w3 ⟨rfl, hb3⟩
    have y3 := hid hb3; clear hb3
    go_wp2_with fail
    go_ret2
    exact ⟨rfl, y3.out⟩
set_option maxRecDepth 100000 in
set_option maxHeartbeats 1000000 in
theorem q_Min (w : World) (s t : ByteArray) (hs : s.size ≤ 1000000) (ht : t.size ≤ 1000000) (hL : Lay w) :
    Calls Tryz.prog 60 #[.string s, .string t] w fun e w' => e = .returned (.tuple #[.string (mnB s t), .int .i64 (cmE s t)]) ∧ Below w.heap.size w w' := by
  have H := hid (q_chooseMin w s t hs ht hL)
  obtain ⟨B, hB⟩ : ∃ B, mnB s t = B := ⟨_, rfl⟩
  obtain ⟨E, hE⟩ : ∃ E, cmE s t = E := ⟨_, rfl⟩
  rw [hB, hE] at H ⊢
  clear hB hE hs ht hL
  go_enter Tryz.func60, Tryz.ntmps60
  go_wp2_with fail
  refine H.out.mono ?_; rintro e w3 ⟨rfl, hb3⟩
  have y3 := hid hb3; clear hb3
  go_wp2_with fail
  go_ret2
  exact ⟨rfl, y3.out⟩
end Go.Proofs.YtpehhgkghgbhiaaGreatDoor
namespace Go.Proofs.YtpehhgkghgbhiaaGreatDoor
open Go.RowKit Go.Shelf
open Go.Lib (decDigits nDigits)
set_option linter.unusedVariables false
set_option linter.unusedSimpArgs false
set_option maxRecDepth 100000 in
set_option maxHeartbeats 1000000 in
theorem q_Int (w : World) (n : Nat) (h : n ≤ 9223372036854775807) (hL : Lay w) :
    Calls Tryz.prog 59 #[.int .i64 (n : Nat)] w fun e w' => e = .returned (.string (numB n)) ∧ Below w.heap.size w w' := by
  have H := hid (s_Itoa w n h hL)
  obtain ⟨s, hs⟩ : ∃ s, numB n = s := ⟨_, rfl⟩
  rw [hs] at H ⊢
  clear hs h hL
  go_enter Tryz.func59, Tryz.ntmps59
  go_wp2_with fail
  refine H.out.mono ?_; rintro e w3 ⟨rfl, hb3⟩
  have y3 := hid hb3; clear hb3
  go_wp2_with fail
  go_ret
  exact ⟨rfl, y3.out⟩
set_option maxRecDepth 100000 in
set_option maxHeartbeats 1000000 in
theorem ch_LateE (w : World) (many n : Int) (h : ltcE many n ≠ 0) :
    Calls Tryz.prog 23 #[.int .i64 many, .int .i64 n] w fun e w' => e = .returned (.tuple #[.string (ltcB many n), .int .i64 (ltcE many n)]) ∧ Below w.heap.size w w' := by
  have e1 : ltcB many n = ⟨#[]⟩ := if_neg h
  have h2 : many < 1 ∨ 64 < many ∨ n < 0 ∨ 256 < n := Decidable.not_not.1 fun hn => h (if_neg hn)
  have e2 : ltcE many n = 2 := if_pos h2
  rw [e1, e2]
  clear e1 e2 h
  by_cases h3 : many < 1
  · have q0 : decide (many < 1) = true := by simpa using h3
    clear h2 h3
    go_enter Tryz.func23, Tryz.ntmps23
    go_wp2_with fail
    go_ret2
    exact ⟨rfl, Below.refl _ _⟩
  have q0 : decide (many < 1) = false := by simpa using h3
  by_cases h4 : 64 < many
  · have q1 : decide (64 < many) = true := by simpa using h4
    clear h2 h3 h4
    go_enter Tryz.func23, Tryz.ntmps23
    go_wp2_with fail
    go_ret2
    exact ⟨rfl, Below.refl _ _⟩
  have q1 : decide (64 < many) = false := by simpa using h4
  by_cases h5 : n < 0
  · have q2 : decide (n < 0) = true := by simpa using h5
    clear h2 h3 h4 h5
    go_enter Tryz.func23, Tryz.ntmps23
    go_wp2_with fail
    go_ret2
    exact ⟨rfl, Below.refl _ _⟩
  have q2 : decide (n < 0) = false := by simpa using h5
  have q3 : decide (256 < n) = true := by simp; omega
  clear h2 h3 h4 h5
  go_enter Tryz.func23, Tryz.ntmps23
  go_wp2_with fail
  go_ret2
  exact ⟨rfl, Below.refl _ _⟩
set_option maxRecDepth 100000 in
set_option maxHeartbeats 1000000 in
theorem ch_Late (w : World) (many n : Int) (hL : Lay w) :
    Calls Tryz.prog 23 #[.int .i64 many, .int .i64 n] w fun e w' => e = .returned (.tuple #[.string (ltcB many n), .int .i64 (ltcE many n)]) ∧ Below w.heap.size w w' := by
  by_cases h : ltcE many n = 0
  · obtain ⟨k, m, rfl, hk, rfl, hm⟩ := lt_ok h
    obtain ⟨e1, e2⟩ := lt_at hk hm
    rw [e1, e2]
    have HL := hid hL
    have tw := two_nd (u := m) (by omega)
    have hkd := few_nd hk
    have P1 := fun V hV => hid (pk_pow2 V m hm hV)
    have P2 := fun V hV => hid (pk_make V k (2 ^ m) (by omega) (by omega) (two_ne m) hV)
    have P3 := fun V hV => hid (q_Min V (shB k (2 ^ m)) ⟨#[49]⟩ (Nat.le_trans sh_size (by omega)) (by decide) hV)
    rw [(lt_one hk hm).2, lt_min hk hm] at P3
    have PI := fun V hV => hid (q_Int V k (by omega) hV)
    obtain ⟨H, hH⟩ : ∃ s, numB (2 ^ m) = s := ⟨_, rfl⟩
    obtain ⟨S, hS⟩ : ∃ s, shB k (2 ^ m) = s := ⟨_, rfl⟩
    obtain ⟨oe, hoe⟩ : ∃ s, outE (qmk false k (2 ^ m)) = s := ⟨_, rfl⟩
    obtain ⟨K, hK⟩ : ∃ s, numB k = s := ⟨_, rfl⟩
    obtain ⟨L, hL9⟩ : ∃ s, ltcV k m = s := ⟨_, rfl⟩
    rw [hH] at P1 P2
    rw [hS] at P2 P3
    rw [hoe] at P2
    rw [hK] at P2 PI
    rw [hL9] at P3 ⊢
    have q0 : decide (((k + 1 : Nat) : Int) < 1) = false := by simp; omega
    have q1 : decide (64 < ((k + 1 : Nat) : Int)) = false := by simp; omega
    have q2 : decide ((m : Int) < 0) = false := by simp
    have q3 : decide (256 < (m : Int)) = false := by simp; omega
    have wk : IntKind.i64.wrap (((k + 1 : Nat) : Int) - 1) = (k : Int) := by rw [IntWalk.i64_in _ ⟨by omega, by omega⟩]; omega
    obtain ⟨z, hz⟩ : ∃ z, ((k + 1 : Nat) : Int) = z := ⟨_, rfl⟩
    rw [hz] at q0 q1 wk ⊢
    clear h e1 e2 hkd hH hS hK hL9 hk hm hz tw hoe hL
    go_enter Tryz.func23, Tryz.ntmps23
    go_wp2_with fail
    refine (P1 _ HL.out).out.mono ?_; rintro e w1 ⟨rfl, hb1⟩
    have y1 := hid hb1; clear hb1
    go_wp2_with fail
    refine (PI _ (HL.out.call y1.out)).out.mono ?_; rintro e w2 ⟨rfl, hb2⟩
    have y2 := hid (bnext y1.out hb2); clear hb2
    go_wp2_with fail
    refine (P2 _ (HL.out.call y2.out)).out.mono ?_; rintro e w3 ⟨rfl, hb3⟩
    have y3 := hid (bnext y2.out hb3); clear hb3
    go_wp2_with fail
    refine (P3 _ (HL.out.call y3.out)).out.mono ?_; rintro e w4 ⟨rfl, hb4⟩
    have y4 := hid (bnext y3.out hb4); clear hb4
    go_wp2_with fail
    go_ret2
    exact ⟨rfl, y4.out⟩
  · exact ch_LateE w many n h
end Go.Proofs.YtpehhgkghgbhiaaGreatDoor
namespace Go.Proofs.YtpehhgkghgbhiaaGreatDoor
open Go.RowKit
open Go.Lib (decDigits nDigits)
set_option linter.unusedVariables false
set_option linter.unusedSimpArgs false
theorem num_limbs {n : Nat} (h : nDigits n ≤ 4000) : (limbs n).length ≤ 1000000 := by
  exact Nat.le_trans (limbs_of_digits h) (by omega)
theorem qmk_le {a b : Nat} (h0 : b ≠ 0) : (qmk false a b).num.natAbs ≤ a ∧ (qmk false a b).den ≤ b := by
  unfold qmk
  constructor
  · rw [Rat.num_mkRat, if_neg h0]
    refine Nat.le_trans (Int.natAbs_ediv_le_natAbs _ _) ?_
    rw [sgn_natAbs]; exact Nat.le_refl _
  · rw [Rat.den_mkRat, if_neg h0]
    exact Nat.div_le_self _ _
set_option maxRecDepth 100000 in
set_option maxHeartbeats 1000000 in
theorem r2_Make_num (w : World) (a b : Nat) (ha : nDigits a ≤ 4000) (hb : nDigits b ≤ 4000) (h0 : b ≠ 0) :
    Calls Tryz.prog 21 #[.string (numB a), .string (numB b)] w fun e w' => e = .returned (.tuple #[.string (outB (qmk false a b)), .int .i64 (outE (qmk false a b))]) ∧ Below w.heap.size w w' := by
  have sa := numB_size a
  have sb := numB_size b
  have e1 : iM (numB a) = false := by
    unfold iM Lib.hasPrefix
    rw [numB_list]
    exact minus_dec a
  have e2 : iD (numB a) = numB a := iD_plain e1
  have e3 : iB (numB a) = true := by
    unfold iB
    rw [e1, e2, fB_num]; rfl
  have HI := fun V => hid (r2_integer V (numB a) (by omega))
  rw [e1, e2, e3] at HI
  have HC := fun V => hid (r1_Check V (numB b) (by omega))
  rw [errN_numB hb] at HC
  have HA := fun V => hid (r1_Read_num V a (by omega))
  have HB := fun V => hid (r1_Read_num V b (by omega))
  have la := num_limbs ha
  have lb := num_limbs hb
  have HR := fun V v u hn hd => hid (r2_Reduce V false v u a b hn hd (by omega) la lb)
  have dq : (limbs (qmk false a b).num.natAbs).length ≤ 1000000 ∧ (limbs (qmk false a b).den).length ≤ 1000000 := by
    obtain ⟨k1, k2⟩ := qmk_le (a := a) h0
    have := nDigits_mono k1
    have := nDigits_mono k2
    exact ⟨num_limbs (by omega), num_limbs (by omega)⟩
  have HW := fun V v h => hid (r2_Write V v (qmk false a b) h dq.1 dq.2)
  have hne := ne_lit (show ¬ numB b = ⟨[48].toArray⟩ from by rw [← numB_zero]; exact numB_ne h0)
  have q0 : decide ((4000 : Int) < ((numB a).size : Int)) = false := by simp; omega
  obtain ⟨oB, hB⟩ : ∃ x, outB (qmk false a b) = x := ⟨_, rfl⟩
  obtain ⟨oE, hE⟩ : ∃ x, outE (qmk false a b) = x := ⟨_, rfl⟩
  rw [hB, hE] at HW
  rw [hB, hE]
  generalize numB a = A at *
  generalize numB b = B at *
  clear e1 e2 e3 hB hE la lb dq sa sb ha hb h0
  go_enter Tryz.func21, Tryz.ntmps21
  go_wp2_with fail
  refine (HI _).out.mono ?_; rintro e w1 ⟨rfl, rfl⟩
  go_wp2_with fail
  refine (HC _).out.mono ?_; rintro e w2 ⟨rfl, rfl⟩
  go_wp2_with fail
  refine (HA _).out.mono ?_; rintro e w3 ⟨⟨v3, rfl, hv3⟩, hb3⟩
  have y3 := hid hb3; have N3 := hid hv3; clear hb3 hv3
  go_wp2_with fail
  refine (HB _).out.mono ?_; rintro e w4 ⟨⟨v4, rfl, hv4⟩, hb4⟩
  have y4 := hid (bnext y3.out hb4); have N4 := hid hv4; have M4 := hid (N3.out.call hb4); clear hb4 hv4
  go_wp2_with fail
  refine (HR _ _ _ M4.out N4.out).out.mono ?_; rintro e w5 ⟨⟨v5, rfl, hv5⟩, hb5⟩
  have y5 := hid (bnext y4.out hb5); have N5 := hid hv5; clear hb5
  obtain ⟨N, D, rfl, -, -⟩ := hv5.ex
  clear hv5
  go_wp2_with fail
  refine (HW _ _ N5.out).out.mono ?_; rintro e w6 ⟨rfl, hb6⟩
  have y6 := hid (bnext y5.out hb6); clear hb6
  go_wp2_with fail
  go_ret2
  exact ⟨rfl, y6.out⟩
end Go.Proofs.YtpehhgkghgbhiaaGreatDoor
namespace Go.Proofs.YtpehhgkghgbhiaaGreatDoor
open Go.RowKit
open Go.Lib (decDigits nDigits)
set_option linter.unusedVariables false
set_option linter.unusedSimpArgs false
set_option maxRecDepth 100000 in
set_option maxHeartbeats 1000000 in
theorem r22_Base (w : World) (s : ByteArray) (hs : s.size ≤ 1000000) : Calls Tryz.prog 69 #[.string s] w fun e w' => e = .returned (.int .i64 (bPE s)) ∧ Below w.heap.size w w' := by
  have R0 := fun V => hid (r2_Check V s hs)
  have R1 := fun V => hid (r2_Read V s hs)
  by_cases hq : qE s = 0
  · have R2 := fun V => hid (r4_Short V s hs hq)
    have hg := bPE_ref hq
    obtain ⟨n, hn⟩ : ∃ n, (vQ s).num.natAbs = n := ⟨_, rfl⟩
    obtain ⟨d, hd⟩ : ∃ d, (vQ s).den = d := ⟨_, rfl⟩
    have HQ := hid hq
    rw [hn, hd] at R2 hg
    rw [hq] at R0
    have HN := hid hn; have HD := hid hd
    clear hs hn hd hq
    by_cases hm : (vQ s).num < 0
    · rw [if_pos hm] at hg
      rw [hg]
      have HM := hid (show decide ((vQ s).num < 0) = true from by simpa using hm)
      clear hg hm R2
      go_enter Tryz.func69, Tryz.ntmps69
      go_wp2_with fail
      refine (R0 _).out.mono ?_; rintro e w0 ⟨rfl, hb0⟩
      have y0 := hid hb0
      clear hb0
      go_wp2_with fail
      refine (R1 _).out.mono ?_; rintro e w1 ⟨hr1, hb1⟩
      obtain ⟨m, a, k, c, a', k', c', rfl, h1, h2⟩ := hr1.open
      have q := h1 HQ.out
      rw [HQ.out]
      have MS := hid q.sign
      obtain ⟨hN, hD⟩ := q.parts
      rw [HN.out] at hN
      rw [HD.out] at hD
      have b2 := hid ((Below.refl w1.heap.size w1).alloc (Nat.le_refl _) (.cells #[.bool m, .slice a k c, .slice a' k' c'] 66))
      have X2 := hid (Blk.new w1 #[.bool m, .slice a k c, .slice a' k' c'] 66)
      have N2 := hid (hN.call b2.out); have D2 := hid (hD.call b2.out)
      have y2 := hid (bnext (bnext y0.out hb1) b2.out)
      have g0 := X2.out.cell 0
      have g1 := X2.out.cell 1
      have g2 := X2.out.cell 2
      simp at g0 g1 g2
      clear h1 h2 hr1 hb1 q hN hD b2
      clear g1 g2
      obtain rfl : m = true := MS.out.trans HM.out
      go_wp2_with fail
      go_ret
      exact ⟨rfl, y2.out⟩
    · rw [if_neg hm] at hg
      have HM := hid (show decide ((vQ s).num < 0) = false from by simpa using hm)
      by_cases hle : n < d
      · rw [if_pos hle] at hg
        rw [hg]
        have HO : Hid (decide (ordN n d < 0) = true) := by
          show decide (ordN n d < 0) = true
          rw [ordN_lt hle]; rfl
        clear hg hm R2 hle
        go_enter Tryz.func69, Tryz.ntmps69
        go_wp2_with fail
        refine (R0 _).out.mono ?_; rintro e w0 ⟨rfl, hb0⟩
        have y0 := hid hb0
        clear hb0
        go_wp2_with fail
        refine (R1 _).out.mono ?_; rintro e w1 ⟨hr1, hb1⟩
        obtain ⟨m, a, k, c, a', k', c', rfl, h1, h2⟩ := hr1.open
        have q := h1 HQ.out
        rw [HQ.out]
        have MS := hid q.sign
        obtain ⟨hN, hD⟩ := q.parts
        rw [HN.out] at hN
        rw [HD.out] at hD
        have b2 := hid ((Below.refl w1.heap.size w1).alloc (Nat.le_refl _) (.cells #[.bool m, .slice a k c, .slice a' k' c'] 66))
        have X2 := hid (Blk.new w1 #[.bool m, .slice a k c, .slice a' k' c'] 66)
        have N2 := hid (hN.call b2.out); have D2 := hid (hD.call b2.out)
        have y2 := hid (bnext (bnext y0.out hb1) b2.out)
        have g0 := X2.out.cell 0
        have g1 := X2.out.cell 1
        have g2 := X2.out.cell 2
        simp at g0 g1 g2
        clear h1 h2 hr1 hb1 q hN hD b2
        obtain rfl : m = false := MS.out.trans HM.out
        go_wp2_with fail
        refine (r1_Order _ _ _ _ _ N2.out D2.out).mono ?_; rintro e w3 ⟨rfl, hb3⟩
        have y3 := hid (bnext y2.out hb3)
        clear hb3
        obtain ⟨t, ht⟩ : ∃ t, ordN n d = t := ⟨_, rfl⟩
        have q1 := HO.out
        rw [ht] at q1 ⊢
        clear ht
        go_wp2_with fail
        go_ret
        exact ⟨rfl, y3.out⟩
      · rw [if_neg hle] at hg
        rw [hg]
        have HO : Hid (decide (ordN n d < 0) = false) := by
          show decide (ordN n d < 0) = false
          rw [decide_eq_false_iff_not]
          unfold ordN
          rw [if_neg hle]
          split <;> omega
        clear hg hm hle
        obtain ⟨x, hx⟩ : ∃ x, shE n d = x := ⟨_, rfl⟩
        rw [hx] at R2 ⊢
        clear hx
        go_enter Tryz.func69, Tryz.ntmps69
        go_wp2_with fail
        refine (R0 _).out.mono ?_; rintro e w0 ⟨rfl, hb0⟩
        have y0 := hid hb0
        clear hb0
        go_wp2_with fail
        refine (R1 _).out.mono ?_; rintro e w1 ⟨hr1, hb1⟩
        obtain ⟨m, a, k, c, a', k', c', rfl, h1, h2⟩ := hr1.open
        have q := h1 HQ.out
        rw [HQ.out]
        have MS := hid q.sign
        obtain ⟨hN, hD⟩ := q.parts
        rw [HN.out] at hN
        rw [HD.out] at hD
        have b2 := hid ((Below.refl w1.heap.size w1).alloc (Nat.le_refl _) (.cells #[.bool m, .slice a k c, .slice a' k' c'] 66))
        have X2 := hid (Blk.new w1 #[.bool m, .slice a k c, .slice a' k' c'] 66)
        have N2 := hid (hN.call b2.out); have D2 := hid (hD.call b2.out)
        have y2 := hid (bnext (bnext y0.out hb1) b2.out)
        have g0 := X2.out.cell 0
        have g1 := X2.out.cell 1
        have g2 := X2.out.cell 2
        simp at g0 g1 g2
        clear h1 h2 hr1 hb1 q hN hD b2
        obtain rfl : m = false := MS.out.trans HM.out
        go_wp2_with fail
        refine (r1_Order _ _ _ _ _ N2.out D2.out).mono ?_; rintro e w3 ⟨rfl, hb3⟩
        have y3 := hid (bnext y2.out hb3)
        clear hb3
        obtain ⟨t, ht⟩ : ∃ t, ordN n d = t := ⟨_, rfl⟩
        have q1 := HO.out
        rw [ht] at q1 ⊢
        clear ht
        go_wp2_with fail
        refine (R2 _).out.mono ?_; rintro e w4 ⟨rfl, hb4⟩
        have y4 := hid (bnext y3.out hb4)
        clear hb4
        go_wp2_with fail
        go_ret
        exact ⟨rfl, y4.out⟩
  · have hg : bPE s = qE s := if_pos hq
    rw [hg]
    obtain ⟨x, hx⟩ : ∃ x, qE s = x := ⟨_, rfl⟩
    rw [hx] at hq R0 ⊢
    have q0 : (x != 0) = true := by simpa using hq
    clear hq hx hg hs R1
    go_enter Tryz.func69, Tryz.ntmps69
    go_wp2_with fail
    refine (R0 _).out.mono ?_; rintro e w0 ⟨rfl, hb0⟩
    have y0 := hid hb0
    clear hb0
    go_wp2_with fail
    go_ret
    exact ⟨rfl, y0.out⟩
set_option maxRecDepth 100000 in
set_option maxHeartbeats 1000000 in
theorem r22_MaxBound (w : World) (s : ByteArray) (hs : s.size ≤ 1000000) : Calls Tryz.prog 29 #[.string s] w fun e w' => e = .returned (.tuple #[.int .i64 (mbB s : Nat), .int .i64 (bPE s)]) ∧ Below w.heap.size w w' := by
  have RB := fun V => hid (r22_Base V s hs)
  have R1 := fun V => hid (r2_Read V s hs)
  by_cases he : bPE s = 0
  · obtain ⟨k1, k2, k3, k4, k5, k6⟩ := bPE_parts he
    obtain ⟨-, -, -, hq⟩ := bPE_size he
    have e1 : mbB s = 400 / (2 * nDigits (vQ s).num.natAbs) := by rw [mbB, if_pos he, k1, numB_size]
    have dl := hid (num_limbs (n := (vQ s).num.natAbs) (by omega))
    have hpos := nd_pos (vQ s).num.natAbs
    rw [e1, he]
    rw [he] at RB
    obtain ⟨n, hn⟩ : ∃ n, (vQ s).num.natAbs = n := ⟨_, rfl⟩
    have HQ := hid hq; have HN := hid hn
    rw [hn] at dl k5 hpos ⊢
    obtain ⟨B1, hB1⟩ : ∃ B, numB n = B := ⟨_, rfl⟩
    have E1 := hid hB1
    have sz : B1.size = nDigits n := by rw [← hB1]; exact numB_size n
    have EQ := hid (show ((400 / (2 * nDigits n) : Nat) : Int) = 400 / (2 * (B1.size : Int)) from by rw [sz, Int.natCast_ediv, Int.natCast_mul]; rfl)
    have b1 : (0 : Int) < (B1.size : Int) := by omega
    have b2 : (B1.size : Int) ≤ 1000 := by omega
    clear hs he k1 k2 k3 k4 k5 k6 hq e1 hn hB1 sz hpos
    go_enter Tryz.func29, Tryz.ntmps29
    go_wp2_with fail
    refine (RB _).out.mono ?_; rintro e w0 ⟨rfl, hb0⟩
    have y0 := hid hb0
    clear hb0
    go_wp2_with fail
    refine (R1 _).out.mono ?_; rintro e w1 ⟨hr1, hb1⟩
    obtain ⟨m, a, k, c, a', k', c', rfl, h1, h2⟩ := hr1.open
    have q := h1 HQ.out
    rw [HQ.out]
    obtain ⟨hN, hD⟩ := q.parts
    rw [HN.out] at hN
    have c2 := hid ((Below.refl w1.heap.size w1).alloc (Nat.le_refl _) (.cells #[.bool m, .slice a k c, .slice a' k' c'] 66))
    have X2 := hid (Blk.new w1 #[.bool m, .slice a k c, .slice a' k' c'] 66)
    have N2 := hid (hN.call c2.out)
    have y2 := hid (bnext (bnext y0.out hb1) c2.out)
    have g0 := X2.out.cell 0
    have g1 := X2.out.cell 1
    have g2 := X2.out.cell 2
    simp at g0 g1 g2
    clear h1 h2 hr1 hb1 q hN hD c2 g0 g2
    go_wp2_with fail
    refine (r1_Write _ _ _ N2.out dl.out).mono ?_; rintro e w3 ⟨rfl, hb3⟩
    rw [numV_eq, E1.out]
    have y3 := hid (bnext y2.out hb3)
    clear hb3
    go_wp2_with fail
    go_ret2
    exact ⟨by rw [EQ.out]; rfl, y3.out⟩
  · have e1 : mbB s = 0 := if_neg he
    rw [e1]
    obtain ⟨x, hx⟩ : ∃ x, bPE s = x := ⟨_, rfl⟩
    rw [hx] at RB he ⊢
    have q0 : (x == 0) = false := by simpa using he
    have q1 : (x != 0) = true := by simpa using he
    clear hx e1 hs
    go_enter Tryz.func29, Tryz.ntmps29
    go_wp2_with fail
    refine (RB _).out.mono ?_; rintro e w1 ⟨rfl, hb1⟩
    have y1 := hid hb1; clear hb1
    go_wp2_with fail
    go_ret2
    exact ⟨rfl, y1.out⟩
end Go.Proofs.YtpehhgkghgbhiaaGreatDoor
