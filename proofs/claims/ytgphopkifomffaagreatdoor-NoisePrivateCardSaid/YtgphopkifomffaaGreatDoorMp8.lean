/- Texts that the proof rests on, merged: Pbw, Npv, Npw. -/
import Derived.Test.YtgphopkifomffaaGreatDoorMp7
set_option linter.unusedVariables false
set_option linter.unusedSimpArgs false
set_option linter.unusedSectionVars false
set_option maxRecDepth 100000
set_option maxHeartbeats 8000000
namespace Go.Proofs.YtgphopkifomffaaGreatDoor
open Go.RowKit
open Go.Shelf
open Go.Lib (decDigits nDigits)
theorem r2_Max (w : World) (s t : ByteArray) (hs : s.size ≤ 1000000) (ht : t.size ≤ 1000000) :
 Calls Tryz.prog 48 #[.string s, .string t] w fun e w' => e = .returned (.tuple #[.string (mxR s t), .int .i64 (cmE s t)]) ∧ Below w.heap.size w w' := by
 have H := hid (r2_Cmp w s t hs ht)
 unfold mxR
 have h3 := cmB_three s t
 obtain ⟨B, hB⟩ : ∃ B, cmB s t = B := ⟨_, rfl⟩
 obtain ⟨E, hE⟩ : ∃ E, cmE s t = E := ⟨_, rfl⟩
 rw [hB] at h3
 rw [hB, hE] at H ⊢
 clear hB hE hs ht
 by_cases he : E = 0
 ·subst he
  rcases h3 with rfl | rfl | rfl
  ·go_enter Tryz.func48, Tryz.ntmps48
   go_wp2_with fail
   refine H.out.mono ?_; rintro e w3 ⟨rfl, hb3⟩
   have y3 := hid hb3; clear hb3
   go_wp2_with fail
   go_ret2
   exact ⟨rfl, y3.out⟩
  ·go_enter Tryz.func48, Tryz.ntmps48
   go_wp2_with fail
   refine H.out.mono ?_; rintro e w3 ⟨rfl, hb3⟩
   have y3 := hid hb3; clear hb3
   go_wp2_with fail
   go_ret2
   exact ⟨rfl, y3.out⟩
  ·go_enter Tryz.func48, Tryz.ntmps48
   go_wp2_with fail
   refine H.out.mono ?_; rintro e w3 ⟨rfl, hb3⟩
   have y3 := hid hb3; clear hb3
   go_wp2_with fail
   go_ret2
   exact ⟨rfl, y3.out⟩
 ·rw [if_neg he]
  have q0 : (E == 0) = false := by simpa using he
  have q1 : (E != 0) = true := by simpa using he
  clear he h3
  go_enter Tryz.func48, Tryz.ntmps48
  go_wp2_with fail
  refine H.out.mono ?_; rintro e w3 ⟨rfl, hb3⟩
  have y3 := hid hb3; clear hb3
  go_wp2_with fail
  go_ret2
  exact ⟨rfl, y3.out⟩
theorem mxR_size {s t : ByteArray} {k : Nat} (hs : s.size ≤ k) (ht : t.size ≤ k) : (mxR s t).size ≤ k := by
 unfold mxR
 split
 ·split
  ·exact hs
  ·exact ht
 ·exact Nat.zero_le _
theorem valM_size {L : List (ByteArray × ByteArray)} {k : ByteArray} {B : Nat} (h : ∀ p ∈ L, p.2.size ≤ B) (hB : 1 ≤ B) : (valM L k).size ≤ B := by
 unfold valM
 cases hf : L.find? fun p => decide (p.1 = k) with
 | none => exact hB
 | some p => exact h p (List.mem_of_find?_eq_some hf)
theorem bydB_size (F : ByteArray) (L M : List (ByteArray × ByteArray)) : (bydB F L M).size ≤ 10000 := by
 rcases List.eq_nil_or_concat L with rfl | ⟨r, p, rfl⟩
 ·show (1 : Nat) ≤ 10000
  omega
 ·rw [List.concat_eq_append, bydB_snoc]
  exact fx_size _ _ _
theorem bydB_take {F : ByteArray} {L M : List (ByteArray × ByteArray)} {i : Nat} {p : ByteArray × ByteArray} (h : L[i]? = some p) : bydB F (L.take (i + 1)) M = bydT F M (bydB F (L.take i) M) p := by
 rw [List.take_add_one, h]
 exact bydB_snoc _ _ _ _
theorem w_beyond (w : World) (v u : Value) (L M : List (ByteArray × ByteArray)) (F : ByteArray) (hv : MRow w v L) (hu : MRow w u M) (hF : F.size ≤ 1000000) (h1 : ∀ p ∈ L, p.2.size ≤ 1000000) (h2 : ∀ p ∈ M, p.2.size ≤ 1000000) :
 Calls Tryz.prog 19 #[v, u, .string F] w fun e w' => e = .returned (.string (bydB F L M)) ∧ Below w.heap.size w w' := by
 obtain ⟨a, c, rfl, c1, c2, c3⟩ := hv.ex
 obtain ⟨n, hn⟩ : ∃ n, L.length = n := ⟨_, rfl⟩
 have HU := hid hu; have H3 := hid c3; have HN := hid hn; have H1 := hid h1
 have VS := hid (fun k => valM_size (k := k) h2 (by omega))
 have HFs := hid hF
 rw [hn] at c1 ⊢
 clear hv hu c3 hn h1 h2 hF
 go_enter Tryz.func19, Tryz.ntmps19
 go_wp2_with fail
 go_loopw [7, 8, 9, 10, 11, 12] (fun s7 s8 s9 s10 s11 s12 wr => ∃ i : Nat, s8 = .int .i64 (i : Nat) ∧ i ≤ n ∧ Hid (s7 = .string (bydB F (L.take i) M)) ∧ Hid (Below w.heap.size w wr)) (fun s7 s8 s9 s10 s11 s12 wr => n - (intOf s8).toNat)
 case atStart => exact ⟨0, rfl, Nat.zero_le _, rfl, Below.refl _ _⟩
 case round =>
  obtain ⟨i, rfl, hi, h7, hB⟩ := hrel
  obtain rfl := h7.out
  clear h7
  by_cases hlt : i < n
  ·obtain ⟨p, hp⟩ : ∃ x, L[i]? = some x := ⟨_, List.getElem?_eq_getElem (by rw [HN.out]; exact hlt)⟩
   obtain ⟨g, o, rfl, hg, m1, m2⟩ := H3.out i p hp
   have hS := hid (H1.out p (List.mem_of_getElem? hp))
   have TK := hid (bydB_take (F := F) (M := M) hp)
   have TS := hid (bydB_size F (L.take i) M)
   obtain ⟨T, hT⟩ : ∃ T, bydB F (L.take i) M = T := ⟨_, rfl⟩
   obtain ⟨x1, x2⟩ := p
   dsimp only at m1 m2 hS
   rw [Nat.mul_comm 2 i] at m1 m2
   have d1 := hid ((hB.out.cell (cell_lt m1)).trans m1)
   have d2 := fun V (h : Below wr.heap.size wr V) => hid ((h.cell (cell_lt d1.out)).trans d1.out)
   have e2 := fun V (h : Below wr.heap.size wr V) => hid (((hB.out.trans (h.mono hB.out.size)).cell (cell_lt m2)).trans m2)
   have PV := fun V h => hid (w_value V u M x1 h)
   have VSx := VS.out x1
   obtain ⟨Y, hY⟩ : ∃ Y, valM M x1 = Y := ⟨_, rfl⟩
   rw [hY] at PV VSx
   have PM := fun V => hid (r2_Mul V F Y (by have := HFs.out; omega) (by omega))
   have ZS := fx_size (· * ·) F Y
   obtain ⟨Z, hZ⟩ : ∃ Z, op2B (· * ·) F Y = Z := ⟨_, rfl⟩
   obtain ⟨ez, hez⟩ : ∃ Z, op2E (· * ·) F Y = Z := ⟨_, rfl⟩
   rw [hZ] at PM ZS
   rw [hez] at PM
   have PS := fun V => hid (r2_Sub V x2 Z (by have := hS.out; omega) (by omega))
   have OS := fx_size (· - ·) x2 Z
   obtain ⟨O, hO⟩ : ∃ K, op2B (· - ·) x2 Z = K := ⟨_, rfl⟩
   obtain ⟨eo, heo⟩ : ∃ K, op2E (· - ·) x2 Z = K := ⟨_, rfl⟩
   rw [hO] at PS OS
   rw [heo] at PS
   have PX := fun V => hid (r2_Max V O ⟨#[48]⟩ (by omega) (by show 1 ≤ 1000000; omega))
   have XS := mxR_size (s := O) (t := ⟨#[48]⟩) (k := 10000) OS (by show 1 ≤ 10000; omega)
   obtain ⟨X, hX⟩ : ∃ Z, mxR O ⟨#[48]⟩ = Z := ⟨_, rfl⟩
   obtain ⟨ex, hex⟩ : ∃ K, cmE O ⟨#[48]⟩ = K := ⟨_, rfl⟩
   rw [hX] at PX XS
   rw [hex] at PX
   have PA := fun V => hid (r2_Add V T X (by rw [← hT]; have := TS.out; omega) (by omega))
   have TK2 : Hid (bydB F (L.take (i + 1)) M = op2B (· + ·) T X) := by
    show _ = _
    rw [TK.out, hT, bydT]
    dsimp only
    rw [hY, hZ, hO, hX]
   obtain ⟨R, hR⟩ : ∃ Z, op2B (· + ·) T X = Z := ⟨_, rfl⟩
   obtain ⟨er, her⟩ : ∃ K, op2E (· + ·) T X = K := ⟨_, rfl⟩
   rw [hR] at PA TK2
   rw [her] at PA
   rw [hT]
   have f0 : (0 : Int) ≤ (i : Int) := by omega
   have f1 : (i : Int) < (n : Int) := by omega
   have wi : IntKind.i64.wrap ((i : Int) + 1) = ((i + 1 : Nat) : Int) := by rw [IntWalk.i64_in _ ⟨by omega, by omega⟩]; omega
   have D0 := d1.out
   clear hp hg m1 m2 hT hY hZ hez hO heo hX hex hR her TK TS VSx ZS OS XS
   go_wp2_with fail
   refine (PV _ (HU.out.call hB.out)).out.mono ?_; rintro e w1 ⟨rfl, rfl⟩
   go_wp2_with fail
   refine (PM _).out.mono ?_; rintro e w2 ⟨rfl, hb2⟩
   have y2 := hid hb2; clear hb2
   have D2 := (e2 _ y2.out).out
   go_wp2_with fail
   refine (PS _).out.mono ?_; rintro e w3 ⟨rfl, hb3⟩
   have y3 := hid (bnext y2.out hb3); clear hb3
   go_wp2_with fail
   refine (PX _).out.mono ?_; rintro e w4 ⟨rfl, hb4⟩
   have y4 := hid (bnext y3.out hb4); clear hb4
   go_wp2_with fail
   refine (PA _).out.mono ?_; rintro e w5 ⟨rfl, hb5⟩
   have y5 := hid (bnext y4.out hb5); clear hb5
   go_wp2_with fail
   go_roundw
   case rel => exact ⟨i + 1, by go_num, by omega, by show _ = _; rw [TK2.out], bnext hB.out y5.out⟩
   case measure => simp [intOf] <;> omega
  ·obtain rfl : i = n := by omega
   have q1 : decide ((i : Int) < (i : Int)) = false := by simp
   have hT : L.take i = L := List.take_of_length_le (by rw [HN.out]; exact Nat.le_refl _)
   rw [hT]
   clear hlt hT
   go_wp2_with fail
   go_ret
   exact ⟨rfl, hB.out⟩
theorem ffB_sizeN (a : ByteArray) (r : Int) (one : Bool) : (ffB a r one).size ≤ 10000 := by
 unfold ffB
 split
 ·exact Nat.zero_le _
 ·unfold pngB op1B
  split
  ·exact outB_size _
  ·exact Nat.zero_le _
theorem opMN {w : World} {v : Value} {L : List (ByteArray × ByteArray)} (h : MRow w v L) : ∃ a c, v = .slice a L.length c := by
 obtain ⟨a, c, e, -⟩ := h.ex
 exact ⟨a, c, e⟩
theorem zs_snocN (l : List Int) (x : Int) : zs (l ++ [x]) = zs l ++ [.int .i64 x] := by simp [zs]
def hfL (us : List Int) : List Int := us.map fun x => x.tdiv 2
theorem hfL_take {us : List Int} {i : Nat} {x : Int} (h : us[i]? = some x) : hfL (us.take (i + 1)) = hfL (us.take i) ++ [x.tdiv 2] := by
 unfold hfL
 rw [List.take_add_one, h, Option.toList_some, List.map_append]; rfl
theorem hfL_len {us : List Int} {i : Nat} (h : i ≤ us.length) : (hfL (us.take i)).length = i := by
 unfold hfL
 rw [List.length_map, List.length_take]; omega
theorem absS_snoc {a b : List Int} (h : a.length = b.length) (x y : Int) : absS (zD (a ++ [x]) (b ++ [y])) = absS (zD a b) + (x - y).natAbs := by
 unfold zD absS
 rw [List.zipWith_append h]
 simp
theorem npv_main (w : World) (v u : Value) (us cs : List Int) (s : ByteArray) (B : Int) (hv : Row w v (zs us)) (hu : Row w u (zs cs)) (hi1 : ∀ x ∈ us, -9223372036854775808 ≤ x ∧ x ≤ 9223372036854775807) (hi2 : ∀ x ∈ cs, -9223372036854775808 ≤ x ∧ x ≤ 9223372036854775807) (hL : LayB w)
 (h1 : us.length ≤ 2) (h2 : us.length ≤ cs.length) (h3 : s.size ≤ 20) (h4 : 0 ≤ B) (h5 : B ≤ 6) (h6 : s ≠ ⟨#[48]⟩) :
 Calls Tryz.prog 4 #[v, u, .string s, .int .i64 B] w fun e w' => e = .returned (.bool true) ∧ Below w.heap.size w w' := by
 have HLV := hid (w_lives21 w hL)
 have HV := hid hv; have HU := hid hu; have HL := hid hL
 have PE := fun V x l (hl : l.length ≤ 2) hV hLV => hid (na_Law V x l s B hV (by omega) (fun _ => by
  have : (2 * B.toNat + 1) ^ l.length ≤ 13 ^ 2 := Nat.le_trans (Nat.pow_le_pow_left (show 2 * B.toNat + 1 ≤ 13 by omega) _) (Nat.pow_le_pow_right (by omega) hl)
  omega) hLV)
 obtain ⟨i0, hi, hz0, hz1, hz2⟩ := info_parts info_intO
 obtain ⟨a, c, rfl, c1, c2, -⟩ := hv.openZ
 obtain ⟨a', c', rfl, c1', c2', -⟩ := hu.openZ
 obtain ⟨N, hN⟩ : ∃ N, us.length = N := ⟨_, rfl⟩
 obtain ⟨M, hM⟩ : ∃ N, cs.length = N := ⟨_, rfl⟩
 have HN := hid hN; have HM := hid hM; have I1 := hid hi1; have I2 := hid hi2
 rw [hN] at c1 h1 h2 HV ⊢
 rw [hM] at c1' h2 HU ⊢
 have k1 : decide ((2 : Int) < (N : Int)) = false := decide_eq_false (by omega)
 have k2 : decide ((M : Int) < (N : Int)) = false := decide_eq_false (by omega)
 have k2' : decide (M < N) = false := decide_eq_false (by omega)
 have k3 : decide ((20 : Int) < (s.size : Int)) = false := decide_eq_false (by omega)
 have k4 : decide (B < 0) = false := decide_eq_false (by omega)
 have k5 : decide (6 < B) = false := decide_eq_false (by omega)
 have k6 : (s.toList == [48]) = false := ne_lit h6
 have HS := hid h3; have H6 := hid h6; have H5 := hid h5; have H1 := hid h1
 clear hv hu hL hN hM h3 hi1 hi2 h6
 go_enter Tryz.func4, Tryz.ntmps4
 go_wp2_with fail
 refine HLV.out.mono ?_; rintro e w1 ⟨rfl, hb1⟩
 have y1 := hid hb1; clear hb1
 go_wp2_with fail
 go_loopw [9, 10, 11, 12] (fun s9 s10 s11 s12 wr => ∃ (i mm : Nat) (os : List Int), s11 = .int .i64 i ∧ i ≤ N ∧ s10 = .int .i64 mm ∧ mm ≤ 3 * i ∧ os.length = i ∧ Hid (absS (zD (hfL (us.take i)) os) = mm) ∧ Hid (wr.ownsRow w.heap.size 3 1 s9 os.length (zs os)) ∧ Hid (Below w.heap.size w wr)) (fun s9 s10 s11 s12 wr => N - (intOf s11).toNat)
 case atStart => exact ⟨0, 0, [], rfl, Nat.zero_le _, rfl, by omega, rfl, rfl, World.ownsRow_nil _ _ _ _, y1.out⟩
 case round =>
  obtain ⟨i, mm, os, rfl, hiN, rfl, hmm, hos, hD, hO, hB⟩ := hrel
  have wi : IntKind.i64.wrap ((i : Int) + 1) = ((i + 1 : Nat) : Int) := by rw [IntWalk.i64_in _ ⟨by omega, by omega⟩]; omega
  by_cases hlt : i < N
  ·obtain ⟨x, hx⟩ : ∃ x, us[i]? = some x := ⟨_, List.getElem?_eq_getElem (by rw [HN.out]; exact hlt)⟩
   obtain ⟨y, hy⟩ : ∃ x, cs[i]? = some x := ⟨_, List.getElem?_eq_getElem (by rw [HM.out]; omega)⟩
   obtain ⟨g, o, rfl, hg, hc⟩ := HV.out.at (zs_get hx)
   obtain ⟨g', o', rfl, hg', hc'⟩ := HU.out.at (zs_get hy)
   have hcx := (hB.out.cell (p := ⟨g, o + i, none⟩) hg).trans hc
   have hcy := (hB.out.cell (p := ⟨g', o' + i, none⟩) hg').trans hc'
   have bx := I1.out x (List.mem_of_getElem? hx)
   have by' := I2.out y (List.mem_of_getElem? hy)
   obtain ⟨j, hj, PK⟩ := k_Pick wr y 7 (by omega) (by omega) by'.1 by'.2
   have PK := hid PK
   have b1 : (0 : Int) ≤ (i : Int) := by omega
   have b2 : (i : Int) < (N : Int) := by omega
   have b3 : (i : Int) < (M : Int) := by omega
   have HOS := hid hos
   have bx1 := bx.1; have bx2 := bx.2
   obtain ⟨K, hK⟩ : ∃ K : Int, (j : Int) - 3 = K := ⟨_, rfl⟩
   have wj : IntKind.i64.wrap ((j : Int) - 3) = K := by rw [IntWalk.i64_in _ ⟨by omega, by omega⟩, hK]
   have hK3 : -3 ≤ K ∧ K ≤ 3 := by omega
   obtain ⟨Q, hQ⟩ : ∃ Q, K.natAbs = Q := ⟨_, rfl⟩
   have hQ3 : Q ≤ 3 := by omega
   have wn : IntKind.i64.wrap (-K) = -K := by rw [IntWalk.i64_in _ ⟨by omega, by omega⟩]
   have mx : max K (-K) = (Q : Int) := by omega
   have hmm6 : mm ≤ 1000 := by omega
   have wm : IntKind.i64.wrap ((mm : Int) + (Q : Int)) = ((mm + Q : Nat) : Int) := by rw [IntWalk.i64_in _ ⟨by omega, by omega⟩]; omega
   obtain ⟨T, hT0⟩ : ∃ T, x.tdiv 2 = T := ⟨_, rfl⟩
   have hTb := tdiv_bd bx1 bx2
   rw [hT0] at hTb
   have wd : IntKind.i64.wrap (x.tdiv 2) = T := by rw [hT0, IntWalk.i64_in _ ⟨by omega, by omega⟩]
   have wk : IntKind.i64.wrap (T + K) = T + K := IntWalk.i64_in _ ⟨by omega, by omega⟩
   have HD2 : Hid (absS (zD (hfL (us.take (i + 1))) (os ++ [T + K])) = mm + Q) := by
    show _ = _
    rw [hfL_take hx, absS_snoc (by rw [hfL_len (by rw [HN.out]; omega), hos]), hD.out, hT0]
    congr 1
    omega
   have HLT := hid hlt; have HMM := hid hmm; have HQ3 := hid hQ3
   clear hx hy hc' hg' bx by' hos hj hK hK3 hQ hT0 hTb hD hmm hmm6 hQ3
   go_wp2_with fail
   refine PK.out.mono ?_; rintro e w2 ⟨rfl, rfl⟩
   go_wp2_with (at_builtin; refine wpList_append_own _ rfl _ _ 24 rfl w.heap.size 3 i0 (.int .i64 0) 1 8 Tryz.underlying24 hi hz0 hz1 hz2 rfl (by decide) _ os.length _ rfl (hO.out.alloc _) ⟨wr.heap.size, 0, none⟩ 1 1 [.int .i64 (T + K)] rfl rfl (cell_one_new wr (.int .i64 (T + K)) 3) (by simp [Value.oneCell']) (by have := HOS.out; have := H1.out; unfold maxLen; omega) (by have := HOS.out; have := H1.out; omega) (by have := hB.out.size; simp; omega) ?_
                intro v' w3 hown hgrow _
                have B3 := hid (owned_below (hO.out.alloc _) (hB.out.alloc hB.out.size (.cells #[.int .i64 (T + K)] 3)) hgrow)
                have O3 := hid hown
                clear hown hgrow)
   go_roundw
   case rel => exact ⟨i + 1, mm + Q, os ++ [T + K], by go_num, by have := HLT.out; omega, rfl, by have := HMM.out; have := HQ3.out; omega, by rw [List.length_append, HOS.out]; rfl, HD2, by rw [List.length_append, List.length_singleton, zs_snocN]; exact O3.out, B3⟩
   case measure => simp [intOf] <;> (have := HLT.out; omega)
  ·obtain rfl : i = N := by omega
   have q0 : decide ((i : Int) < (i : Int)) = false := by simp
   have HOS := hid hos; have HDD := hid hD; have HO := hid hO; have HB := hid hB; have HMM := hid hmm
   obtain ⟨e2, r2, rfl⟩ := owns_ex hO.out
   have R2 := hid (Row.of_owns HO.out)
   clear hlt hos hD hO hB hmm hiN
   go_wp2_with fail
   obtain ⟨wz, hwz⟩ : ∃ x, x = wr := ⟨_, rfl⟩
   subst hwz
   go_loopw [13, 14] (fun s13 s14 wq => ∃ k : Nat, s14 = .int .i64 k ∧ k ≤ i ∧ Hid (wq.ownsRow wz.heap.size 3 1 s13 k (zs (hfL (us.take k)))) ∧ Hid (Below wz.heap.size wz wq)) (fun s13 s14 wq => i - (intOf s14).toNat)
   case atStart => exact ⟨0, rfl, Nat.zero_le _, World.ownsRow_nil _ _ _ _, Below.refl _ _⟩
   case round =>
    obtain ⟨k, rfl, hk, hO2, hB2⟩ := hrel
    have hBw := hid (bnext HB.out hB2.out)
    have wi2 : IntKind.i64.wrap ((k : Int) + 1) = ((k + 1 : Nat) : Int) := by rw [IntWalk.i64_in _ ⟨by omega, by omega⟩]; omega
    by_cases hlt : k < i
    ·obtain ⟨x, hx⟩ : ∃ x, us[k]? = some x := ⟨_, List.getElem?_eq_getElem (by rw [HN.out]; exact hlt)⟩
     obtain ⟨g, o, rfl, hg, hc⟩ := HV.out.at (zs_get hx)
     have hcx := (hBw.out.cell (p := ⟨g, o + k, none⟩) hg).trans hc
     have bx := I1.out x (List.mem_of_getElem? hx)
     have b1 : (0 : Int) ≤ (k : Int) := by omega
     have b2 : (k : Int) < (i : Int) := by omega
     have bx1 := bx.1; have bx2 := bx.2
     obtain ⟨T, hT0⟩ : ∃ T, x.tdiv 2 = T := ⟨_, rfl⟩
     have hTb := tdiv_bd bx1 bx2
     rw [hT0] at hTb
     have wd : IntKind.i64.wrap (x.tdiv 2) = T := by rw [hT0, IntWalk.i64_in _ ⟨by omega, by omega⟩]
     have HT2 := hid (show zs (hfL (us.take (k + 1))) = zs (hfL (us.take k)) ++ [.int .i64 T] by rw [hfL_take hx, zs_snocN, hT0])
     have HLT := hid hlt; have HK2 := hid hk
     clear hx hc hg bx hT0 hTb hlt hk
     go_wp2_with (at_builtin; refine wpList_append_own _ rfl _ _ 24 rfl wz.heap.size 3 i0 (.int .i64 0) 1 8 Tryz.underlying24 hi hz0 hz1 hz2 rfl (by decide) _ k _ rfl (hO2.out.alloc _) ⟨wr.heap.size, 0, none⟩ 1 1 [.int .i64 T] rfl rfl (cell_one_new wr (.int .i64 T) 3) (by simp [Value.oneCell']) (by have := HLT.out; have := H1.out; unfold maxLen; omega) (by have := HLT.out; have := H1.out; omega) (by have := hB2.out.size; simp; omega) ?_
                  intro v' w3 hown hgrow _
                  have B3 := hid (owned_below (hO2.out.alloc _) (hB2.out.alloc hB2.out.size (.cells #[.int .i64 T] 3)) hgrow)
                  have O3 := hid hown
                  clear hown hgrow)
     go_roundw
     case rel => exact ⟨k + 1, by go_num, by have := HLT.out; omega, by rw [HT2.out]; exact O3.out, B3⟩
     case measure => simp [intOf] <;> (have := HLT.out; omega)
    ·obtain rfl : k = i := by omega
     have q2 : decide ((k : Int) < (k : Int)) = false := by simp
     have hfull : us.take k = us := List.take_of_length_le (by rw [HN.out]; exact Nat.le_refl _)
     have hts := hfL_len (us := us) (i := k) (by rw [HN.out]; exact Nat.le_refl _)
     have hDD := HDD.out
     have hO3 := hO2.out
     obtain ⟨ts, hTS⟩ : ∃ l, hfL (us.take k) = l := ⟨_, rfl⟩
     rw [hTS] at hts hDD hO3
     obtain ⟨e1, r1, rfl⟩ := owns_ex hO3
     have hos := HOS.out
     have R1 := hid (Row.of_owns hO3)
     have R2' := hid (R2.out.call hB2.out)
     have P1 := fun V hV hLV => hid (PE V (.slice e1 k r1) ts (by omega) hV hLV)
     have P2 := fun V hV hLV => hid (PE V (.slice e2 os.length r2) os (by omega) hV hLV)
     have GD := hid fun (g1 : nlE ts s B = 0) (g2 : nlE os s B = 0) => np_main (s := mm) g1 g2 (by omega) (by omega) HS.out H6.out (by omega) hDD (by have := HMM.out; omega)
     have SZ1 := hid (nlR_size (c := ts) (a := s) (n := B))
     have SZ2 := hid (nlR_size (c := os) (a := s) (n := B))
     have PF := fun V hV => hid (na_Factor V s (mm : Nat) (by have := HS.out; omega) hV)
     have FS := ffB_sizeN s (mm : Nat) true
     obtain ⟨z1, hz1⟩ : ∃ z, nlE ts s B = z := ⟨_, rfl⟩
     obtain ⟨z2, hz2⟩ : ∃ z, nlE os s B = z := ⟨_, rfl⟩
     obtain ⟨L1, hL1⟩ : ∃ z, nlR ts s B = z := ⟨_, rfl⟩
     obtain ⟨L2, hL2⟩ : ∃ z, nlR os s B = z := ⟨_, rfl⟩
     obtain ⟨F, hF⟩ : ∃ F, ffB s (mm : Nat) true = F := ⟨_, rfl⟩
     obtain ⟨FE, hFE⟩ : ∃ F, ffE s (mm : Nat) true = F := ⟨_, rfl⟩
     rw [hz1, hL1] at P1
     rw [hz2, hL2] at P2
     rw [hz1, hz2, hL1, hL2, hF, hFE] at GD
     rw [hL1] at SZ1
     rw [hL2] at SZ2
     rw [hF, hFE] at PF
     rw [hF] at FS
     obtain ⟨n1, hn1⟩ : ∃ n, L1.length = n := ⟨_, rfl⟩
     obtain ⟨n2, hn2⟩ : ∃ n, L2.length = n := ⟨_, rfl⟩
     have HN1 := hid hn1; have HN2 := hid hn2
     have hBk := hid hBw.out
     by_cases hz : z1 = 0 ∧ z2 = 0
     ·obtain ⟨rfl, rfl⟩ := hz
      obtain ⟨g1, g2, g3, g4⟩ := GD.out rfl rfl
      subst g1
      have VS := valM_size (L := L1) (k := lateB) (B := 10000) SZ1.out (by omega)
      have Q1 := fun V x (h : MRow V x L1) => hid (w_value V x L1 lateB h)
      have Q2 := fun V x (h : MRow V x L2) => hid (w_value V x L2 lateB h)
      rw [← g2] at Q2
      obtain ⟨Y, hY⟩ : ∃ Y, valM L1 lateB = Y := ⟨_, rfl⟩
      rw [hY] at Q1 Q2 VS g3 g4
      have PM := fun V => hid (r2_Mul V F Y (by omega) (by omega))
      have ZS := fx_size (· * ·) F Y
      obtain ⟨Z, hZ⟩ : ∃ Z, op2B (· * ·) F Y = Z := ⟨_, rfl⟩
      obtain ⟨ez, hez⟩ : ∃ K, op2E (· * ·) F Y = K := ⟨_, rfl⟩
      rw [hZ] at PM ZS g3 g4
      rw [hez] at PM
      have B1 := fun V x y (h : MRow V x L1) (h' : MRow V y L2) => hid (w_beyond V x y L1 L2 F h h' (by omega) (fun q hq => by have := SZ1.out q hq; omega) (fun q hq => by have := SZ2.out q hq; omega))
      have B2 := fun V x y (h : MRow V x L2) (h' : MRow V y L1) => hid (w_beyond V x y L2 L1 F h h' (by omega) (fun q hq => by have := SZ2.out q hq; omega) (fun q hq => by have := SZ1.out q hq; omega))
      have bs1 := bydB_size F L1 L2
      have bs2 := bydB_size F L2 L1
      obtain ⟨U, hU⟩ : ∃ U, bydB F L1 L2 = U := ⟨_, rfl⟩
      obtain ⟨D, hD'⟩ : ∃ U, bydB F L2 L1 = U := ⟨_, rfl⟩
      rw [hU] at B1 bs1 g3
      rw [hD'] at B2 bs2 g4
      have C1 := fun V => hid (r2_Cmp V U Z (by omega) (by omega))
      have C2 := fun V => hid (r2_Cmp V D Z (by omega) (by omega))
      obtain ⟨ce1, hc1⟩ : ∃ z, cmE U Z = z := ⟨_, rfl⟩
      obtain ⟨ce2, hc2⟩ : ∃ z, cmE D Z = z := ⟨_, rfl⟩
      obtain ⟨cb1, hc3⟩ : ∃ z, cmB U Z = z := ⟨_, rfl⟩
      obtain ⟨cb2, hc4⟩ : ∃ z, cmB D Z = z := ⟨_, rfl⟩
      rw [hc1, hc3] at C1
      rw [hc2, hc4] at C2
      rw [hc3] at g3
      rw [hc4] at g4
      have t1 : decide (cb1 ≤ 0) = true := decide_eq_true g3
      have t2 : decide (cb2 ≤ 0) = true := decide_eq_true g4
      have eLate : lateB = (⟨#[108, 97, 116, 101]⟩ : ByteArray) := rfl
      rw [eLate] at Q1 Q2
      clear hz1 hz2 hL1 hL2 hts hos hlt GD g2 g3 g4 hF hFE FS VS hY hZ hez ZS bs1 bs2 hU hD' hc1 hc2 hc3 hc4 eLate hn1 hn2 hk hfull hDD hO3 hTS hO2 hB2
      go_wp2_with fail
      refine (P1 _ R1.out (HL.out.call hBk.out)).out.mono ?_; rintro e w2 ⟨⟨x1, rfl, hx1⟩, hb2⟩
      have M1 := hid hx1
      obtain ⟨a1, d1, rfl⟩ := opMN hx1
      have y2 := hid (bnext hBk.out hb2); have S2 := hid (R2'.out.call hb2)
      rw [HN1.out] at M1 ⊢
      clear hb2 hx1
      go_wp2_with fail
      refine (P2 _ S2.out (HL.out.call y2.out)).out.mono ?_; rintro e w3 ⟨⟨x2, rfl, hx2⟩, hb3⟩
      have M2 := hid hx2; have M13 := hid (M1.out.call hb3)
      obtain ⟨a2, d2, rfl⟩ := opMN hx2
      have y3 := hid (bnext y2.out hb3)
      rw [HN2.out] at M2 ⊢
      clear hb3 hx2
      go_wp2_with fail
      refine (PF _ (HL.out.call y3.out).l).out.mono ?_; rintro e w4 ⟨rfl, hb4⟩
      have y4 := hid (bnext y3.out hb4); have M14 := hid (M13.out.call hb4); have M24 := hid (M2.out.call hb4)
      clear hb4
      go_wp2_with fail
      refine (Q1 _ _ M14.out).out.mono ?_; rintro e w5 ⟨rfl, rfl⟩
      go_wp2_with fail
      refine (PM _).out.mono ?_; rintro e w5 ⟨rfl, hb5⟩
      have y5 := hid (bnext y4.out hb5); have M15 := hid (M14.out.call hb5); have M25 := hid (M24.out.call hb5)
      clear hb5
      go_wp2_with fail
      refine (B1 _ _ _ M15.out M25.out).out.mono ?_; rintro e w6 ⟨rfl, hb6⟩
      have y6 := hid (bnext y5.out hb6); have M16 := hid (M15.out.call hb6); have M26 := hid (M25.out.call hb6)
      clear hb6
      go_wp2_with fail
      refine (C1 _).out.mono ?_; rintro e w7 ⟨rfl, hb7⟩
      have y7 := hid (bnext y6.out hb7); have M17 := hid (M16.out.call hb7); have M27 := hid (M26.out.call hb7)
      clear hb7
      go_wp2_with fail
      refine (B2 _ _ _ M27.out M17.out).out.mono ?_; rintro e w8 ⟨rfl, hb8⟩
      have y8 := hid (bnext y7.out hb8); have M18 := hid (M17.out.call hb8); have M28 := hid (M27.out.call hb8)
      clear hb8
      go_wp2_with fail
      refine (C2 _).out.mono ?_; rintro e w9 ⟨rfl, hb9⟩
      have y9 := hid (bnext y8.out hb9); have M19 := hid (M18.out.call hb9); have M29 := hid (M28.out.call hb9)
      clear hb9
      go_wp2_with fail
      refine (Q1 _ _ M19.out).out.mono ?_; rintro e w10 ⟨rfl, rfl⟩
      go_wp2_with fail
      refine (Q2 _ _ M29.out).out.mono ?_; rintro e w10 ⟨rfl, rfl⟩
      go_wp2_with fail
      go_ret
      exact ⟨rfl, y9.out⟩
     ·clear hz1 hz2 hL1 hL2 hts hos hlt GD hF hFE FS hn1 hn2 hk hfull hDD hO3 hTS hO2 hB2 SZ1 SZ2
      by_cases h1 : z1 = 0
      ·subst h1
       have h2 : z2 ≠ 0 := fun h => hz ⟨rfl, h⟩
       have q1 : (z2 == 0) = false := by simpa using h2
       have q3 : (z2 != 0) = true := by simpa using h2
       clear hz h2
       go_wp2_with fail
       refine (P1 _ R1.out (HL.out.call hBk.out)).out.mono ?_; rintro e w2 ⟨⟨x1, rfl, hx1⟩, hb2⟩
       obtain ⟨a1, d1, rfl⟩ := opMN hx1
       have y2 := hid (bnext hBk.out hb2); have S2 := hid (R2'.out.call hb2)
       rw [HN1.out]
       clear hb2 hx1
       go_wp2_with fail
       refine (P2 _ S2.out (HL.out.call y2.out)).out.mono ?_; rintro e w3 ⟨⟨x2, rfl, hx2⟩, hb3⟩
       obtain ⟨a2, d2, rfl⟩ := opMN hx2
       have y3 := hid (bnext y2.out hb3)
       rw [HN2.out]
       clear hb3 hx2
       go_wp2_with fail
       refine (PF _ (HL.out.call y3.out).l).out.mono ?_; rintro e w4 ⟨rfl, hb4⟩
       have y4 := hid (bnext y3.out hb4)
       clear hb4
       go_wp2_with fail
       go_ret
       exact ⟨rfl, y4.out⟩
      ·have q1 : (z1 == 0) = false := by simpa using h1
       have q3 : (z1 != 0) = true := by simpa using h1
       clear hz h1
       go_wp2_with fail
       refine (P1 _ R1.out (HL.out.call hBk.out)).out.mono ?_; rintro e w2 ⟨⟨x1, rfl, hx1⟩, hb2⟩
       obtain ⟨a1, d1, rfl⟩ := opMN hx1
       have y2 := hid (bnext hBk.out hb2); have S2 := hid (R2'.out.call hb2)
       rw [HN1.out]
       clear hb2 hx1
       go_wp2_with fail
       refine (P2 _ S2.out (HL.out.call y2.out)).out.mono ?_; rintro e w3 ⟨⟨x2, rfl, hx2⟩, hb3⟩
       obtain ⟨a2, d2, rfl⟩ := opMN hx2
       have y3 := hid (bnext y2.out hb3)
       rw [HN2.out]
       clear hb3 hx2
       go_wp2_with fail
       refine (PF _ (HL.out.call y3.out).l).out.mono ?_; rintro e w4 ⟨rfl, hb4⟩
       have y4 := hid (bnext y3.out hb4)
       clear hb4
       go_wp2_with fail
       go_ret
       exact ⟨rfl, y4.out⟩
theorem w_NoisePrivate (w : World) (v u : Value) (us cs : List Int) (s : ByteArray) (B : Int) (hv : Row w v (zs us)) (hu : Row w u (zs cs)) (hi1 : ∀ x ∈ us, -9223372036854775808 ≤ x ∧ x ≤ 9223372036854775807) (hi2 : ∀ x ∈ cs, -9223372036854775808 ≤ x ∧ x ≤ 9223372036854775807) (hL : LayB w) :
 Calls Tryz.prog 4 #[v, u, .string s, .int .i64 B] w fun e w' => e = .returned (.bool true) ∧ Below w.heap.size w w' := by
 by_cases h : us.length ≤ 2 ∧ us.length ≤ cs.length ∧ s.size ≤ 20 ∧ 0 ≤ B ∧ B ≤ 6 ∧ s ≠ ⟨#[48]⟩
 ·exact npv_main w v u us cs s B hv hu hi1 hi2 hL h.1 h.2.1 h.2.2.1 h.2.2.2.1 h.2.2.2.2.1 h.2.2.2.2.2
 have HLV := hid (w_lives21 w hL)
 obtain ⟨a, c, rfl, -, -, -⟩ := hv.openZ
 obtain ⟨a', c', rfl, -, -, -⟩ := hu.openZ
 obtain ⟨N, hN⟩ : ∃ N, us.length = N := ⟨_, rfl⟩
 obtain ⟨M, hM⟩ : ∃ N, cs.length = N := ⟨_, rfl⟩
 rw [hN, hM] at h
 rw [hN, hM]
 clear hv hu hi1 hi2 hL hN hM
 by_cases h1 : 2 < N
 ·have k1 : decide ((2 : Int) < (N : Int)) = true := decide_eq_true (by omega)
  clear h h1
  go_enter Tryz.func4, Tryz.ntmps4
  go_wp2_with fail
  refine HLV.out.mono ?_; rintro e w1 ⟨rfl, hb1⟩
  go_wp2_with fail
  go_ret
  exact ⟨rfl, hb1⟩
 have k1 : decide ((2 : Int) < (N : Int)) = false := decide_eq_false (by omega)
 by_cases h2 : M < N
 ·have k2 : decide ((M : Int) < (N : Int)) = true := decide_eq_true (by omega)
  have k2' : decide (M < N) = true := decide_eq_true h2
  clear h h1
  go_enter Tryz.func4, Tryz.ntmps4
  go_wp2_with fail
  refine HLV.out.mono ?_; rintro e w1 ⟨rfl, hb1⟩
  go_wp2_with fail
  go_ret
  exact ⟨rfl, hb1⟩
 have k2 : decide ((M : Int) < (N : Int)) = false := decide_eq_false (by omega)
 have k2' : decide (M < N) = false := decide_eq_false h2
 by_cases h3 : 20 < s.size
 ·have k3 : decide ((20 : Int) < (s.size : Int)) = true := decide_eq_true (by omega)
  clear h h1 h2
  go_enter Tryz.func4, Tryz.ntmps4
  go_wp2_with fail
  refine HLV.out.mono ?_; rintro e w1 ⟨rfl, hb1⟩
  go_wp2_with fail
  go_ret
  exact ⟨rfl, hb1⟩
 have k3 : decide ((20 : Int) < (s.size : Int)) = false := decide_eq_false (by omega)
 by_cases h4 : B < 0
 ·have k4 : decide (B < 0) = true := decide_eq_true h4
  clear h h1 h2 h3
  go_enter Tryz.func4, Tryz.ntmps4
  go_wp2_with fail
  refine HLV.out.mono ?_; rintro e w1 ⟨rfl, hb1⟩
  go_wp2_with fail
  go_ret
  exact ⟨rfl, hb1⟩
 have k4 : decide (B < 0) = false := decide_eq_false h4
 by_cases h5 : 6 < B
 ·have k5 : decide (6 < B) = true := decide_eq_true h5
  clear h h1 h2 h3 h4
  go_enter Tryz.func4, Tryz.ntmps4
  go_wp2_with fail
  refine HLV.out.mono ?_; rintro e w1 ⟨rfl, hb1⟩
  go_wp2_with fail
  go_ret
  exact ⟨rfl, hb1⟩
 have k5 : decide (6 < B) = false := decide_eq_false h5
 have h6 : s = ⟨#[48]⟩ := Classical.byContradiction fun hh => h ⟨by omega, by omega, by omega, by omega, by omega, hh⟩
 subst h6
 clear h h1 h2 h3 h4 h5 k3
 go_enter Tryz.func4, Tryz.ntmps4
 go_wp2_with fail
 refine HLV.out.mono ?_; rintro e w1 ⟨rfl, hb1⟩
 go_wp2_with fail
 go_ret
 exact ⟨rfl, hb1⟩
end Go.Proofs.YtgphopkifomffaaGreatDoor
