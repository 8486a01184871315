/- Texts that the proof rests on, merged: Fd13, Fd15, Fd16, Lits, Pv0, KoI, Pct1, Pct2. -/
import Derived.Test.YtckihjfkafdncaaGreatDoorKw9
import Derived.Deep.DeepCutAuto
import Derived.Sort.Walk0
import Derived.WalkLawsBesides
set_option linter.unusedVariables false
set_option linter.unusedSimpArgs false
set_option linter.unusedSectionVars false
set_option maxRecDepth 100000
set_option maxHeartbeats 8000000
namespace Go.Proofs.YtckihjfkafdncaaGreatDoor
open Go.RowKit
open Go.Shelf
open Go.Lib (decDigits nDigits)
theorem noisy_end {c : List Int} {a : ByteArray} {b : List ByteArray} {xs : List (Int × Int)} (hl : c.length = b.length) (h1 : NzOk c a b xs) (h2 : nzStop c a b xs) :
 (xs.length = c.length ∧ nzO false a c b = some (xs.map Prod.snd)) ∨ (xs.length < c.length ∧ nzO false a c b = none) := by
 rcases h2 with h2 | ⟨n, s, h3, h4, h5⟩
 ·refine .inl ⟨h2, nzO_all hl (by rw [List.length_map]; exact h2) fun k x y hx hy => ?_⟩
  have hk : k < xs.length := by have := (List.getElem?_eq_some_iff.1 hx).1; omega
  obtain ⟨n, s, g1, g2, g3, g4⟩ := h1 k xs[k] (List.getElem?_eq_getElem hk)
  rw [hx] at g1; rw [hy] at g2; cases g1; cases g2
  rw [g4, List.getElem?_map, List.getElem?_eq_getElem hk]; rfl
 ·exact .inr ⟨(List.getElem?_eq_some_iff.1 h3).1, nzO_late _ n s h3 h4 h5⟩
theorem fd_Peak (w : World) (v u : Value) (c : List Int) (a : ByteArray) (b : List ByteArray) (hv : Row w v (zs c)) (hu : Row w u (strs b)) (ha : a.size ≤ 100000) (hb : ∀ x ∈ b, x.size ≤ 100000000) (hL : Lay w) :
 Calls Tryz.prog 11 #[v, .string a, u] w fun e w' => e = .returned (.tuple #[.int .i64 (pkA c a b).1, .bool (pkA c a b).2, .int .i64 (pkE c a b)]) ∧ Below w.heap.size w w' := by
 have HQ := hid (fd_question w v c a hv ha hL)
 have HW := fun V h => hid (fd_words V u b (c.length : Nat) h hb)
 have HV := hid hv; have HU := hid hu; have HL := hid hL
 obtain ⟨s, cp, rfl, q1, q2, q3⟩ := hv.openZ
 obtain ⟨t, cq, rfl, p1, p2, p3⟩ := hu.openS
 have eor : orZ [qnE c a, wdE b (c.length : Nat)] = pkE c a b := by
  simp only [orZ, pkE]
  by_cases h : qnE c a = 0
  ·by_cases h2 : wdE b (c.length : Nat) = 0
   ·simp [h, h2]
   ·simp [h, h2]
  ·simp [h]
 obtain ⟨qe, hqe⟩ : ∃ z, qnE c a = z := ⟨_, rfl⟩
 obtain ⟨we, hwe⟩ : ∃ z, wdE b (c.length : Nat) = z := ⟨_, rfl⟩
 obtain ⟨n, hn⟩ : ∃ n, c.length = n := ⟨_, rfl⟩
 obtain ⟨n2, hn2⟩ : ∃ n, b.length = n := ⟨_, rfl⟩
 rw [hqe] at HQ eor
 rw [hwe] at HW eor
 have CO := fun V v h => hid (s_OrE V v [qe, we] h)
 rw [eor] at CO
 rw [hn] at HQ HW HV q1 ⊢
 simp only [hn2] at HW
 rw [hn2] at HU p1 ⊢
 by_cases h0 : pkE c a b = 0
 case neg =>
  have e2 : pkA c a b = (0, false) := by unfold pkA; rw [if_neg h0]
  rw [e2]
  obtain ⟨z, hz⟩ : ∃ z, pkE c a b = z := ⟨_, rfl⟩
  rw [hz] at CO h0 ⊢
  have t0 : (z == 0) = false := by rw [beq_eq_false_iff_ne]; exact h0
  clear hv hu q3 p3 e2 hz hn hn2 h0 hqe hwe eor
  go_enter Tryz.func11, Tryz.ntmps11
  go_wp2_with fail
  refine HQ.out.mono ?_; rintro e w1 ⟨rfl, hb1⟩
  have y1 := hid hb1; clear hb1
  go_wp2_with fail
  refine (HW _ (HU.out.call y1.out)).out.mono ?_; rintro e w2 ⟨rfl, hb2⟩
  have y2 := hid (bnext y1.out hb2); clear hb2
  go_wp2_with fail
  refine (CO _ _ (row_two _ _ _ _)).out.mono ?_; rintro e w3 ⟨rfl, rfl⟩
  go_wp2_with fail
  go_ret3
  exact ⟨rfl, y2.out.alloc y2.out.size _⟩
 have OK := pkE_ok h0
 have e2 : pkA c a b = (match nzO false a c b with | none => (0, false) | some l => ((amx l : Nat), true)) := by unfold pkA; rw [if_pos h0]; rfl
 obtain ⟨R, hR⟩ : ∃ R, pkA c a b = R := ⟨_, rfl⟩
 rw [hR] at e2 ⊢
 rw [h0] at CO ⊢
 have hlen := OK.len
 have HOK := hid OK; have HR := hid e2; have HN := hid hn; have HN2 := hid hn2; have HA := hid ha
 rw [hn, hn2] at hlen
 subst hlen
 clear hv hu q3 p3 hn hn2 h0 e2 hR OK ha hb hqe hwe eor hL
 go_enter Tryz.func11, Tryz.ntmps11
 go_wp2_with fail
 refine HQ.out.mono ?_; rintro e w1 ⟨rfl, hb1⟩
 have y1 := hid hb1; clear hb1
 go_wp2_with fail
 refine (HW _ (HU.out.call y1.out)).out.mono ?_; rintro e w2 ⟨rfl, hb2⟩
 have y2 := hid (bnext y1.out hb2); clear hb2
 go_wp2_with fail
 refine (CO _ _ (row_two _ _ _ _)).out.mono ?_; rintro e w3 ⟨rfl, rfl⟩
 have y3 := hid (y2.out.alloc y2.out.size (.cells #[.int .i64 qe, .int .i64 we] 27))
 go_wp2_with fail
 obtain ⟨w3, hw3⟩ : ∃ w3, w2.alloc (.cells #[.int .i64 qe, .int .i64 we] 27) = w3 := ⟨_, rfl⟩
 rw [hw3] at y3
 try rw [hw3]
 refine (fd_noisy _ _ _ _ _ _ _ _).mono ?_; rintro e w4 ⟨rfl, rfl⟩
 have y4 := hid ((((y3.out.alloc y3.out.size (.cells #[.slice s n2 cp] 24)).alloc (y3.out.alloc y3.out.size _).size (.cells #[.string a] 22)).alloc ((y3.out.alloc y3.out.size _).alloc (y3.out.alloc y3.out.size _).size _).size (.cells #[.slice t n2 cq] 30)))
 have X1 := hid (((Blk.new w3 #[.slice s n2 cp] 24).alloc (.cells #[.string a] 22)).alloc (.cells #[.slice t n2 cq] 30))
 have X2 := hid ((Blk.made (w3.alloc (.cells #[.slice s n2 cp] 24)) #[.string a] 22 (n := w3.heap.size + 1) (by simp)).alloc (.cells #[.slice t n2 cq] 30))
 have X3 := hid (Blk.made ((w3.alloc (.cells #[.slice s n2 cp] 24)).alloc (.cells #[.string a] 22)) #[.slice t n2 cq] 30 (n := w3.heap.size + 1 + 1) (by simp))
 obtain ⟨W, hW⟩ : ∃ W, ((w3.alloc (.cells #[.slice s n2 cp] 24)).alloc (.cells #[.string a] 22)).alloc (.cells #[.slice t n2 cq] 30) = W := ⟨_, rfl⟩
 have hsz : W.heap.size = w3.heap.size + 1 + 1 + 1 := by rw [← hW]; simp
 rw [hW] at y4 X1 X2 X3 ⊢
 have hread : ∀ W1 W2, Below W.heap.size W W1 → KpC W.heap.size W1 W2 → W2.cell? ⟨w3.heap.size, 0, none⟩ = some (.slice s n2 cp) ∧ W2.cell? ⟨w3.heap.size + 1, 0, none⟩ = some (.string a) ∧ W2.cell? ⟨w3.heap.size + 1 + 1, 0, none⟩ = some (.slice t n2 cq) ∧ Row W2 (.slice s n2 cp) (zs c) ∧ Row W2 (.slice t n2 cq) (strs b) ∧ Lay W2 := fun W1 W2 b1 b2 => by
  have b3 : Below W.heap.size W W2 := b1.trans (b2.rest b1.size)
  have b4 : Below w.heap.size w W2 := y4.out.trans (b3.mono y4.out.size)
  exact ⟨(X1.out.call b3).cell 0, (X2.out.call b3).cell 0, (X3.out.call b3).cell 0, HV.out.call b4, HU.out.call b4, HL.out.call b4⟩
 have HF := noisy_feeds (Kp := KpC W.heap.size) 8 (by omega) W w3.heap.size (w3.heap.size + 1) (w3.heap.size + 1 + 1) (.slice s n2 cp) (.slice t n2 cq) c a b HA.out (fun x hx => chk_size (HOK.out.b x hx)) (by rw [HN.out, HN2.out]) HOK.out.le HOK.out.rng (KpC.refl _) KpC.trans hread (fun _ _ => KpC.of_below)
 have PF := hid (fd_fold W 91 _ (nzNext c a b) _ (fun pre x h => by
  obtain ⟨n, b', h1, h2, h3, h4⟩ := h
  have := (List.getElem?_eq_some_iff.1 h1).1
  have := HOK.out.le
  exact ⟨h3, by omega⟩) HF (enters_of Tryz.func91 (by kernel_rfl) rfl))
 clear hread HF hW hsz X1 X2 X3
 go_wp2_with fail
 refine PF.out.mono ?_; rintro e w5 ⟨⟨xs, ⟨h1, h2⟩, rfl⟩, hb5⟩
 have y5 := hid (y4.out.trans (hb5.mono y4.out.size))
 have hend := noisy_end (by rw [HN.out, HN2.out]) h1 h2
 rw [HN.out] at hend
 obtain ⟨m, hm⟩ : ∃ m, xs.length = m := ⟨_, rfl⟩
 obtain ⟨k, hk⟩ : ∃ k, (amS (xs.map Prod.snd)).2.1 = k := ⟨_, rfl⟩
 rw [hm] at hend ⊢
 rw [hk]
 clear hb5 h1 h2 hm PF
 rcases hend with ⟨h1, h2⟩ | ⟨h1, h2⟩
 ·have HM := hid h1
  have HE : Hid (R = ((k : Int), true)) := by
   show R = _
   rw [HR.out, h2, ← hk]; rfl
  clear h1 h2 hk
  go_wp2_with fail
  ·rename_i hx
   exact absurd hx (by have := HM.out; omega)
  ·go_ret3
   exact ⟨by rw [HE.out]; rfl, y5.out⟩
 ·have HM := hid h1
  have HE : Hid (R = (0, false)) := by
   show R = _
   rw [HR.out, h2]
  clear h1 h2 hk
  go_wp2_with fail
  ·go_ret3
   exact ⟨by rw [HE.out]; rfl, y5.out⟩
  all_goals
   rename_i hx
   exact absurd HM.out hx
open Go.Sort
theorem fd_order (p q : ByteArray × ByteArray) (w : World) : Calls Tryz.prog 38 #[.agg #[.string p.1, .string p.2], .agg #[.string q.1, .string q.2]] w fun e w' => e = .returned (.int .i64 (cmpK p q)) ∧ ∃ n os', w' = grow (w.drewN n) os' := by
 obtain ⟨p1, p2⟩ := p
 obtain ⟨q1, q2⟩ := q
 dsimp only
 have HC := fun V => hid (s_Compare V p1 q1)
 unfold cmpK keyL
 dsimp only
 obtain ⟨r, hr⟩ : ∃ r : Int, (if p1.data.toList < q1.data.toList then (-1 : Int) else if q1.data.toList < p1.data.toList then 1 else 0) = r := ⟨_, rfl⟩
 rw [hr] at HC ⊢
 clear hr
 go_enter Tryz.func38, Tryz.ntmps38
 go_wp2_with fail
 refine (HC _).out.mono ?_; rintro e w1 ⟨rfl, rfl⟩
 go_wp2_with fail
 go_ret
 exact ⟨rfl, 0, _, by rw [alloc_eq_grow, alloc_eq_grow, grow_grow]; rfl⟩
theorem fd_Law_ok (w : World) (v : Value) (c : List Int) (a : ByteArray) (n : Nat) (hv : Row w v (zs c)) (ha : a.size ≤ 100000) (hq : qnE c a = 0) (hn : n ≤ 32) (hm : n * c.length ≤ 256) (hL : LayB w) :
 Calls Tryz.prog 9 #[v, .string a, .int .i64 (n : Nat)] w fun e w' => (∃ u, e = .returned (.tuple #[u, .int .i64 0]) ∧ MRow w' u (sortM (fkP (gV (bN (cW a)) (bN (qD a)) false n) n c))) ∧ Below w.heap.size w w' := by
 obtain ⟨k1, k2, k3, k4⟩ := qnE_ok hq
 have hND := (gPE_ok k4).2
 have HQ := hid (fd_question w v c a hv ha hL.l)
 rw [hq] at HQ
 have HNZ := fun V hV => hid (fd_newNoise (H := Unit) V a n ha k4 hn hV)
 have hg : ∀ v : Int, v < 0 → gV (bN (cW a)) (bN (qD a)) false n v = 0 := fun v hv => gV_one_neg n hv
 have hz : zS n (gV (bN (cW a)) (bN (qD a)) false n) ≤ 2 ^ n := by have := gV_all hND false n; omega
 obtain ⟨g, hgg⟩ : ∃ g, gV (bN (cW a)) (bN (qD a)) false n = g := ⟨_, rfl⟩
 rw [hgg] at HNZ hg hz ⊢
 have hT := lw_texts (c := c) hn hg hz (by omega)
 obtain ⟨PF, hPF⟩ : ∃ PF : Nat → Nat → Nat → ByteArray, (fun (i v k : Nat) => dyB (fkN g n (c.getD i 0) (v : Int) i c k) (n * bI i k)) = PF := ⟨_, rfl⟩
 obtain ⟨CT, hCT⟩ : ∃ CT : Int → ByteArray, (fun m => dyB (cmC g n m) n) = CT := ⟨_, rfl⟩
 obtain ⟨TF, hTF⟩ : ∃ TF : Nat → Nat → ByteArray, (fun i v => dyB (fkS g n c i v) (n * c.length)) = TF := ⟨_, rfl⟩
 obtain ⟨FT, hFT⟩ : ∃ FT : Nat → ByteArray, (fun i => dyB (fkT g n c i) (n * c.length)) = FT := ⟨_, rfl⟩
 obtain ⟨RF, hRF⟩ : ∃ RF : Nat → ByteArray, (fun i => dyB (fkR g n c i) (n * c.length)) = RF := ⟨_, rfl⟩
 rw [hPF, hCT, hTF, hFT, hRF] at hT
 clear hPF hCT hTF hFT hRF
 have HT := hid hT
 have HND := hid (fkW_nd g n c)
 have HFL := hid (fun i => fkAll_length g n c i)
 have HFZ : Hid (fkAll g n c 0 = []) := rfl
 have HPP : Hid (fkP g n c = (fkW g n c).filter fun x => !(!notZ x)) := by
  show fkP g n c = _
  unfold fkP
  refine List.filter_congr fun x _ => ?_
  rw [Bool.not_not]
 have HPN := hid (fkP_nd g n c)
 obtain ⟨FA, hFA⟩ : ∃ FA, fkAll g n c = FA := ⟨_, rfl⟩
 obtain ⟨FW, hFW⟩ : ∃ FW, fkW g n c = FW := ⟨_, rfl⟩
 obtain ⟨FP, hFP⟩ : ∃ FP, fkP g n c = FP := ⟨_, rfl⟩
 have HNX := hid hT.next
 have HAL := hid hT.all
 rw [hFA] at HNX HAL HFL HFZ
 rw [hFW] at HAL HND HPP
 rw [hFP] at HPP HPN ⊢
 have HV := hid hv; have HL := hid hL; have HN := hid hn; have HR := hid k3
 obtain ⟨s, cp, rfl, q1, q2, q3⟩ := hv.openZ
 obtain ⟨L, hLL⟩ : ∃ L, c.length = L := ⟨_, rfl⟩
 have HLL := hid hLL
 rw [hLL] at hm k1 k2 q1 HV HQ HAL ⊢
 have Q3 := hid q3
 have s1 : decide ((n : Int) < 0) = false := by simp
 have s2 : decide ((32 : Int) < (n : Int)) = false := by simp; omega
 obtain ⟨M, hM⟩ : ∃ M : Int, (n : Int) * (L : Int) = M := ⟨_, rfl⟩
 have hM2 : M ≤ 256 := by
  rw [← hM]
  have : ((n * L : Nat) : Int) ≤ 256 := by omega
  rwa [Int.natCast_mul] at this
 have hM0 : 0 ≤ M := by rw [← hM]; exact Int.mul_nonneg (by omega) (by omega)
 have wm : IntKind.i64.wrap ((n : Int) * (L : Int)) = M := by rw [hM, IntWalk.i64_in _ ⟨by omega, by omega⟩]
 have s3 : decide (256 < M) = false := by simp; omega
 obtain ⟨i0, hi, hz0, hz1, hz2⟩ := info_parts info_mass
 have HK1 := hid k1; have HK2 := hid k2
 clear hv ha hq hn hL hND hg hz hgg hT hFA hFW hFP k3 k4 hLL q3 hM2 hM0 hM hm
 go_enter Tryz.func9, Tryz.ntmps9
 go_wp2_with fail
 refine HQ.out.mono ?_; rintro e w0 ⟨rfl, hb0⟩
 have y0 := hid hb0; clear hb0 HQ
 go_wp2_with fail
 refine (HNZ _ (HL.out.call y0.out)).out.mono ?_; rintro e W1 ⟨⟨bx, bm, bp, rfl, hbm, hnoi⟩, hb1⟩
 have y1 := hid (bnext y0.out hb1)
 have HBM : Hid (w.heap.size ≤ bm ∧ bm < W1.heap.size) := ⟨Nat.le_trans y0.out.size hbm, by
  rcases hnoi.m with h | ⟨_, _, h, -⟩
  ·exact h.lt
  ·exact h.lt⟩
 have I0 : Hid (LwI w W1 W1 bx bm bp g n (.slice none 0 0) 0 (FA 0)) := ⟨hnoi, by rw [HFZ.out]; exact ⟨rfl, .inl ⟨rfl, rfl⟩⟩, y1.out, Nat.le_refl _⟩
 clear hb1 hbm hnoi HNZ s1 s2 s3 wm
 go_wp2_with fail
 go_loopw [10, 11, 12, 13, 14, 15, 16, 17, 43] (fun s10 s11 s12 s13 s14 s15 s16 s17 s43 wr => ∃ i : Nat, s43 = .int .i64 (i : Nat) ∧ s11 = .string (RF i) ∧ i ≤ L ∧ Hid (LwI w W1 wr bx bm bp g n s10 i (FA i))) (fun s10 s11 s12 s13 s14 s15 s16 s17 s43 wr => L - (intOf s43).toNat)
 case atStart => exact ⟨0, rfl, by rw [HT.out.one], Nat.zero_le _, I0⟩
 case round =>
  obtain ⟨i, rfl, rfl, hi', hI⟩ := hrel
  obtain ⟨ad, cd, rfl⟩ := owns_ex hI.out.own
  by_cases hlt : i < L
  ·have q0 : decide ((i : Int) < (L : Int)) = true := by simp; omega
   have d0 : decide (i < L) = true := by simp; omega
   have wi : IntKind.i64.wrap ((i : Int) + 1) = ((i + 1 : Nat) : Int) := by have := HK2.out; rw [IntWalk.i64_in _ ⟨by omega, by omega⟩]; omega
   have IL := hid hlt
   obtain ⟨ci, hci⟩ : ∃ x, c[i]? = some x := ⟨_, List.getElem?_eq_getElem (by rw [HLL.out]; exact hlt)⟩
   have hcd : c.getD i 0 = ci := by rw [List.getD_eq_getElem?_getD, hci]; rfl
   obtain ⟨gc, oc, rfl, hgc, hcc⟩ := Q3.out i ci hci
   have HCC := hid hcc; have HGC := hid hgc; have HCD := hid hcd
   have hrc := HR.out ci (List.mem_of_getElem? hci)
   have HRC := hid hrc
   have e0 : (0 : Int) ≤ (i : Int) := by omega
   have e1 : (i : Int) < (L : Int) := by omega
   have r0 := hI.out.noi.x.cell 0
   simp at r0
   clear hci hcc hgc hcd hrc hi' hlt
   have I1 : Hid (LwI w W1 wr bx bm bp g n (.slice ad i cd) i (FA i)) := hI
   have w31 : ((n : Nat) : Int) ≤ 32 := by have := HN.out; omega
   go_wp2_with fail
   go_loopw [13, 14, 15, 16, 17, 51] (fun s13 s14 s15 s16 s17 s51 wq => ∃ v : Nat, s51 = .int .i64 (v : Nat) ∧ s13 = .string (TF i v) ∧ v ≤ n + 1 ∧ Hid (LwI w W1 wq bx bm bp g n (.slice ad i cd) i (FA i))) (fun s13 s14 s15 s16 s17 s51 wq => n + 1 - (intOf s51).toNat)
   case atStart => exact ⟨0, rfl, by rw [HT.out.zero], Nat.zero_le _, I1⟩
   case round =>
    clear I1 hI r0
    obtain ⟨v, rfl, rfl, hv', hI⟩ := hrel
    by_cases hlt : v < n + 1
    ·have q1 : decide ((v : Int) < ((n + 1 : Nat) : Int)) = true := by simp; omega
     have q1' : decide ((v : Int) < (n : Int) + 1) = true := by simp; omega
     have d1 : decide (v < n + 1) = true := by simp; omega
     have wv : IntKind.i64.wrap ((v : Int) + 1) = ((v + 1 : Nat) : Int) := by rw [IntWalk.i64_in _ ⟨by omega, by omega⟩]; omega
     have VL := hid hlt
     have hst := HT.out.start i v (by omega)
     have r1 : wr.cell? ⟨bp, v, none⟩ = some (.string (PF i v 0)) := by
      rw [hI.out.noi.p.cell, List.getElem?_toArray]
      exact strs_get hst
     have f0 : (0 : Int) ≤ (v : Int) := by omega
     have f1 : (v : Int) < (n : Int) + 1 := by omega
     have f2 : (v : Int) ≤ 32 := by omega
     have HSAME := hid (HT.out.same i v)
     have HTIM := hid (fun (V : World) (k : Nat) (hk : k < L) (hne : k ≠ i) (hV : Lay V) => HT.out.times V i v k (by rw [HLL.out]; exact IL.out) (by have := VL.out; omega) (by rw [HLL.out]; exact hk) hne hV)
     have HPLU := hid (fun (V : World) (hV : Lay V) => HT.out.plus V i v (by rw [HLL.out]; exact IL.out) (by have := VL.out; omega) hV)
     rw [HCD.out] at HTIM
     rw [HLL.out] at HPLU
     obtain ⟨P, hP⟩ : ∃ P, PF i v = P := ⟨_, rfl⟩
     obtain ⟨T0, hT0⟩ : ∃ P, TF i v = P := ⟨_, rfl⟩
     obtain ⟨T1, hT1⟩ : ∃ P, TF i (v + 1) = P := ⟨_, rfl⟩
     rw [hP] at HSAME HTIM HPLU r1
     rw [hT0, hT1] at HPLU
     have HT0 := hid hT0; have HT1 := hid hT1
     rw [hT0]
     have wcv : IntKind.i64.wrap (ci + (v : Int)) = ci + (v : Int) := by have := HRC.out; rw [IntWalk.i64_in _ ⟨by omega, by omega⟩]
     clear hst hP hT0 hT1 hv' hlt
     go_wp2_with fail
     go_loopw [15, 16, 17, 58] (fun s15 s16 s17 s58 wq => ∃ k : Nat, s58 = .int .i64 (k : Nat) ∧ s15 = .string (P k) ∧ k ≤ L ∧ Hid (LwI w W1 wq bx bm bp g n (.slice ad i cd) i (FA i))) (fun s15 s16 s17 s58 wq => L - (intOf s58).toNat)
     case atStart => exact ⟨0, rfl, rfl, Nat.zero_le _, hI⟩
     case round =>
      clear hI r1
      obtain ⟨k, rfl, rfl, hk', hI⟩ := hrel
      by_cases hlt : k < L
      ·have q2 : decide ((k : Int) < (L : Int)) = true := by simp; omega
       have d2 : decide (k < L) = true := by simp; omega
       have wk : IntKind.i64.wrap ((k : Int) + 1) = ((k + 1 : Nat) : Int) := by have := HK2.out; rw [IntWalk.i64_in _ ⟨by omega, by omega⟩]; omega
       have KL := hid hlt
       obtain ⟨ck, hck⟩ : ∃ x, c[k]? = some x := ⟨_, List.getElem?_eq_getElem (by rw [HLL.out]; exact hlt)⟩
       have hkd : c.getD k 0 = ck := by rw [List.getD_eq_getElem?_getD, hck]; rfl
       obtain ⟨g2, o2, e2, -, hc2⟩ := Q3.out k ck hck
       simp only [Option.some.injEq, Addr.mk.injEq, and_true] at e2
       obtain ⟨rfl, rfl⟩ := e2
       have hrk := HR.out ck (List.mem_of_getElem? hck)
       have c1 := (hI.out.bel.cell (p := ⟨gc, oc + i, none⟩) HGC.out).trans HCC.out
       have c2 := (hI.out.bel.cell (p := ⟨gc, oc + k, none⟩) HGC.out).trans hc2
       obtain ⟨G, hG⟩ : ∃ G, ci + (v : Int) - ck = G := ⟨_, rfl⟩
       have hGb : -9000000000000000 ≤ G ∧ G ≤ 9000000000000000 := by have := HRC.out; omega
       have wg : IntKind.i64.wrap (ci + (v : Int) - ck) = G := by rw [hG, IntWalk.i64_in _ ⟨by omega, by omega⟩]
       have wg1 : IntKind.i64.wrap (G + 1) = G + 1 := by rw [IntWalk.i64_in _ ⟨by omega, by omega⟩]
       have g0 : (0 : Int) ≤ (k : Int) := by omega
       have g1 : (k : Int) < (L : Int) := by omega
       have HTK := fun (hne : k ≠ i) (V : World) (hV : Lay V) => HTIM.out V k KL.out hne hV
       rw [hkd, hG] at HTK
       clear hck hkd hc2 hrk hG hGb hk' hlt
       rcases Nat.lt_trichotomy k i with hki | hki | hki
       ·have p1 : decide ((k : Int) < (i : Int)) = true := by simp; omega
        have p2 : decide (k < i) = true := by simp; omega
        have HTJ := fun V hV => hid (HTK (Nat.ne_of_lt hki) V hV)
        rw [if_pos hki] at HTJ
        have HKI := hid hki
        clear HTK hki
        go_wp2_with fail
        go_quiet (fail)
        go_wp2_with fail
        have I2 := hid (hI.out.call (below_drewN (Below.refl _ _) nq))
        refine (HT.out.below _ _ _ _ _ I2.out.noi (HL.out.call I2.out.bel).l).mono ?_; rintro e w3 ⟨rfl, hn3, hg3⟩
        have I3 := hid (I2.out.grow hn3 hg3 HBM.out.1 HBM.out.2)
        clear hn3 hg3 I2 c1 c2
        go_wp2_with fail
        refine (HTJ _ (HL.out.call I3.out.bel).l).out.mono ?_; rintro e w4 ⟨rfl, hb4⟩
        have I4 := hid (I3.out.call hb4)
        clear hb4 I3
        go_wp2_with fail
        go_roundw
        case rel => exact ⟨k + 1, by go_num, rfl, KL.out, I4⟩
        case measure => simp [intOf] <;> (have := KL.out; omega)
       ·subst hki
        have p1 : decide ((k : Int) < (k : Int)) = false := by simp
        clear HTK
        go_wp2_with fail
        go_quiet (fail)
        go_wp2_with fail
        have I2 := hid (hI.out.call (below_drewN (Below.refl _ _) nq))
        go_roundw
        case rel => exact ⟨k + 1, by go_num, by rw [HSAME.out], KL.out, I2⟩
        case measure => simp [intOf] <;> (have := KL.out; omega)
       ·have p1 : decide ((k : Int) < (i : Int)) = false := by simp; omega
        have p2 : decide (k < i) = false := by simp; omega
        have p3 : decide ((i : Int) < (k : Int)) = true := by simp; omega
        have p4 : decide (i < k) = true := by simp; omega
        have HTJ := fun V hV => hid (HTK (Nat.ne_of_gt hki) V hV)
        rw [if_neg (by omega)] at HTJ
        have HKI := hid hki
        clear HTK hki
        go_wp2_with fail
        go_quiet (fail)
        go_wp2_with fail
        have I2 := hid (hI.out.call (below_drewN (Below.refl _ _) nq))
        refine (HT.out.below _ _ _ _ _ I2.out.noi (HL.out.call I2.out.bel).l).mono ?_; rintro e w3 ⟨rfl, hn3, hg3⟩
        have I3 := hid (I2.out.grow hn3 hg3 HBM.out.1 HBM.out.2)
        clear hn3 hg3 I2 c1 c2
        go_wp2_with fail
        refine (HTJ _ (HL.out.call I3.out.bel).l).out.mono ?_; rintro e w4 ⟨rfl, hb4⟩
        have I4 := hid (I3.out.call hb4)
        clear hb4 I3
        go_wp2_with fail
        go_roundw
        case rel => exact ⟨k + 1, by go_num, rfl, KL.out, I4⟩
        case measure => simp [intOf] <;> (have := KL.out; omega)
      ·obtain rfl : k = L := by omega
       have q2 : decide ((k : Int) < (k : Int)) = false := by simp
       clear hlt hk'
       go_wp2_with fail
       refine (HPLU.out _ (HL.out.call hI.out.bel).l).mono ?_; rintro e w4 ⟨rfl, hb4⟩
       have I4 := hid (hI.out.call hb4)
       clear hb4
       go_wp2_with fail
       go_roundw
       case rel => exact ⟨v + 1, by go_num, by rw [HT1.out], VL.out, I4⟩
       case measure => simp [intOf] <;> (have := VL.out; omega)
    ·obtain rfl : v = n + 1 := by omega
     have q1 : decide ((n : Int) + 1 < (n : Int) + 1) = false := by simp
     have PI := fun V hV => hid (s_Itoa V i (by have := HK2.out; have := IL.out; omega) hV)
     have PLS := fun V hV => hid (HT.out.less V i (by rw [HLL.out]; exact IL.out) hV)
     have HNXi := hid (HNX.out i)
     have hIL : i < 256 := by have := HK2.out; have := IL.out; omega
     rw [HT.out.tend]
     obtain ⟨I, hIi⟩ : ∃ s, numB i = s := ⟨_, rfl⟩
     obtain ⟨F, hF⟩ : ∃ s, FT i = s := ⟨_, rfl⟩
     rw [hIi] at PI HNXi
     rw [hF] at PLS HNXi ⊢
     have HIL := hid hIL
     clear hlt hv' hIi hF hIL
     go_wp2_with fail
     refine (PI _ (HL.out.call hI.out.bel).l).out.mono ?_; rintro e w3 ⟨rfl, hb3⟩
     have I3 := hid (hI.out.call hb3)
     clear hb3
     have b3 := I3.out.siz
     have b4 := I3.out.bel.size
     go_wp2_with (at_builtin; refine wpList_append_own _ rfl _ _ 26 rfl W1.heap.size 39 i0 (.agg #[.string ⟨#[]⟩, .string ⟨#[]⟩]) 2 32 Tryz.underlying26 hi hz0 hz1 hz2 rfl (by decide) _ i _ rfl (I3.out.own.alloc _) ⟨w3.heap.size, 0, none⟩ 1 1 [.string I, .string F] rfl rfl (cell_two_new w3 (.string I) (.string F) 39) (by simp [Value.oneCell']) (by have := HIL.out; unfold maxLen; omega) (by omega) (by simp; omega) ?_; intro v' w5 hown5 hgrow5 _)
     have A3 : Below w3.heap.size w3 (w3.alloc (.cells #[.string I, .string F] 39)) := (Below.refl _ _).alloc (Nat.le_refl _) _
     have I4 := I3.out.call A3
     have hown : W1.heap.size ≤ W1.heap.size := Nat.le_refl _
     have hrow : ∀ k, (Value.slice ad i cd).ownBlock = some k → W1.heap.size ≤ k := fun k e => (I3.out.own.lt k e).1
     have I5 : Hid (LwI w W1 w5 bx bm bp g n v' (i + 1) (FA (i + 1))) := by
      refine ⟨?_, ?_, ?_, ?_⟩
      ·exact I4.noi.grown hgrow5 (own_block I4.own)
      ·rw [HNXi.out, massC_append]; exact hown5
      ·refine I4.bel.trans ⟨hgrow5.os, hgrow5.tape, hgrow5.output, hgrow5.size, fun k hk => hgrow5.block k (by have := I4.bel.size; omega) (fun e => ?_)⟩
       have := hrow k e.symm
       have := y1.out.size
       omega
      ·exact Nat.le_trans I4.siz hgrow5.size
     clear hown5 hgrow5 I3 A3 I4 hown hrow b3 b4
     obtain ⟨ad5, cd5, rfl⟩ := owns_ex I5.out.own
     go_wp2_with fail
     refine (PLS _ (HL.out.call I5.out.bel).l).out.mono ?_; rintro e w6 ⟨rfl, hb6⟩
     have I6 := hid (I5.out.call hb6)
     clear hb6 I5
     go_wp2_with fail
     go_roundw
     case rel => exact ⟨i + 1, by go_num, rfl, IL.out, I6⟩
     case measure => simp [intOf] <;> (have := IL.out; omega)
  ·obtain rfl : i = L := by omega
   have q1 : decide ((i : Int) < (i : Int)) = false := by simp
   clear hlt hi'
   have b3 := hI.out.siz
   have b4 := hI.out.bel.size
   have hIL := HK2.out
   obtain ⟨F, hF⟩ : ∃ s, RF i = s := ⟨_, rfl⟩
   rw [hF] at HAL ⊢
   clear hF
   go_wp2_with (at_builtin; refine wpList_append_own _ rfl _ _ 26 rfl W1.heap.size 39 i0 (.agg #[.string ⟨#[]⟩, .string ⟨#[]⟩]) 2 32 Tryz.underlying26 hi hz0 hz1 hz2 rfl (by decide) _ i _ rfl (hI.out.own.alloc _) ⟨wr.heap.size, 0, none⟩ 1 1 [.string ⟨#[108, 97, 116, 101]⟩, .string F] rfl rfl (cell_two_new wr (.string ⟨#[108, 97, 116, 101]⟩) (.string F) 39) (by simp [Value.oneCell']) (by unfold maxLen; omega) (by omega) (by simp; omega) ?_; intro v' w5 hown5 hgrow5 _)
   have A3 : Below wr.heap.size wr (wr.alloc (.cells #[.string ⟨#[108, 97, 116, 101]⟩, .string F] 39)) := (Below.refl _ _).alloc (Nat.le_refl _) _
   have I4 := hI.out.call A3
   have hrow : ∀ k, (Value.slice ad i cd).ownBlock = some k → W1.heap.size ≤ k := fun k e => (hI.out.own.lt k e).1
   have B5 : Hid (Below w.heap.size w w5) := by
    refine I4.bel.trans ⟨hgrow5.os, hgrow5.tape, hgrow5.output, hgrow5.size, fun k hk => hgrow5.block k (by have := I4.bel.size; omega) (fun e => ?_)⟩
    have := hrow k e.symm
    have := y1.out.size
    omega
   have S5 : Hid (W1.heap.size ≤ w5.heap.size) := Nat.le_trans I4.siz hgrow5.size
   have O5 : w5.ownsRow W1.heap.size 39 2 v' (i + 1) (massC FW) := by rw [HAL.out, massC_append]; exact hown5
   obtain ⟨gd, cap, rfl, hgB, hglt⟩ := O5.form (Nat.succ_pos i)
   have hFWl : FW.length = i + 1 := by have := O5.1; rw [massC_length] at this; omega
   have PD := hid (s_DelM w5 36 (fun x => !notZ x) gd cap W1.heap.size (i + 1) FW O5 hFWl (by omega) S5.out (enters_of Tryz.func36 (by kernel_rfl) rfl) (fun W x => fd_isZ W x))
   rw [← HPP.out] at PD
   have HFPl : Hid (FP.length ≤ i + 1) := by
    show _ ≤ _
    rw [HPP.out, ← hFWl]
    exact List.length_filter_le _ _
   have Y1 := hid (y1.out.size)
   clear hown5 hgrow5 A3 I4 hrow b3 b4 hI O5 hgB hglt hFWl
   go_wp2_with fail
   refine PD.out.mono ?_; rintro e w6 ⟨⟨m, hm, rfl, O6⟩, hb6⟩
   have B6 := hid (B5.out.trans (hb6.mono Y1.out))
   have S6 := hid (Nat.le_trans S5.out hb6.size)
   rcases O6.2 with ⟨e1, _⟩ | ⟨g', cap', cur, e1, hgb, hgh, h1, h2, h3, h4⟩
   ·simp at e1
   simp only [Value.slice.injEq, Option.some.injEq, Addr.mk.injEq, and_true, true_and] at e1
   obtain ⟨rfl, rfl⟩ := e1
   have hdl := HFPl.out
   have hSM := s_SortM 38 gd cap W1.heap.size FP.toArray w6 cur hgb hgh (by simp; omega) h2 h3 (by simp; rw [← hm]; exact h4) (by simp; omega) (by simpa using HPN.out) (enters_of Tryz.func38 (by kernel_rfl) rfl) (fun x y W => fd_order x y W)
   simp only [List.size_toArray] at hSM
   rw [← hm] at hSM
   have HSM := hid hSM
   clear hSM h1 h2 h3 h4 hgh hdl O6 hb6 PD hm
   go_wp2_with fail
   refine HSM.out.mono ?_; rintro e w8 ⟨rfl, ho8, hb8⟩
   have B8 := hid (B6.out.trans (hb8.mono Y1.out))
   have M8 := hid (MRow.of_owns ho8)
   clear ho8 hb8
   go_wp2_with fail
   go_ret2
   exact ⟨⟨_, rfl, M8.out⟩, B8.out⟩
end Go.Proofs.YtckihjfkafdncaaGreatDoor
namespace Go.Proofs.YtckihjfkafdncaaGreatDoor
open Go.RowKit
open Go.Shelf
open Go.Lib (decDigits nDigits)
theorem MRow.nilS (w : World) : MRow w (.slice none 0 0) [] := MRow.nil w
theorem fd_Law (w : World) (v : Value) (c : List Int) (a : ByteArray) (n : Int) (hv : Row w v (zs c)) (ha : a.size ≤ 100000) (hL : LayB w) :
 Calls Tryz.prog 9 #[v, .string a, .int .i64 n] w fun e w' => (∃ u, e = .returned (.tuple #[u, .int .i64 (flE c a n)]) ∧ MRow w' u (flR c a n)) ∧ Below w.heap.size w w' := by
 by_cases h0 : flE c a n = 0
 ·have hE := h0
  unfold flE at h0
  split at h0
  ·rename_i h1; exact absurd h0 h1
  ·rename_i h1
   split at h0
   ·cases h0
   ·rename_i h2
    split at h0
    ·cases h0
    ·rename_i h3
     obtain ⟨m, rfl⟩ : ∃ m : Nat, n = (m : Nat) := ⟨n.toNat, by omega⟩
     rw [hE]
     have e2 : flR c a (m : Nat) = sortM (fkP (gV (bN (cW a)) (bN (qD a)) false m) m c) := by unfold flR; rw [if_pos hE, Int.toNat_natCast]
     rw [e2]
     refine fd_Law_ok w v c a m hv ha (Classical.byContradiction h1) (by omega) ?_ hL
     have : ¬ (256 : Int) < ((m * c.length : Nat) : Int) := by rwa [Int.natCast_mul]
     omega
 ·have e2 : flR c a n = [] := if_neg h0
  rw [e2]
  have HQ := hid (fd_question w v c a hv ha hL.l)
  obtain ⟨s, cp, rfl, q1, q2, q3⟩ := hv.openZ
  obtain ⟨L, hLL⟩ : ∃ L, c.length = L := ⟨_, rfl⟩
  unfold flE at h0 ⊢
  obtain ⟨z, hz⟩ : ∃ z, qnE c a = z := ⟨_, rfl⟩
  have hz0 := hz
  rw [hz] at HQ h0 ⊢
  rw [hLL] at HQ h0 q1 ⊢
  by_cases c0 : z = 0
  case neg =>
   rw [if_pos c0]
   have t0 : (z == 0) = false := by rw [beq_eq_false_iff_ne]; exact c0
   clear hv q3 hLL hz hz0 h0 c0 ha hL
   go_enter Tryz.func9, Tryz.ntmps9
   go_wp2_with fail
   refine HQ.out.mono ?_; rintro e w0 ⟨rfl, hb0⟩
   go_wp2_with fail
   go_ret2
   exact ⟨⟨_, rfl, MRow.nilS _⟩, hb0⟩
  rw [c0] at HQ
  rw [if_neg (by rw [c0]; simp)] at h0 ⊢
  by_cases c1 : n < 0 ∨ 32 < n
  ·rw [if_pos c1]
   obtain ⟨p, hp⟩ : ∃ p, decide (n < 0) = p := ⟨_, rfl⟩
   obtain ⟨q, hq⟩ : ∃ q, decide (32 < n) = q := ⟨_, rfl⟩
   have hpq : (p || q) = true := by rw [← hp, ← hq]; simpa using c1
   clear hv q3 hLL hz hz0 h0 c0 c1 ha hL
   cases p
   ·obtain rfl : q = true := by simpa using hpq
    clear hpq
    go_enter Tryz.func9, Tryz.ntmps9
    go_wp2_with fail
    refine HQ.out.mono ?_; rintro e w0 ⟨rfl, hb0⟩
    go_wp2_with fail
    go_ret2
    exact ⟨⟨_, rfl, MRow.nilS _⟩, hb0⟩
   ·clear hpq hq
    go_enter Tryz.func9, Tryz.ntmps9
    go_wp2_with fail
    refine HQ.out.mono ?_; rintro e w0 ⟨rfl, hb0⟩
    go_wp2_with fail
    go_ret2
    exact ⟨⟨_, rfl, MRow.nilS _⟩, hb0⟩
  ·rw [if_neg c1] at h0 ⊢
   have hq := qnE_ok (hz0.trans c0)
   rw [hLL] at hq
   obtain ⟨-, k2, -, -⟩ := hq
   obtain ⟨m, rfl⟩ : ∃ m : Nat, n = (m : Nat) := ⟨n.toNat, by omega⟩
   by_cases c2 : 256 < ((m : Nat) : Int) * ((L : Nat) : Int)
   ·rw [if_pos c2]
    have t1 : decide ((m : Int) < 0) = false := by simp
    have t2 : decide ((32 : Int) < (m : Int)) = false := by simp; omega
    obtain ⟨M, hM⟩ : ∃ M : Int, (m : Int) * (L : Int) = M := ⟨_, rfl⟩
    have hM2 : M ≤ 100000 := by
     rw [← hM]
     have h5 : m * L ≤ 32 * 256 := Nat.mul_le_mul (by omega) k2
     have : ((m * L : Nat) : Int) ≤ 100000 := by omega
     rwa [Int.natCast_mul] at this
    rw [hM] at c2
    have wm : IntKind.i64.wrap ((m : Int) * (L : Int)) = M := by rw [hM, IntWalk.i64_in _ ⟨by omega, by omega⟩]
    have t3 : decide (256 < M) = true := decide_eq_true c2
    clear hv q3 hLL hz hz0 h0 c0 c1 c2 ha hL hM hM2 k2
    go_enter Tryz.func9, Tryz.ntmps9
    go_wp2_with fail
    refine HQ.out.mono ?_; rintro e w0 ⟨rfl, hb0⟩
    go_wp2_with fail
    go_ret2
    exact ⟨⟨_, rfl, MRow.nilS _⟩, hb0⟩
   ·rw [if_neg c2] at h0
    exact absurd rfl h0
end Go.Proofs.YtckihjfkafdncaaGreatDoor
namespace Go.Proofs.YtckihjfkafdncaaGreatDoor
open Go.RowKit
open Go.Shelf
theorem mrow_lit (w : World) (L : List (ByteArray × ByteArray)) (n : Nat) (hn : L.length = n) (hL : n ≤ 1000) : MRow (w.alloc (.cells (massC L).toArray 39)) (.slice (some ⟨w.heap.size, 0, none⟩) n n) L := by
 subst hn
 refine ⟨some ⟨w.heap.size, 0, none⟩, L.length, rfl, Nat.le_refl _, by omega, fun i x h => ⟨w.heap.size, 0, rfl, by simp, ?_, ?_⟩⟩
 ·rw [Nat.zero_add, (Blk.new w _ _).cell, List.getElem?_toArray]; exact (massC_get h).1
 ·rw [Nat.zero_add, (Blk.new w _ _).cell, List.getElem?_toArray]; exact (massC_get h).2
theorem rowZ_lit (w : World) (L : List Int) (n : Nat) (hn : L.length = n) (hL : n ≤ 1000) : Row (w.alloc (.cells (zs L).toArray 3)) (.slice (some ⟨w.heap.size, 0, none⟩) n n) (zs L) :=
 Row.of_blk (Blk.new w _ _) (by rw [zs_length]; exact hn) (by unfold maxLen; omega) (fun i x h => by rw [List.getElem?_toArray]; exact h) (Nat.le_refl _) (by unfold maxLen; omega)
open Go.Lib (decDigits nDigits)
def halfB : ByteArray := ⟨#[49, 47, 50]⟩
theorem pv_a : pkA [3, 5, 5] halfB [⟨#[49]⟩, ⟨#[49]⟩, ⟨#[49]⟩] = (1, true) ∧ pkE [3, 5, 5] halfB [⟨#[49]⟩, ⟨#[49]⟩, ⟨#[49]⟩] = 0 := by decide +kernel
theorem pv_b : flE [1, 1] halfB 2 = 0 ∧ flR [1, 1] halfB 2 = [(⟨#[48]⟩, ⟨#[55, 47, 49, 54]⟩), (⟨#[49]⟩, ⟨#[49, 47, 56]⟩), (⟨#[108, 97, 116, 101]⟩, ⟨#[55, 47, 49, 54]⟩)] := by
 have h : flE [1, 1] halfB 2 = 0 := by decide +kernel
 refine ⟨h, ?_⟩
 unfold flR
 rw [if_pos h]
 have e : fkP (gV (bN (cW halfB)) (bN (qD halfB)) false (2 : Int).toNat) (2 : Int).toNat [1, 1] = [(⟨#[48]⟩, ⟨#[55, 47, 49, 54]⟩), (⟨#[49]⟩, ⟨#[49, 47, 56]⟩), (⟨#[108, 97, 116, 101]⟩, ⟨#[55, 47, 49, 54]⟩)] := by decide +kernel
 rw [e]
 exact List.mergeSort_of_pairwise (by decide +kernel)
theorem rowZ_is (w : World) (L : List Int) (cs : Array Value) (n b : Nat) (hc : cs = (zs L).toArray) (hb : w.heap.size = b) (hn : L.length = n) (hL : n ≤ 1000) : Row (w.alloc (.cells cs 3)) (.slice (some ⟨b, 0, none⟩) n n) (zs L) := by
 subst hc hb
 exact rowZ_lit w L n hn hL
theorem rowB_is (w : World) (L : List ByteArray) (cs : Array Value) (n b : Nat) (hc : cs = (strs L).toArray) (hb : w.heap.size = b) (hn : L.length = n) (hL : n ≤ 1000) : Row (w.alloc (.cells cs 33)) (.slice (some ⟨b, 0, none⟩) n n) (strs L) := by
 subst hc hb
 exact Row.of_blk (Blk.new w _ _) (by rw [strs_length]; exact hn) (by unfold maxLen; omega) (fun i x h => by rw [List.getElem?_toArray]; exact h) (Nat.le_refl _) (by unfold maxLen; omega)
theorem w_lives25 (w : World) (hL : LayB w) :
 Calls Tryz.prog 8 #[] w fun e w' => e = .returned (.bool true) ∧ Below w.heap.size w w' := by
 have HL := hid hL
 have PP := fun V v u hv hu hV => hid (fd_Peak V v u [3, 5, 5] halfB [⟨#[49]⟩, ⟨#[49]⟩, ⟨#[49]⟩] hv hu (by decide) (by decide) hV)
 have PL := fun V v hv hV => hid (fd_Law V v [1, 1] halfB 2 hv (by decide) hV)
 rw [pv_a.1, pv_a.2] at PP
 rw [pv_b.1, pv_b.2] at PL
 unfold halfB at PP PL
 have PS := fun V u v hu hv => hid (k_SameM V u v [(⟨#[48]⟩, ⟨#[55, 47, 49, 54]⟩), (⟨#[49]⟩, ⟨#[49, 47, 56]⟩), (⟨#[108, 97, 116, 101]⟩, ⟨#[55, 47, 49, 54]⟩)] [(⟨#[48]⟩, ⟨#[55, 47, 49, 54]⟩), (⟨#[49]⟩, ⟨#[49, 47, 56]⟩), (⟨#[108, 97, 116, 101]⟩, ⟨#[55, 47, 49, 54]⟩)] hu hv)
 rw [decide_eq_true rfl] at PS
 clear hL
 have A1 := (Below.refl w.heap.size w).alloc (Nat.le_refl _) (.cells #[.int .i64 3, .int .i64 5, .int .i64 5] 3)
 have A2 := hid (A1.alloc A1.size (.cells #[.string ⟨#[49]⟩, .string ⟨#[49]⟩, .string ⟨#[49]⟩] 33))
 have R1 := hid ((rowZ_is w [3, 5, 5] _ 3 w.heap.size rfl rfl rfl (by omega)).call ((Below.refl _ _).alloc (Nat.le_refl _) (.cells #[.string ⟨#[49]⟩, .string ⟨#[49]⟩, .string ⟨#[49]⟩] 33)))
 have R2 := hid (rowB_is (w.alloc (.cells #[.int .i64 3, .int .i64 5, .int .i64 5] 3)) [⟨#[49]⟩, ⟨#[49]⟩, ⟨#[49]⟩] _ 3 (w.heap.size + 1) rfl (by simp) rfl (by omega))
 clear A1
 go_enter Tryz.func8, Tryz.ntmps8
 go_wp2_with fail
 refine (PP _ _ _ R1.out R2.out (HL.out.call A2.out).l).out.mono ?_; rintro e w1 ⟨rfl, hb1⟩
 have y1 := hid (bnext A2.out hb1)
 clear hb1
 go_wp2_with fail
 have A3 := hid ((Below.refl w1.heap.size w1).alloc (Nat.le_refl _) (.cells #[.int .i64 1, .int .i64 1] 3))
 have R3 := hid (rowZ_is w1 [1, 1] _ 2 w1.heap.size rfl rfl rfl (by omega))
 refine (PL _ _ R3.out (HL.out.call (bnext y1.out A3.out))).out.mono ?_; rintro e w2 ⟨⟨u, rfl, hu⟩, hb2⟩
 have y2 := hid (bnext y1.out (bnext A3.out hb2))
 have U2 := hid hu
 obtain ⟨a2, k2, rfl, -, -, -⟩ := hu.ex
 clear hb2 hu
 have A4 := hid ((Below.refl w2.heap.size w2).alloc (Nat.le_refl _) (.cells #[.string ⟨#[48]⟩, .string ⟨#[55, 47, 49, 54]⟩, .string ⟨#[49]⟩, .string ⟨#[49, 47, 56]⟩, .string ⟨#[108, 97, 116, 101]⟩, .string ⟨#[55, 47, 49, 54]⟩] 39))
 have R4 := hid (mrow_lit w2 [(⟨#[48]⟩, ⟨#[55, 47, 49, 54]⟩), (⟨#[49]⟩, ⟨#[49, 47, 56]⟩), (⟨#[108, 97, 116, 101]⟩, ⟨#[55, 47, 49, 54]⟩)] 3 rfl (by omega))
 go_wp2_with fail
 refine (PS _ _ _ (U2.out.call A4.out) R4.out).out.mono ?_; rintro e w3 ⟨rfl, hb3⟩
 go_wp2_with fail
 go_ret
 exact ⟨rfl, bnext y2.out (bnext A4.out hb3)⟩
theorem info_intO : (Tryz.prog.info? 3).map (fun i => (i.zero, i.size, i.bytes)) = some (some (.int .i64 0), 1, 8) := by kernel_rfl
theorem r21_Share (w : World) (k n : Nat) (hk : k ≤ 1000000) (hn : n ≤ 256) :
 Calls Tryz.prog 13 #[.int .i64 (k : Nat), .int .i64 (n : Nat)] w fun e w' => e = .returned (.string (shB k (2 ^ n))) ∧ Below w.heap.size w w' := by
 have H1 := fun V => hid (r2_Int V k (by omega))
 have H2 := fun V => hid (r1_Read_num V k (Nat.le_trans (nDigits_le (k := 7) (by omega) (by omega)) (by omega)))
 have hk2 : k ≤ 2 ^ 256 := Nat.le_trans hk (by decide)
 have H3 := fun V v hv => hid (r3_Share V v k n hv hn hk2)
 generalize shB k (2 ^ n) = B at *
 generalize numB k = A1 at *
 clear hk2
 go_enter Tryz.func13, Tryz.ntmps13
 go_wp2_with fail
 refine (H1 _).out.mono ?_; rintro e w1 ⟨rfl, rfl⟩
 go_wp2_with fail
 refine (H2 _).out.mono ?_; rintro e w2 ⟨⟨v2, rfl, hv2⟩, hb2⟩
 have y2 := hid hb2
 have V2 := hid hv2
 obtain ⟨a2, c2, rfl, -, -, -⟩ := hv2.openI
 clear hb2 hv2
 go_wp2_with fail
 refine (H3 _ _ V2.out).out.mono ?_; rintro e w3 ⟨rfl, hb3⟩
 have y3 := hid (bnext y2.out hb3)
 clear hb3
 go_wp2_with fail
 go_ret
 exact ⟨rfl, y3.out⟩
theorem ky0 : kyB 0 = ⟨#[48]⟩ := by decide +kernel
theorem ky1 : kyB 1 = ⟨#[49]⟩ := by decide +kernel
theorem ky2 : kyB 2 = ⟨#[50]⟩ := by decide +kernel
theorem pct_two (w : World) (x y z : Int) (a : ByteArray) (n : Nat) (ha : a.size ≤ 20) (hn : n ≤ 4) (hL : LayB w) :
 Calls Tryz.prog 3 #[.int .i64 x, .int .i64 y, .int .i64 z, .bool false, .string a, .int .i64 (n : Nat)] w fun e w' => e = .returned (.bool true) ∧ Below w.heap.size w w' := by
 have HLV := hid (w_lives25 w hL)
 have HL := hid hL
 obtain ⟨i0, hi, hz0, hz1, hz2⟩ := info_parts info_intO
 obtain ⟨j0, hj, hy0, hy1, hy2⟩ := info_parts info_bits
 have t0 : decide ((20 : Int) < (a.size : Int)) = false := decide_eq_false (by omega)
 have t1 : decide ((n : Int) < 0) = false := decide_eq_false (by omega)
 have t2 : decide ((4 : Int) < (n : Int)) = false := decide_eq_false (by omega)
 have t3 : decide ((3 : Int) < (n : Int)) = decide (3 < (n : Int)) := rfl
 have P1 := fun V v hv hV => hid (fd_Law V v [x, y] a (n : Nat) hv (by omega) hV)
 have P3 := fun V v u b hv hu hb hV => hid (fd_Peak V v u [x, y] a b hv hu (by omega) hb hV)
 have HA := hid ha; have HN := hid hn
 obtain ⟨M, hM⟩ : ∃ M, n * 2 = M := ⟨_, rfl⟩
 have HM := hid hM
 have HM9 := hid (show M ≤ 8 by omega)
 have wm : IntKind.i64.wrap ((n : Int) * 2) = (M : Nat) := by rw [IntWalk.i64_in _ ⟨by omega, by omega⟩]; omega
 have hm4 : ∀ W : World, (Instr.makeSlice 24 (.int .i64 4) (.int .i64 4)).run Tryz.prog W = .ok (.slice (some ⟨W.heap.size, 0, none⟩) 4 4) (W.alloc (.cells (madeCells #[.int .i64 0] 4) 3)) := make_ints 4 (by omega)
 clear hL hM hn ha t3
 go_enter Tryz.func3, Tryz.ntmps3
 go_wp2_with fail
 refine HLV.out.mono ?_; rintro e w1 ⟨rfl, hb1⟩
 have y1 := hid hb1; clear hb1
 have R3 := hid (row_two w1 x y 3)
 have B3 := hid ((Below.refl w1.heap.size w1).alloc (Nat.le_refl _) (.cells #[.int .i64 x, .int .i64 y] 3))
 go_wp2_with fail
 have FB : Hid (flE [x, y] a (n : Nat) ≠ 0 → (flR [x, y] a (n : Nat)).length = 0) := fun h => by unfold flR; rw [if_neg h]; rfl
 have FG := hid (fun h : flE [x, y] a (n : Nat) = 0 => pct_main h (by simp) (by have := HN.out; omega))
 rw [show n * ([x, y] : List Int).length = M from HM.out] at FG
 obtain ⟨E, hE⟩ : ∃ E, flE [x, y] a (n : Nat) = E := ⟨_, rfl⟩
 obtain ⟨BL, hBL⟩ : ∃ E, flR [x, y] a (n : Nat) = E := ⟨_, rfl⟩
 rw [hE, hBL] at P1 FB
 rw [hE, hBL] at FG
 clear hE hBL
 by_cases hE0 : E = 0
 case neg =>
  have e1 : (E == 0) = false := by simpa using hE0
  have e2 : (E != 0) = true := by simpa using hE0
  have FB := hid (FB.out hE0)
  clear hE0 FG
  refine (P1 _ _ R3.out (HL.out.call (bnext y1.out B3.out))).out.mono ?_; rintro e w4 ⟨⟨u, rfl, hu⟩, hb4⟩
  have y4 := hid (bnext y1.out (bnext B3.out hb4))
  obtain ⟨a4, k4, rfl, -, -, -⟩ := hu.ex
  rw [FB.out]
  clear hb4 hu
  go_wp2_with fail
  go_ret
  exact ⟨rfl, y4.out⟩
 case pos =>
  subst hE0
  obtain ⟨hq, hh, hf⟩ := FG.out rfl
  have HH := hid hh; have HF := hid hf
  have WP : Hid (∀ l ∈ allW M, pkE [x, y] a ((chk n 2 l).map tb) = 0 ∧ pkA [x, y] a ((chk n 2 l).map tb) = wdA [x, y] a n l) := fun l hl => wdA_pk (c := [x, y]) hq (by have := HN.out; omega) ((allW_len hl).trans HM.out.symm) (allW_bits hl)
  obtain ⟨f, hff⟩ : ∃ f, slW [x, y] a n = f := ⟨_, rfl⟩
  have HFF := hid hff
  rw [hff] at HH HF
  have PA := fun V => hid (r3_All V M (by have := HM9.out; omega))
  obtain ⟨T, hT⟩ : ∃ T, 2 ^ M = T := ⟨_, rfl⟩
  have HAL : Hid ((allW M).length = T) := by show _ = _; rw [allW_length, hT]
  have hT512 : T ≤ 512 := by rw [← hT]; exact Nat.le_trans (Nat.pow_le_pow_right (by omega) (show M ≤ 9 by have := HM9.out; omega)) (by decide)
  have HTT := hid hT; have HT5 := hid hT512
  rw [hT] at HH
  clear FG FB hq hh hf hff hT hT512
  refine (P1 _ _ R3.out (HL.out.call (bnext y1.out B3.out))).out.mono ?_; rintro e w4 ⟨⟨u, rfl, hu⟩, hb4⟩
  have y4 := hid (bnext y1.out (bnext B3.out hb4))
  have U4 := hid hu; have R4 := hid (R3.out.call hb4)
  obtain ⟨a4, k4, rfl, u1, u2, -⟩ := hu.ex
  obtain ⟨D, hD⟩ : ∃ D, BL.length = D := ⟨_, rfl⟩
  rw [hD] at U4 u1 HF ⊢
  clear hb4 hu hD
  go_wp2_with fail
  refine (PA _).out.mono ?_; rintro e w5 ⟨⟨v5, rfl, hv5⟩, hb5⟩
  have y5 := hid (bnext y4.out hb5)
  have U5 := hid (U4.out.call hb5); have R5 := hid (R4.out.call hb5)
  have V5 := hid hv5
  obtain ⟨a5, k5, rfl, s1, s2, -⟩ := hv5.openS
  rw [List.length_map, HAL.out] at V5 s1 ⊢
  clear hb5 hv5
  go_wp2_with fail
  have X4 := Blk.new w5 (madeCells #[.int .i64 0] 4) 3
  have B4 := hid ((Below.refl w5.heap.size w5).alloc (Nat.le_refl _) (.cells (madeCells #[.int .i64 0] 4) 3))
  rw [made_ints] at X4 B4 ⊢
  have X6 := hid (show Arr .i64 3 _ w5.heap.size (qC f ((allW M).take 0)) by rw [List.take_zero, qC_nil]; exact X4)
  have U6 := hid (U5.out.call B4.out); have R6 := hid (R5.out.call B4.out)
  have V6 := hid (V5.out.call B4.out)
  have y6 := hid (bnext y5.out B4.out)
  obtain ⟨w6, hw6⟩ : ∃ w6, w5.alloc (.cells (ints .i64 (List.replicate 4 0)).toArray 3) = w6 := ⟨_, rfl⟩
  obtain ⟨g, hgg⟩ : ∃ g, w5.heap.size = g := ⟨_, rfl⟩
  rw [hw6] at X6 U6 V6 R6 y6 ⊢
  rw [hgg] at X6 ⊢
  have G1 : Hid (w5.heap.size ≤ g) := by rw [← hgg]; exact Nat.le_refl _
  have W6 : Hid (Below g w5 w6) := by rw [← hgg, ← hw6]; exact (Below.refl w5.heap.size w5).alloc (Nat.le_refl _) _
  clear X4 B4 hw6 hgg
  go_loopw [19, 20, 21, 22, 23] (fun s19 s20 s21 s22 s23 wr => ∃ j : Nat, s19 = .int .i64 (j : Nat) ∧ j ≤ T ∧ Hid (Arr .i64 3 wr g (qC f ((allW M).take j))) ∧ Hid (Below g w5 wr)) (fun s19 s20 s21 s22 s23 wr => T - (intOf s19).toNat)
  case atStart => exact ⟨0, rfl, Nat.zero_le _, X6, W6⟩
  case round =>
   obtain ⟨j, rfl, hj, hX, hB⟩ := hrel
   have hB5 := hid (hB.out.mono G1.out)
   have yr := hid (bnext y5.out hB5.out)
   by_cases hlt : j < T
   ·obtain ⟨l, hl⟩ : ∃ l, (allW M)[j]? = some l := ⟨_, List.getElem?_eq_getElem (by rw [HAL.out]; exact hlt)⟩
    have hlm := List.mem_of_getElem? hl
    obtain ⟨g', o, rfl, hg', hc⟩ := V5.out.at (strs_get (show ((allW M).map tb)[j]? = some (tb l) by rw [List.getElem?_map, hl]; rfl))
    have hc2 := (hB5.out.cell (p := ⟨g', o + j, none⟩) hg').trans hc
    have HT : Hid ((allW M).take (j + 1) = (allW M).take j ++ [l]) := by show (allW M).take (j + 1) = _; rw [List.take_add_one, hl]; rfl
    have hll := allW_len hlm
    obtain ⟨q1, q2⟩ := WP.out l hlm
    have wc := hid (wdA_cases (c := [x, y]) (by simp) a n l)
    obtain ⟨X, hXX⟩ : ∃ X, tb l = X := ⟨_, rfl⟩
    have sX : X.size = M := by rw [← hXX, tb_size, hll]
    rw [hXX] at hc2
    have f0 : (0 : Int) ≤ (j : Int) := by omega
    have f1 : (j : Int) < (T : Int) := by omega
    have hn4 := HN.out; have hmm := HM.out
    obtain ⟨N2, hN2⟩ : ∃ N2, 2 * n = N2 := ⟨_, rfl⟩
    have g1 : n ≤ M := by omega
    have g2 : n ≤ N2 := by omega
    have g3 : N2 ≤ M := by omega
    have w2 : IntKind.i64.wrap (2 * (n : Int)) = (N2 : Int) := by rw [IntWalk.i64_in _ ⟨by omega, by omega⟩]; omega
    have HN2 := hid hN2
    have wj : IntKind.i64.wrap ((j : Int) + 1) = ((j + 1 : Nat) : Int) := by have := HT5.out; rw [IntWalk.i64_in _ ⟨by omega, by omega⟩]; omega
    have KK : Hid (∀ w', Below wr.heap.size wr w' → w'.cell? ⟨g', o + j, none⟩ = some (.string X)) := fun w' hb => ((hB5.out.trans (hb.mono hB5.out.size)).cell (p := ⟨g', o + j, none⟩) hg').trans (by rw [← hXX]; exact hc)
    have p1 : X.extract 0 n = tb (l.take n) := by
     apply ba_ext
     rw [extract_list, tb_list, ← hXX, tb_list, List.drop_zero, Nat.sub_zero]
    have p2 : X.extract n N2 = tb ((l.drop n).take n) := by
     apply ba_ext
     rw [extract_list, tb_list, ← hXX, tb_list, show N2 - n = n by omega]
    have HBB := hid (show (chk n 2 l).map tb = [X.extract 0 n, X.extract n N2] by rw [p1, p2]; rfl)
    have HS : Hid (∀ b ∈ (chk n 2 l).map tb, b.size ≤ 100000000) := fun b hb => by
     obtain ⟨q, hq', rfl⟩ := List.mem_map.1 hb
     rw [tb_size, (chk_bits (hll.trans HM.out.symm) (allW_bits hlm) q hq').1]
     omega
    have PD := fun V v u hv hu hV => hid (P3 V v u ((chk n 2 l).map tb) hv hu HS.out hV).out
    rw [q1, q2] at PD
    have HLL := hid hll; have HXX := hid hXX; have SX := hid sX; have HJ := hid hlt
    clear hl hlm hc hc2 hg' hll hXX hn4 hmm hlt hj hN2 p1 p2 q1 q2
    go_wp2_with fail
    refine held_plain [0, 1, 2, 3, 4, 5, 6, 7, 8, 9, 10, 11, 12, 13] 2 (fun w' => w'.cell? ⟨g', o + j, none⟩ = some (.string X)) (by kernel_rfl) (by kernel_rfl) (by kernel_rfl) (by kernel_rfl) (KK.out _ (Below.refl _ _).drew) ?_
    iterate 14
     refine ⟨_, rfl, ?_⟩
     apply Exists.intro
     refine ⟨.inl ⟨by rfl, ?_⟩, ?_⟩
     ·(intro W' hW'; obtain q9 := hW'; go_simp; try (with_reducible rfl))
     (dsimp only [Act.put]; try simp only [List.setIfInBounds_toArray, List.set_cons_zero, List.set_cons_succ])
    refine held_one (i := 14) (by kernel_rfl) (by rfl) (by rfl) ?_
    go_wp2_with fail
    have d7 := hid (show Below wr.heap.size wr (wr.alloc (.cells #[.string (X.extract 0 n), .string (X.extract n N2)] 33)).drew from ((Below.refl _ _).alloc (Nat.le_refl _) _).drew)
    have k7 := hid (KK.out _ d7.out)
    have RB0 := hid (show Row (wr.alloc (.cells #[.string (X.extract 0 n), .string (X.extract n N2)] 33)).drew (.slice (some ⟨wr.heap.size, 0, none⟩) 2 2) (strs [X.extract 0 n, X.extract n N2]) from (rowB_is wr [X.extract 0 n, X.extract n N2] _ 2 wr.heap.size rfl rfl rfl (by omega)).call ((Below.refl _ _).drew))
    have OW7 := hid (show (wr.alloc (.cells #[.string (X.extract 0 n), .string (X.extract n N2)] 33)).drew.ownsRow wr.heap.size 33 1 (.slice (some ⟨wr.heap.size, 0, none⟩) 2 2) 2 [.string (X.extract 0 n), .string (X.extract n N2)] from World.ownsRow_lit (e := 33) (size := 1) (base := wr.heap.size) wr #[.string (X.extract 0 n), .string (X.extract n N2)] 2 (Nat.le_refl _) (by unfold maxLen; omega) rfl)
    refine ⟨k7.out, ?_⟩
    obtain ⟨w7, hw7⟩ : ∃ w7, (wr.alloc (.cells #[.string (X.extract 0 n), .string (X.extract n N2)] 33)).drew = w7 := ⟨_, rfl⟩
    rw [hw7] at d7 k7 RB0 OW7 ⊢
    clear hw7
    refine held_more (is := [15]) (g := 0) (by kernel_rfl) rfl k7.out (by kernel_rfl) ?_
    iterate 1
     refine ⟨_, rfl, ?_⟩
     apply Exists.intro
     refine ⟨.inl ⟨by rfl, ?_⟩, ?_⟩
     ·(intro W' hW'; obtain q9 := hW'; go_simp; try (with_reducible rfl))
     (dsimp only [Act.put]; try simp only [List.setIfInBounds_toArray, List.set_cons_zero, List.set_cons_succ])
    refine wpAnyH_done (by kernel_rfl) ?_ _
    simp only [Only]
    have RB := hid (show Row w7 (.slice (some ⟨wr.heap.size, 0, none⟩) 2 2) (strs ((chk n 2 l).map tb)) by rw [HBB.out]; exact RB0.out)
    have d9 := d7
    go_wp2_with fail
    refine (PD _ _ _ ((R5.out.call hB5.out).call d9.out) RB.out (HL.out.call (bnext yr.out d9.out)).l).out.mono ?_; rintro e w9 ⟨rfl, hb9⟩
    have x9 := hid (bnext d9.out hb9)
    have X9 := hid (hX.out.call x9.out)
    have B9 := hid (hB.out.trans (x9.out.mono (by have := hX.out.lt; omega)))
    clear hb9
    obtain ⟨k0, hk0⟩ : ∃ k0, slW [x, y] a n l = k0 := ⟨_, rfl⟩
    have HK0 := hid hk0
    have hfl : f l = k0 := by rw [← HFF.out]; exact hk0
    obtain ⟨c0, hc0⟩ : ∃ c0, (((allW M).take j).countP fun x => decide (f x = k0)) = c0 := ⟨_, rfl⟩
    have hc1 : c0 ≤ 512 := by
     have := List.countP_le_length (p := fun x => decide (f x = k0)) (l := (allW M).take j)
     rw [List.length_take, hc0] at this
     have := HT5.out
     omega
    have h6 : Hid (qC f ((allW M).take (j + 1)) = (qC f ((allW M).take j)).set k0 (c0 + 1)) := by show _ = _; rw [HT.out, qC_snoc, hfl, hc0]
    have hget := fun (h : k0 < 4) => (qC_get f ((allW M).take j) h)
    rw [hc0] at hget
    have wk : IntKind.i64.wrap ((c0 : Int) + 1) = ((c0 + 1 : Nat) : Int) := by rw [IntWalk.i64_in _ ⟨by omega, by omega⟩]; omega
    have HC1 := hid hc1
    have HGT := hid hget
    clear hk0 hfl hc0 hc1 hget
    rcases wc.out with hw | ⟨m, hm, hw⟩
    ·rw [hw]
     have e3 : k0 = 3 := by rw [← HK0.out]; unfold slW; rw [hw]; rfl
     subst e3
     have G3 := HGT.out (by omega)
     have m1 := X9.out.cell G3
     have m2 := X9.out.free 3
     have X10 := hid (X9.out.set 3 (c0 + 1))
     have B10 := hid (below_set B9.out (g := g) (i := 3) (Nat.le_refl _) (.int .i64 ((c0 + 1 : Nat) : Int)))
     clear hw G3
     dsimp only
     go_wp2_with fail
     go_roundw
     case rel => exact ⟨j + 1, by go_num, by have := HJ.out; omega, by rw [h6.out]; exact X10, B10⟩
     case measure => simp [intOf] <;> (have := HJ.out; omega)
    ·rw [hw]
     have e3 : k0 = m := by rw [← HK0.out]; unfold slW; rw [hw]; simp
     subst e3
     have hm4 : k0 < 2 := hm
     have G3 := HGT.out (by omega)
     have m1 := X9.out.cell G3
     have m2 := X9.out.free k0
     have X10 := hid (X9.out.set k0 (c0 + 1))
     have B10 := hid (below_set B9.out (g := g) (i := k0) (Nat.le_refl _) (.int .i64 ((c0 + 1 : Nat) : Int)))
     have q5 : decide ((k0 : Int) < 0) = false := decide_eq_false (by omega)
     have q6 : decide ((2 : Int) ≤ (k0 : Int)) = false := decide_eq_false (by omega)
     have q7 : decide (2 ≤ k0) = false := decide_eq_false (by omega)
     have b3 : (0 : Int) ≤ (k0 : Int) := by omega
     have b4 : (k0 : Int) < 4 := by omega
     clear hw G3 hm hm4
     dsimp only
     go_wp2_with fail
     go_roundw
     case rel => exact ⟨j + 1, by go_num, by have := HJ.out; omega, by rw [h6.out]; exact X10, B10⟩
     case measure => simp [intOf] <;> (have := HJ.out; omega)
   ·obtain rfl : j = T := by omega
    have q1 : decide ((j : Int) < (j : Int)) = false := by simp
    have hT : (allW M).take j = allW M := List.take_of_length_le (by rw [HAL.out]; exact Nat.le_refl _)
    rw [hT] at hX
    obtain ⟨C, hC⟩ : ∃ C, qC f (allW M) = C := ⟨_, rfl⟩
    have hC4 : C.length = 4 := by rw [← hC]; exact qC_length _ _
    have hCle : Hid (∀ (k x : Nat), C[k]? = some x → x ≤ 512) := fun k x hx => by
     have hk4 : k < 4 := by have := (List.getElem?_eq_some_iff.1 hx).1; omega
     rw [← hC, qC_get f _ hk4] at hx
     injection hx with hx
     have := List.countP_le_length (p := fun y => decide (f y = k)) (l := allW M)
     rw [hx, HAL.out] at this
     have := HT5.out
     omega
    rw [hC] at hX HH HF
    have HC4 := hid hC4
    clear hlt hT hC hC4 hj
    go_wp2_with fail
    have KEY := hid (Blk.new wr #[.string ⟨#[48]⟩, .string ⟨#[49]⟩, .string ⟨#[50]⟩, .string ⟨#[108, 97, 116, 101]⟩] 9)
    have BK := hid ((Below.refl wr.heap.size wr).alloc (Nat.le_refl _) (.cells #[.string ⟨#[48]⟩, .string ⟨#[49]⟩, .string ⟨#[50]⟩, .string ⟨#[108, 97, 116, 101]⟩] 9))
    obtain ⟨gk, hgk⟩ : ∃ gk, wr.heap.size = gk := ⟨_, rfl⟩
    obtain ⟨wq, hwq⟩ : ∃ wq, wr.alloc (.cells #[.string ⟨#[48]⟩, .string ⟨#[49]⟩, .string ⟨#[50]⟩, .string ⟨#[108, 97, 116, 101]⟩] 9) = wq := ⟨_, rfl⟩
    have hgX := hX.out.lt
    have XQ := hid (hX.out.call BK.out)
    have yq := hid (bnext yr.out BK.out)
    have UQ := hid (((U5.out.call hB5.out)).call BK.out)
    rw [hwq] at KEY BK XQ yq UQ ⊢
    rw [hgk] at KEY ⊢
    clear hwq hgk hgX
    go_loopw [24, 26] (fun s24 s26 wx => ∃ i : Nat, s24 = .int .i64 (fnN C i : Nat) ∧ s26 = .int .i64 (i : Nat) ∧ i ≤ 4 ∧ Hid (Below wq.heap.size wq wx)) (fun s24 s26 wx => 4 - (intOf s26).toNat)
    case atStart => exact ⟨0, rfl, rfl, Nat.zero_le _, Below.refl _ _⟩
    case round =>
     obtain ⟨i, rfl, rfl, hi4, hBx⟩ := hrel
     by_cases hlt : i < 4
     ·obtain ⟨v, hv⟩ : ∃ v, C[i]? = some v := ⟨_, List.getElem?_eq_getElem (by rw [HC4.out]; exact hlt)⟩
      have m1 := (XQ.out.call hBx.out).cell hv
      have hst := fnN_step hv
      have hle := fnN_le C i HC4.out
      have hv5 := hCle.out i v hv
      have hhs := fun h => HH.out i v hv h
      have ky : wq.cell? ⟨gk, i, none⟩ = some (.string (kyB i)) := by
       have := KEY.out.cell i
       match i, hlt, this with
       | 0, _, h => exact h.trans (by rw [ky0]; rfl)
       | 1, _, h => exact h.trans (by rw [ky1]; rfl)
       | 2, _, h => exact h.trans (by rw [ky2]; rfl)
       | 3, _, h => exact h
      have kl : gk < wq.heap.size := cell_lt ky
      obtain ⟨F, hF⟩ : ∃ F, fnN C i = F := ⟨_, rfl⟩
      have HFi := hid hF
      rw [hF] at hst hle ⊢
      have b1 : (0 : Int) ≤ (i : Int) := by omega
      have b2 : (i : Int) < 4 := by omega
      have wi : IntKind.i64.wrap ((i : Int) + 1) = ((i + 1 : Nat) : Int) := by rw [IntWalk.i64_in _ ⟨by omega, by omega⟩]; omega
      have wf : IntKind.i64.wrap ((F : Int) + 1) = ((F + 1 : Nat) : Int) := by rw [IntWalk.i64_in _ ⟨by omega, by omega⟩]; omega
      have HI := hid hlt
      by_cases h0 : v = 0
      ·have q5 : decide ((0 : Int) < (v : Int)) = false := by simp [h0]
       have q6 : decide (0 < v) = false := by simp [h0]
       rw [if_neg (by omega)] at hst
       have h8 := hid hst
       clear hF hv hst hle hv5 hhs ky kl h0 hlt hi4
       go_wp2_with fail
       go_roundw
       case rel => exact ⟨i + 1, by rw [h8.out], by go_num, by have := HI.out; omega, hBx⟩
       case measure => simp [intOf] <;> (have := HI.out; omega)
      ·have q5 : decide ((0 : Int) < (v : Int)) = true := by simp; omega
       have q6 : decide (0 < v) = true := by simp; omega
       rw [if_pos (by omega)] at hst
       have h8 := hid hst
       have h9 := hhs (by omega)
       have PS := fun V => hid (r21_Share V v M (by omega) (by have := HM9.out; omega))
       rw [HTT.out] at PS
       obtain ⟨S0, hS0⟩ : ∃ s, shB v j = s := ⟨_, rfl⟩
       obtain ⟨KB, hKB⟩ : ∃ s, kyB i = s := ⟨_, rfl⟩
       rw [hS0] at PS h9
       rw [hKB] at h9 ky
       have PH := fun V u hu => hid (k_HasM V u BL KB S0 hu)
       rw [h9] at PH
       have K2 : Hid (∀ w', Below wr.heap.size wr w' → w'.cell? ⟨gk, i, none⟩ = some (.string KB) ∧ w'.cell? ⟨g, i, none⟩ = some (.int .i64 (v : Nat))) := fun w' hb => ⟨((hBx.out.trans (hb.mono hBx.out.size)).cell (p := ⟨gk, i, none⟩) kl).trans ky, ((XQ.out.call hBx.out).call hb).cell hv⟩
       clear hF hv hst hle hv5 hhs ky kl h0 hlt hi4 h9 hS0 hKB
       go_wp2_with fail
       refine held_plain [0, 1, 2, 3, 4, 5, 6, 7, 8, 9, 10, 11, 12] 4 (fun w' => w'.cell? ⟨gk, i, none⟩ = some (.string KB) ∧ w'.cell? ⟨g, i, none⟩ = some (.int .i64 (v : Nat))) (by kernel_rfl) (by kernel_rfl) (by kernel_rfl) (by kernel_rfl) (K2.out _ (Below.refl _ _).drew) ?_
       iterate 13
        refine ⟨_, rfl, ?_⟩
        apply Exists.intro
        refine ⟨.inl ⟨by rfl, ?_⟩, ?_⟩
        ·(intro W' hW'; obtain ⟨q8, q9⟩ := hW'; go_simp; try (with_reducible rfl))
        (dsimp only [Act.put]; try simp only [List.setIfInBounds_toArray, List.set_cons_zero, List.set_cons_succ])
       refine held_one (i := 13) (by kernel_rfl) (by rfl) (by rfl) ?_
       go_wp2_with fail
       refine (PS _).out.mono ?_; rintro e w8 ⟨rfl, hb8⟩
       have x8 := hid (show Below wr.heap.size wr w8 from (Below.refl _ _).drew.trans hb8)
       clear hb8
       go_wp2_with fail
       refine ⟨K2.out _ x8.out, ?_⟩
       refine held_more (is := [14]) (g := 2) (by kernel_rfl) rfl (K2.out _ x8.out) (by kernel_rfl) ?_
       iterate 1
        refine ⟨_, rfl, ?_⟩
        apply Exists.intro
        refine ⟨.inl ⟨by rfl, ?_⟩, ?_⟩
        ·(intro W' hW'; obtain ⟨q8, q9⟩ := hW'; go_simp; try (with_reducible rfl))
        (dsimp only [Act.put]; try simp only [List.setIfInBounds_toArray, List.set_cons_zero, List.set_cons_succ])
       refine held_one (i := 15) (by kernel_rfl) (by rfl) (by rfl) ?_
       go_wp2_with fail
       refine (PH _ _ ((UQ.out.call hBx.out).call x8.out)).out.mono ?_; rintro e w9 ⟨rfl, hb9⟩
       have x9 := hid (bnext x8.out hb9)
       clear hb9
       go_wp2_with fail
       refine ⟨K2.out _ x9.out, ?_⟩
       refine held_more (is := [16]) (g := 0) (by kernel_rfl) rfl (K2.out _ x9.out) (by kernel_rfl) ?_
       iterate 1
        refine ⟨_, rfl, ?_⟩
        apply Exists.intro
        refine ⟨.inl ⟨by rfl, ?_⟩, ?_⟩
        ·(intro W' hW'; obtain ⟨q8, q9⟩ := hW'; go_simp; try (with_reducible rfl))
        (dsimp only [Act.put]; try simp only [List.setIfInBounds_toArray, List.set_cons_zero, List.set_cons_succ])
       refine wpAnyH_done (by kernel_rfl) ?_ _
       simp only [Only]
       go_wp2_with fail
       go_roundw
       case rel => exact ⟨i + 1, by rw [h8.out]; go_num, by go_num, by have := HI.out; omega, hid (bnext hBx.out x9.out)⟩
       case measure => simp [intOf] <;> (have := HI.out; omega)
     ·obtain rfl : i = 4 := by omega
      rw [HF.out]
      clear hlt hi4
      go_wp2_with fail
      go_ret
      exact ⟨rfl, bnext yq.out hBx.out⟩
theorem pct_three (w : World) (x y z : Int) (a : ByteArray) (n : Nat) (ha : a.size ≤ 20) (hn : n ≤ 3) (hL : LayB w) :
 Calls Tryz.prog 3 #[.int .i64 x, .int .i64 y, .int .i64 z, .bool true, .string a, .int .i64 (n : Nat)] w fun e w' => e = .returned (.bool true) ∧ Below w.heap.size w w' := by
 have HLV := hid (w_lives25 w hL)
 have HL := hid hL
 obtain ⟨i0, hi, hz0, hz1, hz2⟩ := info_parts info_intO
 obtain ⟨j0, hj, hy0, hy1, hy2⟩ := info_parts info_bits
 have t0 : decide ((20 : Int) < (a.size : Int)) = false := decide_eq_false (by omega)
 have t1 : decide ((n : Int) < 0) = false := decide_eq_false (by omega)
 have t2 : decide ((4 : Int) < (n : Int)) = false := decide_eq_false (by omega)
 have t3 : decide ((3 : Int) < (n : Int)) = false := decide_eq_false (by omega)
 have P1 := fun V v hv hV => hid (fd_Law V v [x, y, z] a (n : Nat) hv (by omega) hV)
 have P3 := fun V v u b hv hu hb hV => hid (fd_Peak V v u [x, y, z] a b hv hu (by omega) hb hV)
 have HA := hid ha; have HN := hid hn
 obtain ⟨M, hM⟩ : ∃ M, n * 3 = M := ⟨_, rfl⟩
 have HM := hid hM
 have HM9 := hid (show M ≤ 9 by omega)
 have wm : IntKind.i64.wrap ((n : Int) * 3) = (M : Nat) := by rw [IntWalk.i64_in _ ⟨by omega, by omega⟩]; omega
 have hm4 : ∀ W : World, (Instr.makeSlice 24 (.int .i64 4) (.int .i64 4)).run Tryz.prog W = .ok (.slice (some ⟨W.heap.size, 0, none⟩) 4 4) (W.alloc (.cells (madeCells #[.int .i64 0] 4) 3)) := make_ints 4 (by omega)
 clear hL hM hn ha
 go_enter Tryz.func3, Tryz.ntmps3
 go_wp2_with fail
 refine HLV.out.mono ?_; rintro e w1 ⟨rfl, hb1⟩
 have y1 := hid hb1; clear hb1
 have OW := hid (World.ownsRow_lit (e := 3) (size := 1) (base := w1.heap.size) w1 #[.int .i64 x, .int .i64 y] 2 (Nat.le_refl _) (by unfold maxLen; omega) rfl)
 have BW := hid ((Below.refl w1.heap.size w1).alloc (Nat.le_refl _) (.cells #[.int .i64 x, .int .i64 y] 3))
 have OW2 := hid (owns_call OW.out ((Below.refl _ _).alloc (Nat.le_refl _) (.cells #[.int .i64 z] 3)))
 have BW2 := hid (BW.out.alloc BW.out.size (.cells #[.int .i64 z] 3))
 go_wp2_with (at_builtin; refine wpList_append_own_at _ rfl _ _ 24 rfl w1.heap.size 3 i0 (.int .i64 0) 1 8 Tryz.underlying24 hi hz0 hz1 hz2 rfl (by decide) _ 2 [.int .i64 x, .int .i64 y] rfl OW2.out ⟨w1.heap.size + 1, 0, none⟩ 1 1 [.int .i64 z] rfl rfl (news_blk (by simpa using Blk.new (w1.alloc (.cells #[.int .i64 x, .int .i64 y] 3)) #[.int .i64 z] 3)) (by simp [Value.oneCell']) (by unfold maxLen; omega) (by omega) (by simp; omega) ?_
              intro v1' w3 hown hgrow _ hat
              have O3 := hid hown
              have B3 := hid (owned_below OW2.out BW2.out hgrow)
              obtain ⟨e3, r3, rfl⟩ := owns_ex hown
              have R3 := hid (show Row w3 (.slice e3 3 r3) (zs [x, y, z]) from Row.of_owns O3.out)
              clear hown hgrow hat O3)
 have FB : Hid (flE [x, y, z] a (n : Nat) ≠ 0 → (flR [x, y, z] a (n : Nat)).length = 0) := fun h => by unfold flR; rw [if_neg h]; rfl
 have FG := hid (fun h : flE [x, y, z] a (n : Nat) = 0 => pct_main h (by simp) (by have := HN.out; omega))
 rw [show n * ([x, y, z] : List Int).length = M from HM.out] at FG
 obtain ⟨E, hE⟩ : ∃ E, flE [x, y, z] a (n : Nat) = E := ⟨_, rfl⟩
 obtain ⟨BL, hBL⟩ : ∃ E, flR [x, y, z] a (n : Nat) = E := ⟨_, rfl⟩
 rw [hE, hBL] at P1 FB
 rw [hE, hBL] at FG
 clear hE hBL
 by_cases hE0 : E = 0
 case neg =>
  have e1 : (E == 0) = false := by simpa using hE0
  have e2 : (E != 0) = true := by simpa using hE0
  have FB := hid (FB.out hE0)
  clear hE0 FG
  refine (P1 _ _ R3.out (HL.out.call (bnext y1.out B3.out))).out.mono ?_; rintro e w4 ⟨⟨u, rfl, hu⟩, hb4⟩
  have y4 := hid (bnext y1.out (bnext B3.out hb4))
  obtain ⟨a4, k4, rfl, -, -, -⟩ := hu.ex
  rw [FB.out]
  clear hb4 hu
  go_wp2_with fail
  go_ret
  exact ⟨rfl, y4.out⟩
 case pos =>
  subst hE0
  obtain ⟨hq, hh, hf⟩ := FG.out rfl
  have HH := hid hh; have HF := hid hf
  have WP : Hid (∀ l ∈ allW M, pkE [x, y, z] a ((chk n 3 l).map tb) = 0 ∧ pkA [x, y, z] a ((chk n 3 l).map tb) = wdA [x, y, z] a n l) := fun l hl => wdA_pk (c := [x, y, z]) hq (by have := HN.out; omega) ((allW_len hl).trans HM.out.symm) (allW_bits hl)
  obtain ⟨f, hff⟩ : ∃ f, slW [x, y, z] a n = f := ⟨_, rfl⟩
  have HFF := hid hff
  rw [hff] at HH HF
  have PA := fun V => hid (r3_All V M (by have := HM9.out; omega))
  obtain ⟨T, hT⟩ : ∃ T, 2 ^ M = T := ⟨_, rfl⟩
  have HAL : Hid ((allW M).length = T) := by show _ = _; rw [allW_length, hT]
  have hT512 : T ≤ 512 := by rw [← hT]; exact Nat.le_trans (Nat.pow_le_pow_right (by omega) (show M ≤ 9 by have := HM9.out; omega)) (by decide)
  have HTT := hid hT; have HT5 := hid hT512
  rw [hT] at HH
  clear FG FB hq hh hf hff hT hT512
  refine (P1 _ _ R3.out (HL.out.call (bnext y1.out B3.out))).out.mono ?_; rintro e w4 ⟨⟨u, rfl, hu⟩, hb4⟩
  have y4 := hid (bnext y1.out (bnext B3.out hb4))
  have U4 := hid hu; have R4 := hid (R3.out.call hb4)
  obtain ⟨a4, k4, rfl, u1, u2, -⟩ := hu.ex
  obtain ⟨D, hD⟩ : ∃ D, BL.length = D := ⟨_, rfl⟩
  rw [hD] at U4 u1 HF ⊢
  clear hb4 hu hD
  go_wp2_with fail
  refine (PA _).out.mono ?_; rintro e w5 ⟨⟨v5, rfl, hv5⟩, hb5⟩
  have y5 := hid (bnext y4.out hb5)
  have U5 := hid (U4.out.call hb5); have R5 := hid (R4.out.call hb5)
  have V5 := hid hv5
  obtain ⟨a5, k5, rfl, s1, s2, -⟩ := hv5.openS
  rw [List.length_map, HAL.out] at V5 s1 ⊢
  clear hb5 hv5
  go_wp2_with fail
  have X4 := Blk.new w5 (madeCells #[.int .i64 0] 4) 3
  have B4 := hid ((Below.refl w5.heap.size w5).alloc (Nat.le_refl _) (.cells (madeCells #[.int .i64 0] 4) 3))
  rw [made_ints] at X4 B4 ⊢
  have X6 := hid (show Arr .i64 3 _ w5.heap.size (qC f ((allW M).take 0)) by rw [List.take_zero, qC_nil]; exact X4)
  have U6 := hid (U5.out.call B4.out); have R6 := hid (R5.out.call B4.out)
  have V6 := hid (V5.out.call B4.out)
  have y6 := hid (bnext y5.out B4.out)
  obtain ⟨w6, hw6⟩ : ∃ w6, w5.alloc (.cells (ints .i64 (List.replicate 4 0)).toArray 3) = w6 := ⟨_, rfl⟩
  obtain ⟨g, hgg⟩ : ∃ g, w5.heap.size = g := ⟨_, rfl⟩
  rw [hw6] at X6 U6 V6 R6 y6 ⊢
  rw [hgg] at X6 ⊢
  have G1 : Hid (w5.heap.size ≤ g) := by rw [← hgg]; exact Nat.le_refl _
  have W6 : Hid (Below g w5 w6) := by rw [← hgg, ← hw6]; exact (Below.refl w5.heap.size w5).alloc (Nat.le_refl _) _
  clear X4 B4 hw6 hgg
  go_loopw [19, 20, 21, 22, 23] (fun s19 s20 s21 s22 s23 wr => ∃ j : Nat, s19 = .int .i64 (j : Nat) ∧ j ≤ T ∧ Hid (Arr .i64 3 wr g (qC f ((allW M).take j))) ∧ Hid (Below g w5 wr)) (fun s19 s20 s21 s22 s23 wr => T - (intOf s19).toNat)
  case atStart => exact ⟨0, rfl, Nat.zero_le _, X6, W6⟩
  case round =>
   obtain ⟨j, rfl, hj, hX, hB⟩ := hrel
   have hB5 := hid (hB.out.mono G1.out)
   have yr := hid (bnext y5.out hB5.out)
   by_cases hlt : j < T
   ·obtain ⟨l, hl⟩ : ∃ l, (allW M)[j]? = some l := ⟨_, List.getElem?_eq_getElem (by rw [HAL.out]; exact hlt)⟩
    have hlm := List.mem_of_getElem? hl
    obtain ⟨g', o, rfl, hg', hc⟩ := V5.out.at (strs_get (show ((allW M).map tb)[j]? = some (tb l) by rw [List.getElem?_map, hl]; rfl))
    have hc2 := (hB5.out.cell (p := ⟨g', o + j, none⟩) hg').trans hc
    have HT : Hid ((allW M).take (j + 1) = (allW M).take j ++ [l]) := by show (allW M).take (j + 1) = _; rw [List.take_add_one, hl]; rfl
    have hll := allW_len hlm
    obtain ⟨q1, q2⟩ := WP.out l hlm
    have wc := hid (wdA_cases (c := [x, y, z]) (by simp) a n l)
    obtain ⟨X, hXX⟩ : ∃ X, tb l = X := ⟨_, rfl⟩
    have sX : X.size = M := by rw [← hXX, tb_size, hll]
    rw [hXX] at hc2
    have f0 : (0 : Int) ≤ (j : Int) := by omega
    have f1 : (j : Int) < (T : Int) := by omega
    have hn4 := HN.out; have hmm := HM.out
    obtain ⟨N2, hN2⟩ : ∃ N2, 2 * n = N2 := ⟨_, rfl⟩
    have g1 : n ≤ M := by omega
    have g2 : n ≤ N2 := by omega
    have g3 : N2 ≤ M := by omega
    have w2 : IntKind.i64.wrap (2 * (n : Int)) = (N2 : Int) := by rw [IntWalk.i64_in _ ⟨by omega, by omega⟩]; omega
    have HN2 := hid hN2
    have wj : IntKind.i64.wrap ((j : Int) + 1) = ((j + 1 : Nat) : Int) := by have := HT5.out; rw [IntWalk.i64_in _ ⟨by omega, by omega⟩]; omega
    have KK : Hid (∀ w', Below wr.heap.size wr w' → w'.cell? ⟨g', o + j, none⟩ = some (.string X)) := fun w' hb => ((hB5.out.trans (hb.mono hB5.out.size)).cell (p := ⟨g', o + j, none⟩) hg').trans (by rw [← hXX]; exact hc)
    have p1 : X.extract 0 n = tb (l.take n) := by
     apply ba_ext
     rw [extract_list, tb_list, ← hXX, tb_list, List.drop_zero, Nat.sub_zero]
    have p2 : X.extract n N2 = tb ((l.drop n).take n) := by
     apply ba_ext
     rw [extract_list, tb_list, ← hXX, tb_list, show N2 - n = n by omega]
    have p3 : X.extract N2 M = tb (((l.drop n).drop n).take n) := by
     apply ba_ext
     rw [extract_list, tb_list, ← hXX, tb_list, List.drop_drop, show M - N2 = n by omega, show n + n = N2 by omega]
    have HBB := hid (show (chk n 3 l).map tb = [X.extract 0 n, X.extract n N2, X.extract N2 M] by rw [p1, p2, p3]; rfl)
    have HS : Hid (∀ b ∈ (chk n 3 l).map tb, b.size ≤ 100000000) := fun b hb => by
     obtain ⟨q, hq', rfl⟩ := List.mem_map.1 hb
     rw [tb_size, (chk_bits (hll.trans HM.out.symm) (allW_bits hlm) q hq').1]
     omega
    have PD := fun V v u hv hu hV => hid (P3 V v u ((chk n 3 l).map tb) hv hu HS.out hV).out
    rw [q1, q2] at PD
    have HLL := hid hll; have HXX := hid hXX; have SX := hid sX; have HJ := hid hlt
    clear hl hlm hc hc2 hg' hll hXX hn4 hmm hlt hj hN2 p1 p2 p3 q1 q2
    go_wp2_with fail
    refine held_plain [0, 1, 2, 3, 4, 5, 6, 7, 8, 9, 10, 11, 12, 13] 2 (fun w' => w'.cell? ⟨g', o + j, none⟩ = some (.string X)) (by kernel_rfl) (by kernel_rfl) (by kernel_rfl) (by kernel_rfl) (KK.out _ (Below.refl _ _).drew) ?_
    iterate 14
     refine ⟨_, rfl, ?_⟩
     apply Exists.intro
     refine ⟨.inl ⟨by rfl, ?_⟩, ?_⟩
     ·(intro W' hW'; obtain q9 := hW'; go_simp; try (with_reducible rfl))
     (dsimp only [Act.put]; try simp only [List.setIfInBounds_toArray, List.set_cons_zero, List.set_cons_succ])
    refine held_one (i := 14) (by kernel_rfl) (by rfl) (by rfl) ?_
    go_wp2_with fail
    have d7 := hid (show Below wr.heap.size wr (wr.alloc (.cells #[.string (X.extract 0 n), .string (X.extract n N2)] 33)).drew from ((Below.refl _ _).alloc (Nat.le_refl _) _).drew)
    have k7 := hid (KK.out _ d7.out)
    have RB0 := hid (show Row (wr.alloc (.cells #[.string (X.extract 0 n), .string (X.extract n N2)] 33)).drew (.slice (some ⟨wr.heap.size, 0, none⟩) 2 2) (strs [X.extract 0 n, X.extract n N2]) from (rowB_is wr [X.extract 0 n, X.extract n N2] _ 2 wr.heap.size rfl rfl rfl (by omega)).call ((Below.refl _ _).drew))
    have OW7 := hid (show (wr.alloc (.cells #[.string (X.extract 0 n), .string (X.extract n N2)] 33)).drew.ownsRow wr.heap.size 33 1 (.slice (some ⟨wr.heap.size, 0, none⟩) 2 2) 2 [.string (X.extract 0 n), .string (X.extract n N2)] from World.ownsRow_lit (e := 33) (size := 1) (base := wr.heap.size) wr #[.string (X.extract 0 n), .string (X.extract n N2)] 2 (Nat.le_refl _) (by unfold maxLen; omega) rfl)
    refine ⟨k7.out, ?_⟩
    obtain ⟨w7, hw7⟩ : ∃ w7, (wr.alloc (.cells #[.string (X.extract 0 n), .string (X.extract n N2)] 33)).drew = w7 := ⟨_, rfl⟩
    rw [hw7] at d7 k7 RB0 OW7 ⊢
    clear hw7
    refine held_more (is := [15]) (g := 0) (by kernel_rfl) rfl k7.out (by kernel_rfl) ?_
    iterate 1
     refine ⟨_, rfl, ?_⟩
     apply Exists.intro
     refine ⟨.inl ⟨by rfl, ?_⟩, ?_⟩
     ·(intro W' hW'; obtain q9 := hW'; go_simp; try (with_reducible rfl))
     (dsimp only [Act.put]; try simp only [List.setIfInBounds_toArray, List.set_cons_zero, List.set_cons_succ])
    refine wpAnyH_done (by kernel_rfl) ?_ _
    simp only [Only]
    have c7 := k7.out
    have OW8 := hid (owns_call OW7.out ((Below.refl _ _).alloc (Nat.le_refl _) (.cells #[.string (X.extract N2 M)] 33)))
    have d8 := hid (d7.out.alloc d7.out.size (.cells #[.string (X.extract N2 M)] 33))
    go_wp2_with (at_builtin; refine wpList_append_own_at _ rfl _ _ 30 rfl wr.heap.size 33 j0 (.string ⟨#[]⟩) 1 16 Tryz.underlying30 hj hy0 hy1 hy2 rfl (by decide) _ 2 [.string (X.extract 0 n), .string (X.extract n N2)] rfl OW8.out ⟨w7.heap.size, 0, none⟩ 1 1 [.string (X.extract N2 M)] rfl rfl (news_blk (Blk.new w7 #[.string (X.extract N2 M)] 33)) (by simp [Value.oneCell']) (by unfold maxLen; omega) (by omega) (by exact d8.out.size) ?_
                 intro v8' w8 hown hgrow _ hat
                 have d9 := hid (owned_below OW8.out d8.out hgrow)
                 obtain ⟨e8, r8, rfl⟩ := owns_ex hown
                 have RB := hid (show Row w8 (.slice e8 3 r8) (strs ((chk n 3 l).map tb)) from by rw [HBB.out]; exact Row.of_owns hown)
                 clear hown hgrow hat)
    refine (PD _ _ _ ((R5.out.call hB5.out).call d9.out) RB.out (HL.out.call (bnext yr.out d9.out)).l).out.mono ?_; rintro e w9 ⟨rfl, hb9⟩
    have x9 := hid (bnext d9.out hb9)
    have X9 := hid (hX.out.call x9.out)
    have B9 := hid (hB.out.trans (x9.out.mono (by have := hX.out.lt; omega)))
    clear hb9
    obtain ⟨k0, hk0⟩ : ∃ k0, slW [x, y, z] a n l = k0 := ⟨_, rfl⟩
    have HK0 := hid hk0
    have hfl : f l = k0 := by rw [← HFF.out]; exact hk0
    obtain ⟨c0, hc0⟩ : ∃ c0, (((allW M).take j).countP fun x => decide (f x = k0)) = c0 := ⟨_, rfl⟩
    have hc1 : c0 ≤ 512 := by
     have := List.countP_le_length (p := fun x => decide (f x = k0)) (l := (allW M).take j)
     rw [List.length_take, hc0] at this
     have := HT5.out
     omega
    have h6 : Hid (qC f ((allW M).take (j + 1)) = (qC f ((allW M).take j)).set k0 (c0 + 1)) := by show _ = _; rw [HT.out, qC_snoc, hfl, hc0]
    have hget := fun (h : k0 < 4) => (qC_get f ((allW M).take j) h)
    rw [hc0] at hget
    have wk : IntKind.i64.wrap ((c0 : Int) + 1) = ((c0 + 1 : Nat) : Int) := by rw [IntWalk.i64_in _ ⟨by omega, by omega⟩]; omega
    have HC1 := hid hc1
    have HGT := hid hget
    clear hk0 hfl hc0 hc1 hget
    rcases wc.out with hw | ⟨m, hm, hw⟩
    ·rw [hw]
     have e3 : k0 = 3 := by rw [← HK0.out]; unfold slW; rw [hw]; rfl
     subst e3
     have G3 := HGT.out (by omega)
     have m1 := X9.out.cell G3
     have m2 := X9.out.free 3
     have X10 := hid (X9.out.set 3 (c0 + 1))
     have B10 := hid (below_set B9.out (g := g) (i := 3) (Nat.le_refl _) (.int .i64 ((c0 + 1 : Nat) : Int)))
     clear hw G3
     dsimp only
     go_wp2_with fail
     go_roundw
     case rel => exact ⟨j + 1, by go_num, by have := HJ.out; omega, by rw [h6.out]; exact X10, B10⟩
     case measure => simp [intOf] <;> (have := HJ.out; omega)
    ·rw [hw]
     have e3 : k0 = m := by rw [← HK0.out]; unfold slW; rw [hw]; simp
     subst e3
     have hm4 : k0 < 3 := hm
     have G3 := HGT.out (by omega)
     have m1 := X9.out.cell G3
     have m2 := X9.out.free k0
     have X10 := hid (X9.out.set k0 (c0 + 1))
     have B10 := hid (below_set B9.out (g := g) (i := k0) (Nat.le_refl _) (.int .i64 ((c0 + 1 : Nat) : Int)))
     have q5 : decide ((k0 : Int) < 0) = false := decide_eq_false (by omega)
     have q6 : decide ((3 : Int) ≤ (k0 : Int)) = false := decide_eq_false (by omega)
     have q7 : decide (3 ≤ k0) = false := decide_eq_false (by omega)
     have b3 : (0 : Int) ≤ (k0 : Int) := by omega
     have b4 : (k0 : Int) < 4 := by omega
     clear hw G3 hm hm4
     dsimp only
     go_wp2_with fail
     go_roundw
     case rel => exact ⟨j + 1, by go_num, by have := HJ.out; omega, by rw [h6.out]; exact X10, B10⟩
     case measure => simp [intOf] <;> (have := HJ.out; omega)
   ·obtain rfl : j = T := by omega
    have q1 : decide ((j : Int) < (j : Int)) = false := by simp
    have hT : (allW M).take j = allW M := List.take_of_length_le (by rw [HAL.out]; exact Nat.le_refl _)
    rw [hT] at hX
    obtain ⟨C, hC⟩ : ∃ C, qC f (allW M) = C := ⟨_, rfl⟩
    have hC4 : C.length = 4 := by rw [← hC]; exact qC_length _ _
    have hCle : Hid (∀ (k x : Nat), C[k]? = some x → x ≤ 512) := fun k x hx => by
     have hk4 : k < 4 := by have := (List.getElem?_eq_some_iff.1 hx).1; omega
     rw [← hC, qC_get f _ hk4] at hx
     injection hx with hx
     have := List.countP_le_length (p := fun y => decide (f y = k)) (l := allW M)
     rw [hx, HAL.out] at this
     have := HT5.out
     omega
    rw [hC] at hX HH HF
    have HC4 := hid hC4
    clear hlt hT hC hC4 hj
    go_wp2_with fail
    have KEY := hid (Blk.new wr #[.string ⟨#[48]⟩, .string ⟨#[49]⟩, .string ⟨#[50]⟩, .string ⟨#[108, 97, 116, 101]⟩] 9)
    have BK := hid ((Below.refl wr.heap.size wr).alloc (Nat.le_refl _) (.cells #[.string ⟨#[48]⟩, .string ⟨#[49]⟩, .string ⟨#[50]⟩, .string ⟨#[108, 97, 116, 101]⟩] 9))
    obtain ⟨gk, hgk⟩ : ∃ gk, wr.heap.size = gk := ⟨_, rfl⟩
    obtain ⟨wq, hwq⟩ : ∃ wq, wr.alloc (.cells #[.string ⟨#[48]⟩, .string ⟨#[49]⟩, .string ⟨#[50]⟩, .string ⟨#[108, 97, 116, 101]⟩] 9) = wq := ⟨_, rfl⟩
    have hgX := hX.out.lt
    have XQ := hid (hX.out.call BK.out)
    have yq := hid (bnext yr.out BK.out)
    have UQ := hid (((U5.out.call hB5.out)).call BK.out)
    rw [hwq] at KEY BK XQ yq UQ ⊢
    rw [hgk] at KEY ⊢
    clear hwq hgk hgX
    go_loopw [24, 26] (fun s24 s26 wx => ∃ i : Nat, s24 = .int .i64 (fnN C i : Nat) ∧ s26 = .int .i64 (i : Nat) ∧ i ≤ 4 ∧ Hid (Below wq.heap.size wq wx)) (fun s24 s26 wx => 4 - (intOf s26).toNat)
    case atStart => exact ⟨0, rfl, rfl, Nat.zero_le _, Below.refl _ _⟩
    case round =>
     obtain ⟨i, rfl, rfl, hi4, hBx⟩ := hrel
     by_cases hlt : i < 4
     ·obtain ⟨v, hv⟩ : ∃ v, C[i]? = some v := ⟨_, List.getElem?_eq_getElem (by rw [HC4.out]; exact hlt)⟩
      have m1 := (XQ.out.call hBx.out).cell hv
      have hst := fnN_step hv
      have hle := fnN_le C i HC4.out
      have hv5 := hCle.out i v hv
      have hhs := fun h => HH.out i v hv h
      have ky : wq.cell? ⟨gk, i, none⟩ = some (.string (kyB i)) := by
       have := KEY.out.cell i
       match i, hlt, this with
       | 0, _, h => exact h.trans (by rw [ky0]; rfl)
       | 1, _, h => exact h.trans (by rw [ky1]; rfl)
       | 2, _, h => exact h.trans (by rw [ky2]; rfl)
       | 3, _, h => exact h
      have kl : gk < wq.heap.size := cell_lt ky
      obtain ⟨F, hF⟩ : ∃ F, fnN C i = F := ⟨_, rfl⟩
      have HFi := hid hF
      rw [hF] at hst hle ⊢
      have b1 : (0 : Int) ≤ (i : Int) := by omega
      have b2 : (i : Int) < 4 := by omega
      have wi : IntKind.i64.wrap ((i : Int) + 1) = ((i + 1 : Nat) : Int) := by rw [IntWalk.i64_in _ ⟨by omega, by omega⟩]; omega
      have wf : IntKind.i64.wrap ((F : Int) + 1) = ((F + 1 : Nat) : Int) := by rw [IntWalk.i64_in _ ⟨by omega, by omega⟩]; omega
      have HI := hid hlt
      by_cases h0 : v = 0
      ·have q5 : decide ((0 : Int) < (v : Int)) = false := by simp [h0]
       have q6 : decide (0 < v) = false := by simp [h0]
       rw [if_neg (by omega)] at hst
       have h8 := hid hst
       clear hF hv hst hle hv5 hhs ky kl h0 hlt hi4
       go_wp2_with fail
       go_roundw
       case rel => exact ⟨i + 1, by rw [h8.out], by go_num, by have := HI.out; omega, hBx⟩
       case measure => simp [intOf] <;> (have := HI.out; omega)
      ·have q5 : decide ((0 : Int) < (v : Int)) = true := by simp; omega
       have q6 : decide (0 < v) = true := by simp; omega
       rw [if_pos (by omega)] at hst
       have h8 := hid hst
       have h9 := hhs (by omega)
       have PS := fun V => hid (r21_Share V v M (by omega) (by have := HM9.out; omega))
       rw [HTT.out] at PS
       obtain ⟨S0, hS0⟩ : ∃ s, shB v j = s := ⟨_, rfl⟩
       obtain ⟨KB, hKB⟩ : ∃ s, kyB i = s := ⟨_, rfl⟩
       rw [hS0] at PS h9
       rw [hKB] at h9 ky
       have PH := fun V u hu => hid (k_HasM V u BL KB S0 hu)
       rw [h9] at PH
       have K2 : Hid (∀ w', Below wr.heap.size wr w' → w'.cell? ⟨gk, i, none⟩ = some (.string KB) ∧ w'.cell? ⟨g, i, none⟩ = some (.int .i64 (v : Nat))) := fun w' hb => ⟨((hBx.out.trans (hb.mono hBx.out.size)).cell (p := ⟨gk, i, none⟩) kl).trans ky, ((XQ.out.call hBx.out).call hb).cell hv⟩
       clear hF hv hst hle hv5 hhs ky kl h0 hlt hi4 h9 hS0 hKB
       go_wp2_with fail
       refine held_plain [0, 1, 2, 3, 4, 5, 6, 7, 8, 9, 10, 11, 12] 4 (fun w' => w'.cell? ⟨gk, i, none⟩ = some (.string KB) ∧ w'.cell? ⟨g, i, none⟩ = some (.int .i64 (v : Nat))) (by kernel_rfl) (by kernel_rfl) (by kernel_rfl) (by kernel_rfl) (K2.out _ (Below.refl _ _).drew) ?_
       iterate 13
        refine ⟨_, rfl, ?_⟩
        apply Exists.intro
        refine ⟨.inl ⟨by rfl, ?_⟩, ?_⟩
        ·(intro W' hW'; obtain ⟨q8, q9⟩ := hW'; go_simp; try (with_reducible rfl))
        (dsimp only [Act.put]; try simp only [List.setIfInBounds_toArray, List.set_cons_zero, List.set_cons_succ])
       refine held_one (i := 13) (by kernel_rfl) (by rfl) (by rfl) ?_
       go_wp2_with fail
       refine (PS _).out.mono ?_; rintro e w8 ⟨rfl, hb8⟩
       have x8 := hid (show Below wr.heap.size wr w8 from (Below.refl _ _).drew.trans hb8)
       clear hb8
       go_wp2_with fail
       refine ⟨K2.out _ x8.out, ?_⟩
       refine held_more (is := [14]) (g := 2) (by kernel_rfl) rfl (K2.out _ x8.out) (by kernel_rfl) ?_
       iterate 1
        refine ⟨_, rfl, ?_⟩
        apply Exists.intro
        refine ⟨.inl ⟨by rfl, ?_⟩, ?_⟩
        ·(intro W' hW'; obtain ⟨q8, q9⟩ := hW'; go_simp; try (with_reducible rfl))
        (dsimp only [Act.put]; try simp only [List.setIfInBounds_toArray, List.set_cons_zero, List.set_cons_succ])
       refine held_one (i := 15) (by kernel_rfl) (by rfl) (by rfl) ?_
       go_wp2_with fail
       refine (PH _ _ ((UQ.out.call hBx.out).call x8.out)).out.mono ?_; rintro e w9 ⟨rfl, hb9⟩
       have x9 := hid (bnext x8.out hb9)
       clear hb9
       go_wp2_with fail
       refine ⟨K2.out _ x9.out, ?_⟩
       refine held_more (is := [16]) (g := 0) (by kernel_rfl) rfl (K2.out _ x9.out) (by kernel_rfl) ?_
       iterate 1
        refine ⟨_, rfl, ?_⟩
        apply Exists.intro
        refine ⟨.inl ⟨by rfl, ?_⟩, ?_⟩
        ·(intro W' hW'; obtain ⟨q8, q9⟩ := hW'; go_simp; try (with_reducible rfl))
        (dsimp only [Act.put]; try simp only [List.setIfInBounds_toArray, List.set_cons_zero, List.set_cons_succ])
       refine wpAnyH_done (by kernel_rfl) ?_ _
       simp only [Only]
       go_wp2_with fail
       go_roundw
       case rel => exact ⟨i + 1, by rw [h8.out]; go_num, by go_num, by have := HI.out; omega, hid (bnext hBx.out x9.out)⟩
       case measure => simp [intOf] <;> (have := HI.out; omega)
     ·obtain rfl : i = 4 := by omega
      rw [HF.out]
      clear hlt hi4
      go_wp2_with fail
      go_ret
      exact ⟨rfl, bnext yq.out hBx.out⟩
theorem w_PeakCounts (w : World) (x y z : Int) (all : Bool) (a : ByteArray) (B : Int) (ha : a.size ≤ 9223372036854775807) (hL : LayB w) :
 Calls Tryz.prog 3 #[.int .i64 x, .int .i64 y, .int .i64 z, .bool all, .string a, .int .i64 B] w fun e w' => e = .returned (.bool true) ∧ Below w.heap.size w w' := by
 have HLV := hid (w_lives25 w hL)
 by_cases c0 : 20 < a.size
 ·have t0 : decide ((20 : Int) < (a.size : Int)) = true := decide_eq_true (by omega)
  clear hL c0
  go_enter Tryz.func3, Tryz.ntmps3
  go_wp2_with fail
  refine HLV.out.mono ?_; rintro e w1 ⟨rfl, hb1⟩
  go_wp2_with fail
  go_ret
  exact ⟨rfl, hb1⟩
 have t0 : decide ((20 : Int) < (a.size : Int)) = false := decide_eq_false (by omega)
 by_cases c1 : B < 0
 ·have t1 : decide (B < 0) = true := decide_eq_true c1
  clear hL c0 c1
  go_enter Tryz.func3, Tryz.ntmps3
  go_wp2_with fail
  refine HLV.out.mono ?_; rintro e w1 ⟨rfl, hb1⟩
  go_wp2_with fail
  go_ret
  exact ⟨rfl, hb1⟩
 have t1 : decide (B < 0) = false := decide_eq_false c1
 by_cases c2 : 4 < B
 ·have t2 : decide (4 < B) = true := decide_eq_true c2
  clear hL c0 c1 c2
  go_enter Tryz.func3, Tryz.ntmps3
  go_wp2_with fail
  refine HLV.out.mono ?_; rintro e w1 ⟨rfl, hb1⟩
  go_wp2_with fail
  go_ret
  exact ⟨rfl, hb1⟩
 have t2 : decide (4 < B) = false := decide_eq_false c2
 obtain ⟨n, rfl⟩ : ∃ n : Nat, B = (n : Nat) := ⟨B.toNat, by omega⟩
 cases all
 ·exact pct_two w x y z a n (by omega) (by omega) hL
 ·by_cases c3 : 3 < n
  ·have t3 : decide ((3 : Int) < (n : Int)) = true := decide_eq_true (by omega)
   have t3' : decide (3 < n) = true := decide_eq_true c3
   have t2' : decide (4 < n) = false := decide_eq_false (by omega)
   clear hL c0 c1 c2 c3
   go_enter Tryz.func3, Tryz.ntmps3
   go_wp2_with fail
   refine HLV.out.mono ?_; rintro e w1 ⟨rfl, hb1⟩
   go_wp2_with fail
   go_ret
   exact ⟨rfl, hb1⟩
  ·exact pct_three w x y z a n (by omega) (by omega) hL
end Go.Proofs.YtckihjfkafdncaaGreatDoor
