/- Texts that the proof rests on, merged: Gs1. -/
import Derived.Test.YtccalhlhdiapiaaGreatDoorKo9
namespace Go.Proofs.YtccalhlhdiapiaaGreatDoor
open Go.RowKit Go.Shelf
open Go.Lib (decDigits nDigits)
set_option linter.unusedVariables false
set_option linter.unusedSimpArgs false
set_option maxRecDepth 100000 in
set_option maxHeartbeats 8000000 in
theorem w_GeomNames (w : World) (hL : Lay w) :
    Calls Tryz.prog 6 #[] w fun e w' => e = .returned (.bool true) ∧ Below w.heap.size w w' := by
  have HLV := hid (w_lives w hL)
  have HL := hid hL
  have Pa := fun V hLV => hid (g_One V ⟨#[49, 47, 50]⟩ ⟨#[49]⟩ (by decide) (by decide) hLV)
  rw [gs_a.1, gs_a.2] at Pa
  have Pb := fun V hLV => hid (g_One V ⟨#[49, 47, 50]⟩ ⟨#[48, 48]⟩ (by decide) (by decide) hLV)
  rw [gs_b.1, gs_b.2] at Pb
  have Pf := fun V hLV => hid (g_One V ⟨#[49]⟩ ⟨#[48]⟩ (by decide) (by decide) hLV)
  rw [gs_f.1, gs_f.2] at Pf
  have Pg := fun V hLV => hid (g_One V ⟨#[49, 47, 50]⟩ ⟨#[120]⟩ (by decide) (by decide) hLV)
  rw [gs_g.1, gs_g.2] at Pg
  have Pl := fun V hLV => hid (g_One V ⟨#[45, 49, 47, 50]⟩ ⟨#[48]⟩ (by decide) (by decide) hLV)
  rw [gs_l.1, gs_l.2] at Pl
  have Pc := fun V hLV => hid (g_Two V ⟨#[49, 47, 50]⟩ ⟨#[48, 48, 49, 49]⟩ (by decide) (by decide) hLV)
  rw [gs_c.1, gs_c.2] at Pc
  have Pd := fun V hLV => hid (g_Two V ⟨#[49, 47, 50]⟩ ⟨#[49]⟩ (by decide) (by decide) hLV)
  rw [gs_d.1, gs_d.2] at Pd
  have Pe := fun V hLV => hid (g_Two V ⟨#[48]⟩ ⟨#[]⟩ (by decide) (by decide) hLV)
  rw [gs_e.1, gs_e.2] at Pe
  have Ph := fun V hLV => hid (g_OneMass V ⟨#[49, 47, 50]⟩ 10001 (by decide) hLV)
  rw [gs_h.1, gs_h.2] at Ph
  have Pk := fun V hLV => hid (g_TwoMass V ⟨#[57, 47, 49, 48]⟩ 10000 (by decide) hLV)
  rw [gs_k.1, gs_k.2] at Pk
  have Pn0 := fun V hLV => hid (g_OneMass V ⟨#[49, 47, 51]⟩ 2 (by decide) hLV)
  rw [gs_n0.1, gs_n0.2] at Pn0
  have Pn1 := fun V hLV => hid (g_TwoMass V ⟨#[49, 47, 51]⟩ (-1) (by decide) hLV)
  rw [gs_n1.1, gs_n1.2] at Pn1
  have Pn2 := fun V hLV => hid (g_OneTail V ⟨#[49, 47, 51]⟩ 2 (by decide) hLV)
  rw [gs_n2.1, gs_n2.2] at Pn2
  have Pn3 := fun V hLV => hid (g_TwoTail V ⟨#[49, 47, 51]⟩ 1 (by decide) hLV)
  rw [gs_n3.1, gs_n3.2] at Pn3
  have Pn4 := fun V hLV => hid (g_TwoTail V ⟨#[49, 47, 51]⟩ 0 (by decide) hLV)
  rw [gs_n4.1, gs_n4.2] at Pn4
  have Pn6 := fun V hLV => hid (g_OneMass V ⟨#[48]⟩ 0 (by decide) hLV)
  rw [gs_n6.1, gs_n6.2] at Pn6
  have Pn7 := fun V hLV => hid (g_TwoMass V ⟨#[48]⟩ 10000 (by decide) hLV)
  rw [gs_n7.1, gs_n7.2] at Pn7
  have Pn8 := fun V hLV => hid (g_OneTail V ⟨#[49, 47, 50]⟩ (-10000) (by decide) hLV)
  rw [gs_n8.1, gs_n8.2] at Pn8
  have Pn5 := fun V hLV => hid (g_OneLateA V ⟨#[49, 47, 50]⟩ 3 (by decide) hLV)
  rw [gs_n5.1, gs_n5.2] at Pn5
  have Pj := fun V hLV => hid (g_OneLateA V ⟨#[49, 47, 50]⟩ 257 (by decide) hLV)
  rw [gs_j.1, gs_j.2] at Pj
  have Pi := fun V hLV => hid (g_TwoLaw V ⟨#[49, 47, 50]⟩ 33 (by decide) hLV)
  rw [gs_i.1, gs_i.2] at Pi
  have Po := fun V hLV => hid (g_OneLaw V ⟨#[49, 47, 50]⟩ 2 (by decide) hLV)
  rw [gs_o.1, gs_o.2] at Po
  have Pp := fun V hLV => hid (g_TwoLaw V ⟨#[49, 47, 50]⟩ 2 (by decide) hLV)
  rw [gs_p.1, gs_p.2] at Pp
  simp only [d3] at Pa Pb Pc Pd Pe Pf Pg Pl
  have hmk : ∀ W, (Instr.makeSlice 50 (.int .i64 9) (.int .i64 9)).run Tryz.prog W = .ok (.slice (some ⟨W.heap.size, 0, none⟩) 9 9) (W.alloc (.cells (madeCells #[.string ⟨#[]⟩] 9) 22)) := fun W => mk_nums 9 (by omega) W
  clear hL
  go_enter Tryz.func6, Tryz.ntmps6
  go_wp2_with fail
  refine HLV.out.mono ?_; rintro e w0 ⟨rfl, hb0⟩
  have y0 := hid hb0; clear hb0
  go_wp2_with fail
  refine (Pa _ (HL.out.call y0.out)).out.mono ?_; rintro e w1 ⟨rfl, hb1⟩
  have b1 := hid hb1
  clear hb1
  have Xa := hid (Blk.new w1 #[.bool true, .int .i64 0, .int .i64 1] 46)
  have B1 := hid (bnext b1.out ((Below.refl w1.heap.size w1).alloc (Nat.le_refl _) (.cells #[.bool true, .int .i64 0, .int .i64 1] 46)))
  have y1 := hid (bnext y0.out B1.out)
  go_wp2_with fail
  refine (Pb _ (HL.out.call y1.out)).out.mono ?_; rintro e w2 ⟨rfl, hb2⟩
  have b2 := hid hb2
  clear hb2
  have Xb := hid (Blk.new w2 #[.bool false, .int .i64 0, .int .i64 2] 46)
  have B2 := hid (bnext b2.out ((Below.refl w2.heap.size w2).alloc (Nat.le_refl _) (.cells #[.bool false, .int .i64 0, .int .i64 2] 46)))
  have y2 := hid (bnext y1.out B2.out)
  go_wp2_with fail
  refine (Pc _ (HL.out.call y2.out)).out.mono ?_; rintro e w3 ⟨rfl, hb3⟩
  have b3 := hid hb3
  clear hb3
  have Xc := hid (Blk.new w3 #[.bool true, .int .i64 2, .int .i64 4] 46)
  have B3 := hid (bnext b3.out ((Below.refl w3.heap.size w3).alloc (Nat.le_refl _) (.cells #[.bool true, .int .i64 2, .int .i64 4] 46)))
  have y3 := hid (bnext y2.out B3.out)
  go_wp2_with fail
  refine (Pd _ (HL.out.call y3.out)).out.mono ?_; rintro e w4 ⟨rfl, hb4⟩
  have b4 := hid hb4
  clear hb4
  have Xd := hid (Blk.new w4 #[.bool false, .int .i64 0, .int .i64 1] 46)
  have B4 := hid (bnext b4.out ((Below.refl w4.heap.size w4).alloc (Nat.le_refl _) (.cells #[.bool false, .int .i64 0, .int .i64 1] 46)))
  have y4 := hid (bnext y3.out B4.out)
  go_wp2_with fail
  refine (Pe _ (HL.out.call y4.out)).out.mono ?_; rintro e w5 ⟨rfl, hb5⟩
  have b5 := hid hb5
  clear hb5
  have Xe := hid (Blk.new w5 #[.bool true, .int .i64 0, .int .i64 0] 46)
  have B5 := hid (bnext b5.out ((Below.refl w5.heap.size w5).alloc (Nat.le_refl _) (.cells #[.bool true, .int .i64 0, .int .i64 0] 46)))
  have y5 := hid (bnext y4.out B5.out)
  go_wp2_with fail
  refine (Pf _ (HL.out.call y5.out)).out.mono ?_; rintro e w6 ⟨rfl, hb6⟩
  have b6 := hid hb6
  clear hb6
  have Xf := hid (Blk.new w6 #[.bool false, .int .i64 0, .int .i64 0] 46)
  have B6 := hid (bnext b6.out ((Below.refl w6.heap.size w6).alloc (Nat.le_refl _) (.cells #[.bool false, .int .i64 0, .int .i64 0] 46)))
  have y6 := hid (bnext y5.out B6.out)
  go_wp2_with fail
  refine (Pg _ (HL.out.call y6.out)).out.mono ?_; rintro e w7 ⟨rfl, hb7⟩
  have b7 := hid hb7
  clear hb7
  have Xg := hid (Blk.new w7 #[.bool false, .int .i64 0, .int .i64 0] 46)
  have B7 := hid (bnext b7.out ((Below.refl w7.heap.size w7).alloc (Nat.le_refl _) (.cells #[.bool false, .int .i64 0, .int .i64 0] 46)))
  have y7 := hid (bnext y6.out B7.out)
  go_wp2_with fail
  refine (Ph _ (HL.out.call y7.out)).out.mono ?_; rintro e w8 ⟨rfl, hb8⟩
  have b8 := hid hb8
  clear hb8
  have B8 := hid b8.out
  have y8 := hid (bnext y7.out B8.out)
  go_wp2_with fail
  refine (Pi _ (HL.out.call y8.out)).out.mono ?_; rintro e w9 ⟨⟨ui, rfl, hi⟩, hb9⟩
  have b9 := hid hb9
  clear hb9
  have B9 := hid b9.out
  have y9 := hid (bnext y8.out B9.out)
  obtain ⟨ai, ci, rfl, -⟩ := hi.ex; clear hi
  simp only [List.length_nil]
  go_wp2_with fail
  refine (Pj _ (HL.out.call y9.out)).out.mono ?_; rintro e w10 ⟨rfl, hb10⟩
  have b10 := hid hb10
  clear hb10
  have B10 := hid b10.out
  have y10 := hid (bnext y9.out B10.out)
  go_wp2_with fail
  refine (Pk _ (HL.out.call y10.out)).out.mono ?_; rintro e w11 ⟨rfl, hb11⟩
  have b11 := hid hb11
  clear hb11
  have B11 := hid b11.out
  have y11 := hid (bnext y10.out B11.out)
  go_wp2_with fail
  refine (Pl _ (HL.out.call y11.out)).out.mono ?_; rintro e w12 ⟨rfl, hb12⟩
  have b12 := hid hb12
  clear hb12
  have Xl := hid (Blk.new w12 #[.bool false, .int .i64 0, .int .i64 0] 46)
  have B12 := hid (bnext b12.out ((Below.refl w12.heap.size w12).alloc (Nat.le_refl _) (.cells #[.bool false, .int .i64 0, .int .i64 0] 46)))
  have y12 := hid (bnext y11.out B12.out)
  have F0 := hid (((Below.refl _ (w12.alloc (.cells #[.bool false, .int .i64 0, .int .i64 0] 46))).alloc (Nat.le_refl _) (.cells #[.string ⟨#[50, 47, 50, 55]⟩, .string ⟨#[49, 47, 54]⟩, .string ⟨#[49, 47, 57]⟩, .string ⟨#[49, 47, 52]⟩, .string ⟨#[51, 47, 52]⟩, .string ⟨#[49, 47, 56]⟩, .string ⟨#[49]⟩, .string ⟨#[48]⟩, .string ⟨#[49]⟩] 22)).alloc (by simp) (.cells (madeCells #[.string ⟨#[]⟩] 9) 22))
  have M0 : Hid (Blk (((w12.alloc (.cells #[.bool false, .int .i64 0, .int .i64 0] 46)).alloc (.cells #[.string ⟨#[50, 47, 50, 55]⟩, .string ⟨#[49, 47, 54]⟩, .string ⟨#[49, 47, 57]⟩, .string ⟨#[49, 47, 52]⟩, .string ⟨#[51, 47, 52]⟩, .string ⟨#[49, 47, 56]⟩, .string ⟨#[49]⟩, .string ⟨#[48]⟩, .string ⟨#[49]⟩] 22)).alloc (.cells (madeCells #[.string ⟨#[]⟩] 9) 22)) (w12.heap.size + 1) #[.string ⟨#[50, 47, 50, 55]⟩, .string ⟨#[49, 47, 54]⟩, .string ⟨#[49, 47, 57]⟩, .string ⟨#[49, 47, 52]⟩, .string ⟨#[51, 47, 52]⟩, .string ⟨#[49, 47, 56]⟩, .string ⟨#[49]⟩, .string ⟨#[48]⟩, .string ⟨#[49]⟩] 22) := by
    have h := (Blk.new (w12.alloc (.cells #[.bool false, .int .i64 0, .int .i64 0] 46)) #[.string ⟨#[50, 47, 50, 55]⟩, .string ⟨#[49, 47, 54]⟩, .string ⟨#[49, 47, 57]⟩, .string ⟨#[49, 47, 52]⟩, .string ⟨#[51, 47, 52]⟩, .string ⟨#[49, 47, 56]⟩, .string ⟨#[49]⟩, .string ⟨#[48]⟩, .string ⟨#[49]⟩] 22).alloc (.cells (madeCells #[.string ⟨#[]⟩] 9) 22)
    rw [show ((w12.alloc (.cells #[.bool false, .int .i64 0, .int .i64 0] 46))).heap.size = w12.heap.size + 1 by simp] at h
    exact h
  have N0 : Hid (Blk (((w12.alloc (.cells #[.bool false, .int .i64 0, .int .i64 0] 46)).alloc (.cells #[.string ⟨#[50, 47, 50, 55]⟩, .string ⟨#[49, 47, 54]⟩, .string ⟨#[49, 47, 57]⟩, .string ⟨#[49, 47, 52]⟩, .string ⟨#[51, 47, 52]⟩, .string ⟨#[49, 47, 56]⟩, .string ⟨#[49]⟩, .string ⟨#[48]⟩, .string ⟨#[49]⟩] 22)).alloc (.cells (madeCells #[.string ⟨#[]⟩] 9) 22)) (w12.heap.size + 1 + 1) #[.string ⟨#[]⟩, .string ⟨#[]⟩, .string ⟨#[]⟩, .string ⟨#[]⟩, .string ⟨#[]⟩, .string ⟨#[]⟩, .string ⟨#[]⟩, .string ⟨#[]⟩, .string ⟨#[]⟩] 22) := by
    have h := Blk.new ((w12.alloc (.cells #[.bool false, .int .i64 0, .int .i64 0] 46)).alloc (.cells #[.string ⟨#[50, 47, 50, 55]⟩, .string ⟨#[49, 47, 54]⟩, .string ⟨#[49, 47, 57]⟩, .string ⟨#[49, 47, 52]⟩, .string ⟨#[51, 47, 52]⟩, .string ⟨#[49, 47, 56]⟩, .string ⟨#[49]⟩, .string ⟨#[48]⟩, .string ⟨#[49]⟩] 22)) (madeCells #[.string ⟨#[]⟩] 9) 22
    rw [show (((w12.alloc (.cells #[.bool false, .int .i64 0, .int .i64 0] 46)).alloc (.cells #[.string ⟨#[50, 47, 50, 55]⟩, .string ⟨#[49, 47, 54]⟩, .string ⟨#[49, 47, 57]⟩, .string ⟨#[49, 47, 52]⟩, .string ⟨#[51, 47, 52]⟩, .string ⟨#[49, 47, 56]⟩, .string ⟨#[49]⟩, .string ⟨#[48]⟩, .string ⟨#[49]⟩] 22))).heap.size = w12.heap.size + 1 + 1 by simp] at h
    have e : (madeCells #[.string ⟨#[]⟩] 9 : Array Value) = #[.string ⟨#[]⟩, .string ⟨#[]⟩, .string ⟨#[]⟩, .string ⟨#[]⟩, .string ⟨#[]⟩, .string ⟨#[]⟩, .string ⟨#[]⟩, .string ⟨#[]⟩, .string ⟨#[]⟩] := by kernel_rfl
    show Blk _ _ _ _
    rw [← e]
    exact h
  have G0 : Hid (((w12.alloc (.cells #[.bool false, .int .i64 0, .int .i64 0] 46))).heap.size = w12.heap.size + 1) := by show _ = _; simp
  go_wp2_with fail
  obtain ⟨wb, hwb⟩ : ∃ W, (w12.alloc (.cells #[.bool false, .int .i64 0, .int .i64 0] 46)) = W := ⟨_, rfl⟩
  obtain ⟨v0, hv0⟩ : ∃ W, (((w12.alloc (.cells #[.bool false, .int .i64 0, .int .i64 0] 46)).alloc (.cells #[.string ⟨#[50, 47, 50, 55]⟩, .string ⟨#[49, 47, 54]⟩, .string ⟨#[49, 47, 57]⟩, .string ⟨#[49, 47, 52]⟩, .string ⟨#[51, 47, 52]⟩, .string ⟨#[49, 47, 56]⟩, .string ⟨#[49]⟩, .string ⟨#[48]⟩, .string ⟨#[49]⟩] 22)).alloc (.cells (madeCells #[.string ⟨#[]⟩] 9) 22)) = W := ⟨_, rfl⟩
  rw [hv0] at F0 M0 N0
  try rw [hv0]
  rw [hwb] at F0 G0
  obtain ⟨gm, hgm⟩ : ∃ g, w12.heap.size + 1 = g := ⟨_, rfl⟩
  rw [hgm] at M0 N0 G0
  try rw [hgm]
  have yb := hid y12.out
  rw [hwb] at yb

  have Ka := hid (((((((((((Xa.out.call B2.out).call B3.out).call B4.out).call B5.out).call B6.out).call B7.out).call B8.out).call B9.out).call B10.out).call B11.out).call B12.out)
  have Kb := hid ((((((((((Xb.out.call B3.out).call B4.out).call B5.out).call B6.out).call B7.out).call B8.out).call B9.out).call B10.out).call B11.out).call B12.out)
  have Kc := hid (((((((((Xc.out.call B4.out).call B5.out).call B6.out).call B7.out).call B8.out).call B9.out).call B10.out).call B11.out).call B12.out)
  have Kd := hid ((((((((Xd.out.call B5.out).call B6.out).call B7.out).call B8.out).call B9.out).call B10.out).call B11.out).call B12.out)
  have Ke := hid (((((((Xe.out.call B6.out).call B7.out).call B8.out).call B9.out).call B10.out).call B11.out).call B12.out)
  have Kl := hid Xl.out
  rw [hwb] at Ka Kb Kc Kd Ke Kl
  clear hwb hv0 hgm
  refine (Pn0 _ (HL.out.call (bnext yb.out F0.out))).out.mono ?_; rintro e u0 ⟨rfl, hb⟩
  have Q0 := hid (bnext F0.out hb); have R0 := hid (N0.out.call hb); have S0 := hid (M0.out.call hb)
  clear hb
  have t0 := R0.out.cell 0
  have f0 := R0.out.free 0
  simp at t0
  have N1 : Hid (Blk (u0.setCell ⟨gm + 1, 0, none⟩ (.string ⟨#[50, 47, 50, 55]⟩)) (gm + 1) #[.string ⟨#[50, 47, 50, 55]⟩, .string ⟨#[]⟩, .string ⟨#[]⟩, .string ⟨#[]⟩, .string ⟨#[]⟩, .string ⟨#[]⟩, .string ⟨#[]⟩, .string ⟨#[]⟩, .string ⟨#[]⟩] 22) := R0.out.set 0 (.string ⟨#[50, 47, 50, 55]⟩)
  have M1 := hid (S0.out.other (a := ⟨gm + 1, 0, none⟩) (by simp) (.string ⟨#[50, 47, 50, 55]⟩))
  have F1 := hid (Q0.out.setCell (p := ⟨gm + 1, 0, none⟩) (by have := G0.out; simp; omega) (.string ⟨#[50, 47, 50, 55]⟩))
  go_wp2_with fail
  obtain ⟨v1, hv1⟩ : ∃ W, u0.setCell ⟨gm + 1, 0, none⟩ (.string ⟨#[50, 47, 50, 55]⟩) = W := ⟨_, rfl⟩
  rw [hv1] at F1 M1 N1
  try rw [hv1]
  clear hv1 t0 f0
  refine (Pn1 _ (HL.out.call (bnext yb.out F1.out))).out.mono ?_; rintro e u1 ⟨rfl, hb⟩
  have Q1 := hid (bnext F1.out hb); have R1 := hid (N1.out.call hb); have S1 := hid (M1.out.call hb)
  clear hb
  have t1 := R1.out.cell 1
  have f1 := R1.out.free 1
  simp at t1
  have N2 : Hid (Blk (u1.setCell ⟨gm + 1, 1, none⟩ (.string ⟨#[49, 47, 54]⟩)) (gm + 1) #[.string ⟨#[50, 47, 50, 55]⟩, .string ⟨#[49, 47, 54]⟩, .string ⟨#[]⟩, .string ⟨#[]⟩, .string ⟨#[]⟩, .string ⟨#[]⟩, .string ⟨#[]⟩, .string ⟨#[]⟩, .string ⟨#[]⟩] 22) := R1.out.set 1 (.string ⟨#[49, 47, 54]⟩)
  have M2 := hid (S1.out.other (a := ⟨gm + 1, 1, none⟩) (by simp) (.string ⟨#[49, 47, 54]⟩))
  have F2 := hid (Q1.out.setCell (p := ⟨gm + 1, 1, none⟩) (by have := G0.out; simp; omega) (.string ⟨#[49, 47, 54]⟩))
  go_wp2_with fail
  obtain ⟨v2, hv2⟩ : ∃ W, u1.setCell ⟨gm + 1, 1, none⟩ (.string ⟨#[49, 47, 54]⟩) = W := ⟨_, rfl⟩
  rw [hv2] at F2 M2 N2
  try rw [hv2]
  clear hv2 t1 f1
  refine (Pn2 _ (HL.out.call (bnext yb.out F2.out))).out.mono ?_; rintro e u2 ⟨rfl, hb⟩
  have Q2 := hid (bnext F2.out hb); have R2 := hid (N2.out.call hb); have S2 := hid (M2.out.call hb)
  clear hb
  have t2 := R2.out.cell 2
  have f2 := R2.out.free 2
  simp at t2
  have N3 : Hid (Blk (u2.setCell ⟨gm + 1, 2, none⟩ (.string ⟨#[49, 47, 57]⟩)) (gm + 1) #[.string ⟨#[50, 47, 50, 55]⟩, .string ⟨#[49, 47, 54]⟩, .string ⟨#[49, 47, 57]⟩, .string ⟨#[]⟩, .string ⟨#[]⟩, .string ⟨#[]⟩, .string ⟨#[]⟩, .string ⟨#[]⟩, .string ⟨#[]⟩] 22) := R2.out.set 2 (.string ⟨#[49, 47, 57]⟩)
  have M3 := hid (S2.out.other (a := ⟨gm + 1, 2, none⟩) (by simp) (.string ⟨#[49, 47, 57]⟩))
  have F3 := hid (Q2.out.setCell (p := ⟨gm + 1, 2, none⟩) (by have := G0.out; simp; omega) (.string ⟨#[49, 47, 57]⟩))
  go_wp2_with fail
  obtain ⟨v3, hv3⟩ : ∃ W, u2.setCell ⟨gm + 1, 2, none⟩ (.string ⟨#[49, 47, 57]⟩) = W := ⟨_, rfl⟩
  rw [hv3] at F3 M3 N3
  try rw [hv3]
  clear hv3 t2 f2
  refine (Pn3 _ (HL.out.call (bnext yb.out F3.out))).out.mono ?_; rintro e u3 ⟨rfl, hb⟩
  have Q3 := hid (bnext F3.out hb); have R3 := hid (N3.out.call hb); have S3 := hid (M3.out.call hb)
  clear hb
  have t3 := R3.out.cell 3
  have f3 := R3.out.free 3
  simp at t3
  have N4 : Hid (Blk (u3.setCell ⟨gm + 1, 3, none⟩ (.string ⟨#[49, 47, 52]⟩)) (gm + 1) #[.string ⟨#[50, 47, 50, 55]⟩, .string ⟨#[49, 47, 54]⟩, .string ⟨#[49, 47, 57]⟩, .string ⟨#[49, 47, 52]⟩, .string ⟨#[]⟩, .string ⟨#[]⟩, .string ⟨#[]⟩, .string ⟨#[]⟩, .string ⟨#[]⟩] 22) := R3.out.set 3 (.string ⟨#[49, 47, 52]⟩)
  have M4 := hid (S3.out.other (a := ⟨gm + 1, 3, none⟩) (by simp) (.string ⟨#[49, 47, 52]⟩))
  have F4 := hid (Q3.out.setCell (p := ⟨gm + 1, 3, none⟩) (by have := G0.out; simp; omega) (.string ⟨#[49, 47, 52]⟩))
  go_wp2_with fail
  obtain ⟨v4, hv4⟩ : ∃ W, u3.setCell ⟨gm + 1, 3, none⟩ (.string ⟨#[49, 47, 52]⟩) = W := ⟨_, rfl⟩
  rw [hv4] at F4 M4 N4
  try rw [hv4]
  clear hv4 t3 f3
  refine (Pn4 _ (HL.out.call (bnext yb.out F4.out))).out.mono ?_; rintro e u4 ⟨rfl, hb⟩
  have Q4 := hid (bnext F4.out hb); have R4 := hid (N4.out.call hb); have S4 := hid (M4.out.call hb)
  clear hb
  have t4 := R4.out.cell 4
  have f4 := R4.out.free 4
  simp at t4
  have N5 : Hid (Blk (u4.setCell ⟨gm + 1, 4, none⟩ (.string ⟨#[51, 47, 52]⟩)) (gm + 1) #[.string ⟨#[50, 47, 50, 55]⟩, .string ⟨#[49, 47, 54]⟩, .string ⟨#[49, 47, 57]⟩, .string ⟨#[49, 47, 52]⟩, .string ⟨#[51, 47, 52]⟩, .string ⟨#[]⟩, .string ⟨#[]⟩, .string ⟨#[]⟩, .string ⟨#[]⟩] 22) := R4.out.set 4 (.string ⟨#[51, 47, 52]⟩)
  have M5 := hid (S4.out.other (a := ⟨gm + 1, 4, none⟩) (by simp) (.string ⟨#[51, 47, 52]⟩))
  have F5 := hid (Q4.out.setCell (p := ⟨gm + 1, 4, none⟩) (by have := G0.out; simp; omega) (.string ⟨#[51, 47, 52]⟩))
  go_wp2_with fail
  obtain ⟨v5, hv5⟩ : ∃ W, u4.setCell ⟨gm + 1, 4, none⟩ (.string ⟨#[51, 47, 52]⟩) = W := ⟨_, rfl⟩
  rw [hv5] at F5 M5 N5
  try rw [hv5]
  clear hv5 t4 f4
  refine (Pn5 _ (HL.out.call (bnext yb.out F5.out))).out.mono ?_; rintro e u5 ⟨rfl, hb⟩
  have Q5 := hid (bnext F5.out hb); have R5 := hid (N5.out.call hb); have S5 := hid (M5.out.call hb)
  clear hb
  have t5 := R5.out.cell 5
  have f5 := R5.out.free 5
  simp at t5
  have N6 : Hid (Blk (u5.setCell ⟨gm + 1, 5, none⟩ (.string ⟨#[49, 47, 56]⟩)) (gm + 1) #[.string ⟨#[50, 47, 50, 55]⟩, .string ⟨#[49, 47, 54]⟩, .string ⟨#[49, 47, 57]⟩, .string ⟨#[49, 47, 52]⟩, .string ⟨#[51, 47, 52]⟩, .string ⟨#[49, 47, 56]⟩, .string ⟨#[]⟩, .string ⟨#[]⟩, .string ⟨#[]⟩] 22) := R5.out.set 5 (.string ⟨#[49, 47, 56]⟩)
  have M6 := hid (S5.out.other (a := ⟨gm + 1, 5, none⟩) (by simp) (.string ⟨#[49, 47, 56]⟩))
  have F6 := hid (Q5.out.setCell (p := ⟨gm + 1, 5, none⟩) (by have := G0.out; simp; omega) (.string ⟨#[49, 47, 56]⟩))
  go_wp2_with fail
  obtain ⟨v6, hv6⟩ : ∃ W, u5.setCell ⟨gm + 1, 5, none⟩ (.string ⟨#[49, 47, 56]⟩) = W := ⟨_, rfl⟩
  rw [hv6] at F6 M6 N6
  try rw [hv6]
  clear hv6 t5 f5
  refine (Pn6 _ (HL.out.call (bnext yb.out F6.out))).out.mono ?_; rintro e u6 ⟨rfl, hb⟩
  have Q6 := hid (bnext F6.out hb); have R6 := hid (N6.out.call hb); have S6 := hid (M6.out.call hb)
  clear hb
  have t6 := R6.out.cell 6
  have f6 := R6.out.free 6
  simp at t6
  have N7 : Hid (Blk (u6.setCell ⟨gm + 1, 6, none⟩ (.string ⟨#[49]⟩)) (gm + 1) #[.string ⟨#[50, 47, 50, 55]⟩, .string ⟨#[49, 47, 54]⟩, .string ⟨#[49, 47, 57]⟩, .string ⟨#[49, 47, 52]⟩, .string ⟨#[51, 47, 52]⟩, .string ⟨#[49, 47, 56]⟩, .string ⟨#[49]⟩, .string ⟨#[]⟩, .string ⟨#[]⟩] 22) := R6.out.set 6 (.string ⟨#[49]⟩)
  have M7 := hid (S6.out.other (a := ⟨gm + 1, 6, none⟩) (by simp) (.string ⟨#[49]⟩))
  have F7 := hid (Q6.out.setCell (p := ⟨gm + 1, 6, none⟩) (by have := G0.out; simp; omega) (.string ⟨#[49]⟩))
  go_wp2_with fail
  obtain ⟨v7, hv7⟩ : ∃ W, u6.setCell ⟨gm + 1, 6, none⟩ (.string ⟨#[49]⟩) = W := ⟨_, rfl⟩
  rw [hv7] at F7 M7 N7
  try rw [hv7]
  clear hv7 t6 f6
  refine (Pn7 _ (HL.out.call (bnext yb.out F7.out))).out.mono ?_; rintro e u7 ⟨rfl, hb⟩
  have Q7 := hid (bnext F7.out hb); have R7 := hid (N7.out.call hb); have S7 := hid (M7.out.call hb)
  clear hb
  have t7 := R7.out.cell 7
  have f7 := R7.out.free 7
  simp at t7
  have N8 : Hid (Blk (u7.setCell ⟨gm + 1, 7, none⟩ (.string ⟨#[48]⟩)) (gm + 1) #[.string ⟨#[50, 47, 50, 55]⟩, .string ⟨#[49, 47, 54]⟩, .string ⟨#[49, 47, 57]⟩, .string ⟨#[49, 47, 52]⟩, .string ⟨#[51, 47, 52]⟩, .string ⟨#[49, 47, 56]⟩, .string ⟨#[49]⟩, .string ⟨#[48]⟩, .string ⟨#[]⟩] 22) := R7.out.set 7 (.string ⟨#[48]⟩)
  have M8 := hid (S7.out.other (a := ⟨gm + 1, 7, none⟩) (by simp) (.string ⟨#[48]⟩))
  have F8 := hid (Q7.out.setCell (p := ⟨gm + 1, 7, none⟩) (by have := G0.out; simp; omega) (.string ⟨#[48]⟩))
  go_wp2_with fail
  obtain ⟨v8, hv8⟩ : ∃ W, u7.setCell ⟨gm + 1, 7, none⟩ (.string ⟨#[48]⟩) = W := ⟨_, rfl⟩
  rw [hv8] at F8 M8 N8
  try rw [hv8]
  clear hv8 t7 f7
  refine (Pn8 _ (HL.out.call (bnext yb.out F8.out))).out.mono ?_; rintro e u8 ⟨rfl, hb⟩
  have Q8 := hid (bnext F8.out hb); have R8 := hid (N8.out.call hb); have S8 := hid (M8.out.call hb)
  clear hb
  have t8 := R8.out.cell 8
  have f8 := R8.out.free 8
  simp at t8
  have N9 : Hid (Blk (u8.setCell ⟨gm + 1, 8, none⟩ (.string ⟨#[49]⟩)) (gm + 1) #[.string ⟨#[50, 47, 50, 55]⟩, .string ⟨#[49, 47, 54]⟩, .string ⟨#[49, 47, 57]⟩, .string ⟨#[49, 47, 52]⟩, .string ⟨#[51, 47, 52]⟩, .string ⟨#[49, 47, 56]⟩, .string ⟨#[49]⟩, .string ⟨#[48]⟩, .string ⟨#[49]⟩] 22) := R8.out.set 8 (.string ⟨#[49]⟩)
  have M9 := hid (S8.out.other (a := ⟨gm + 1, 8, none⟩) (by simp) (.string ⟨#[49]⟩))
  have F9 := hid (Q8.out.setCell (p := ⟨gm + 1, 8, none⟩) (by have := G0.out; simp; omega) (.string ⟨#[49]⟩))
  go_wp2_with fail
  obtain ⟨w50, hv9⟩ : ∃ W, u8.setCell ⟨gm + 1, 8, none⟩ (.string ⟨#[49]⟩) = W := ⟨_, rfl⟩
  rw [hv9] at F9 M9 N9
  try rw [hv9]
  clear hv9 t8 f8
  have y50 := hid (bnext yb.out F9.out)
  go_wp2_with fail
  refine (Po _ (HL.out.call y50.out)).out.mono ?_; rintro e w51 ⟨⟨uo, rfl, ho⟩, hb51⟩
  have b51 := hid hb51
  clear hb51
  have B51 := hid b51.out
  have y51 := hid (bnext y50.out B51.out)
  have Xo := hid ho; obtain ⟨ao, co, rfl, -⟩ := ho.ex; clear ho
  simp only [List.length_cons, List.length_nil] at Xo ⊢
  go_wp2_with fail
  refine (Pp _ (HL.out.call y51.out)).out.mono ?_; rintro e w52 ⟨⟨up, rfl, hp⟩, hb52⟩
  have b52 := hid hb52
  clear hb52
  have B52 := hid b52.out
  have y52 := hid (bnext y51.out B52.out)
  have Xp := hid hp; obtain ⟨ap, cp, rfl, -⟩ := hp.ex; clear hp
  simp only [List.length_cons, List.length_nil] at Xp ⊢
  have RM := hid (Row.of_blk (xs := strs [⟨#[50, 47, 50, 55]⟩, ⟨#[49, 47, 54]⟩, ⟨#[49, 47, 57]⟩, ⟨#[49, 47, 52]⟩, ⟨#[51, 47, 52]⟩, ⟨#[49, 47, 56]⟩, ⟨#[49]⟩, ⟨#[48]⟩, ⟨#[49]⟩]) ((M9.out.call B51.out).call B52.out) (n := 9) (c := 9) rfl (by unfold maxLen; omega) (fun i x h => by rw [← h, ← List.getElem?_toArray]; rfl) (Nat.le_refl _) (by unfold maxLen; omega))
  have RN := hid (Row.of_blk (xs := strs [⟨#[50, 47, 50, 55]⟩, ⟨#[49, 47, 54]⟩, ⟨#[49, 47, 57]⟩, ⟨#[49, 47, 52]⟩, ⟨#[51, 47, 52]⟩, ⟨#[49, 47, 56]⟩, ⟨#[49]⟩, ⟨#[48]⟩, ⟨#[49]⟩]) ((N9.out.call B51.out).call B52.out) (n := 9) (c := 9) rfl (by unfold maxLen; omega) (fun i x h => by rw [← h, ← List.getElem?_toArray]; rfl) (Nat.le_refl _) (by unfold maxLen; omega))
  have SS := hid (k_SameS w52 _ _ [⟨#[50, 47, 50, 55]⟩, ⟨#[49, 47, 54]⟩, ⟨#[49, 47, 57]⟩, ⟨#[49, 47, 52]⟩, ⟨#[51, 47, 52]⟩, ⟨#[49, 47, 56]⟩, ⟨#[49]⟩, ⟨#[48]⟩, ⟨#[49]⟩] [⟨#[50, 47, 50, 55]⟩, ⟨#[49, 47, 54]⟩, ⟨#[49, 47, 57]⟩, ⟨#[49, 47, 52]⟩, ⟨#[51, 47, 52]⟩, ⟨#[49, 47, 56]⟩, ⟨#[49]⟩, ⟨#[48]⟩, ⟨#[49]⟩] RM.out RN.out)
  rw [decide_eq_true rfl] at SS
  go_wp2_with fail
  refine SS.out.mono ?_; rintro e w53 ⟨rfl, hb53⟩
  have B53 := hid hb53; have y53 := hid (bnext y52.out hb53)
  clear hb53
  have Za := hid ((((Ka.out.call F9.out).call B51.out).call B52.out).call B53.out)
  have ra0 := Za.out.cell 0
  have ra1 := Za.out.cell 1
  have ra2 := Za.out.cell 2
  simp at ra0 ra1 ra2
  have Zb := hid ((((Kb.out.call F9.out).call B51.out).call B52.out).call B53.out)
  have rb0 := Zb.out.cell 0
  have rb1 := Zb.out.cell 1
  have rb2 := Zb.out.cell 2
  simp at rb0 rb1 rb2
  have Zc := hid ((((Kc.out.call F9.out).call B51.out).call B52.out).call B53.out)
  have rc0 := Zc.out.cell 0
  have rc1 := Zc.out.cell 1
  have rc2 := Zc.out.cell 2
  simp at rc0 rc1 rc2
  have Zd := hid ((((Kd.out.call F9.out).call B51.out).call B52.out).call B53.out)
  have rd0 := Zd.out.cell 0
  have rd1 := Zd.out.cell 1
  have rd2 := Zd.out.cell 2
  simp at rd0 rd1 rd2
  have Ze := hid ((((Ke.out.call F9.out).call B51.out).call B52.out).call B53.out)
  have re0 := Ze.out.cell 0
  have re1 := Ze.out.cell 1
  have re2 := Ze.out.cell 2
  simp at re0 re1 re2
  have A54 := hid ((Below.refl _ w53).alloc (Nat.le_refl _) (.cells #[.string ⟨#[48]⟩, .string ⟨#[49, 47, 50]⟩, .string ⟨#[49]⟩, .string ⟨#[49, 47, 52]⟩, .string ⟨#[108, 97, 116, 101]⟩, .string ⟨#[49, 47, 52]⟩] 33))
  have M54 : Hid (MRow (w53.alloc (.cells #[.string ⟨#[48]⟩, .string ⟨#[49, 47, 50]⟩, .string ⟨#[49]⟩, .string ⟨#[49, 47, 52]⟩, .string ⟨#[108, 97, 116, 101]⟩, .string ⟨#[49, 47, 52]⟩] 33)) (.slice (some ⟨w53.heap.size, 0, none⟩) 3 3) [(⟨#[48]⟩, ⟨#[49, 47, 50]⟩), (⟨#[49]⟩, ⟨#[49, 47, 52]⟩), (⟨#[108, 97, 116, 101]⟩, ⟨#[49, 47, 52]⟩)]) := by
    exact mrow_lit w53 [(⟨#[48]⟩, ⟨#[49, 47, 50]⟩), (⟨#[49]⟩, ⟨#[49, 47, 52]⟩), (⟨#[108, 97, 116, 101]⟩, ⟨#[49, 47, 52]⟩)] 3 rfl (by decide)
  have S54 := hid (k_SameM (w53.alloc (.cells #[.string ⟨#[48]⟩, .string ⟨#[49, 47, 50]⟩, .string ⟨#[49]⟩, .string ⟨#[49, 47, 52]⟩, .string ⟨#[108, 97, 116, 101]⟩, .string ⟨#[49, 47, 52]⟩] 33)) _ _ [(⟨#[48]⟩, ⟨#[49, 47, 50]⟩), (⟨#[49]⟩, ⟨#[49, 47, 52]⟩), (⟨#[108, 97, 116, 101]⟩, ⟨#[49, 47, 52]⟩)] [(⟨#[48]⟩, ⟨#[49, 47, 50]⟩), (⟨#[49]⟩, ⟨#[49, 47, 52]⟩), (⟨#[108, 97, 116, 101]⟩, ⟨#[49, 47, 52]⟩)] (((Xo.out.call B52.out).call B53.out).call A54.out) M54.out)
  rw [decide_eq_true rfl] at S54
  go_wp2_with fail
  refine S54.out.mono ?_; rintro e w54 ⟨rfl, hb54⟩
  have B54 := hid (bnext A54.out hb54)
  clear hb54
  have y54 := hid (bnext y53.out B54.out)
  have A55 := hid ((Below.refl _ w54).alloc (Nat.le_refl _) (.cells #[.string ⟨#[48]⟩, .string ⟨#[49, 47, 52]⟩, .string ⟨#[108, 97, 116, 101]⟩, .string ⟨#[51, 47, 52]⟩] 33))
  have M55 : Hid (MRow (w54.alloc (.cells #[.string ⟨#[48]⟩, .string ⟨#[49, 47, 52]⟩, .string ⟨#[108, 97, 116, 101]⟩, .string ⟨#[51, 47, 52]⟩] 33)) (.slice (some ⟨w54.heap.size, 0, none⟩) 2 2) [(⟨#[48]⟩, ⟨#[49, 47, 52]⟩), (⟨#[108, 97, 116, 101]⟩, ⟨#[51, 47, 52]⟩)]) := by
    exact mrow_lit w54 [(⟨#[48]⟩, ⟨#[49, 47, 52]⟩), (⟨#[108, 97, 116, 101]⟩, ⟨#[51, 47, 52]⟩)] 2 rfl (by decide)
  have S55 := hid (k_SameM (w54.alloc (.cells #[.string ⟨#[48]⟩, .string ⟨#[49, 47, 52]⟩, .string ⟨#[108, 97, 116, 101]⟩, .string ⟨#[51, 47, 52]⟩] 33)) _ _ [(⟨#[48]⟩, ⟨#[49, 47, 52]⟩), (⟨#[108, 97, 116, 101]⟩, ⟨#[51, 47, 52]⟩)] [(⟨#[48]⟩, ⟨#[49, 47, 52]⟩), (⟨#[108, 97, 116, 101]⟩, ⟨#[51, 47, 52]⟩)] (((Xp.out.call B53.out).call B54.out).call A55.out) M55.out)
  rw [decide_eq_true rfl] at S55
  go_wp2_with fail
  refine S55.out.mono ?_; rintro e w55 ⟨rfl, hb55⟩
  have B55 := hid (bnext A55.out hb55)
  clear hb55
  have y55 := hid (bnext y54.out B55.out)
  go_wp2_with fail
  go_ret
  exact ⟨rfl, y55.out⟩
end Go.Proofs.YtccalhlhdiapiaaGreatDoor
