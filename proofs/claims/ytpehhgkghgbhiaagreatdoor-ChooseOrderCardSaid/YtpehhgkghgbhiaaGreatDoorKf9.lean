/- Walks: the reference's Check, Short. -/
import Derived.Test.YtpehhgkghgbhiaaGreatDoorKf8
namespace Go.Proofs.YtpehhgkghgbhiaaGreatDoor
open Go.RowKit
open Go.Lib (decDigits nDigits)
set_option linter.unusedVariables false
set_option linter.unusedSimpArgs false

set_option maxRecDepth 100000 in
set_option maxHeartbeats 1000000 in
theorem r2_Check (w : World) (s : ByteArray) (hs : s.size ≤ 1000000) : Calls Tryz.prog 110 #[.string s] w fun e w' => e = .returned (.int .i64 (qE s)) ∧ Below w.heap.size w w' := by
  have R1 := fun V => hid (r2_Read V s hs)
  clear hs
  go_enter Tryz.func110, Tryz.ntmps110
  go_wp2_with fail
  refine (R1 _).out.mono ?_; rintro e w1 ⟨hr1, hb1⟩
  obtain ⟨m, a, n, c, a', n', c', rfl, h1, h2⟩ := hr1.open
  obtain ⟨x, hx⟩ : ∃ x, qE s = x := ⟨_, rfl⟩
  have HX := hid hx
  rw [hx]
  have y2 := hid (hb1.alloc hb1.size (.cells #[.bool m, .slice a n c, .slice a' n' c'] 66))
  clear h1 h2 hr1 hb1 hx R1
  go_wp2_with fail
  go_ret
  exact ⟨by rw [HX.out]; rfl, y2.out⟩

theorem IsQ.parts {k : IntKind} {w : World} {m : Bool} {N D : Value} {q : Rat} (h : IsQ k w (.agg #[.bool m, N, D]) q) : IsN k w N q.num.natAbs ∧ IsN k w D q.den := by
  obtain ⟨N', D', e, h1, h2⟩ := h.ex
  simp at e
  obtain ⟨-, rfl, rfl⟩ := e
  exact ⟨h1, h2⟩
theorem IsQ.sign {k : IntKind} {w : World} {m : Bool} {N D : Value} {q : Rat} (h : IsQ k w (.agg #[.bool m, N, D]) q) : m = decide (q.num < 0) := by
  obtain ⟨N', D', e, h1, h2⟩ := h.ex
  simp at e
  simpa using e.1

/-- The error of long parts. -/
def shE (n d : Nat) : Int := if 1000 < nDigits n ∨ 1000 < nDigits d then 5 else 0

set_option maxRecDepth 100000 in
set_option maxHeartbeats 1000000 in
theorem r4_Short (w : World) (s : ByteArray) (hs : s.size ≤ 1000000) (hq : qE s = 0) : Calls Tryz.prog 111 #[.string s] w fun e w' => e = .returned (.int .i64 (shE (vQ s).num.natAbs (vQ s).den)) ∧ Below w.heap.size w w' := by
  have R1 := fun V => hid (r2_Read V s hs)
  have dl := hid ((dig_of_fits (vQ_fits hq)).limbs (L := 1000000) (by omega) (by omega))
  obtain ⟨n, hn⟩ : ∃ n, (vQ s).num.natAbs = n := ⟨_, rfl⟩
  obtain ⟨d, hd⟩ : ∃ d, (vQ s).den = d := ⟨_, rfl⟩
  have HQ := hid hq
  rw [hn, hd] at dl
  rw [hn, hd]
  have HN := hid hn; have HD := hid hd
  have sz := hid (numB_size n); have sz2 := hid (numB_size d)
  clear hs hn hd
  obtain ⟨B1, hB1⟩ : ∃ B, numB n = B := ⟨_, rfl⟩
  obtain ⟨B2, hB2⟩ : ∃ B, numB d = B := ⟨_, rfl⟩
  rw [hB1] at sz
  rw [hB2] at sz2
  have E1 := hid hB1; have E2 := hid hB2
  clear hB1 hB2 hq
  have key : (1000 < B1.size ∧ shE n d = 5) ∨ (¬ 1000 < B1.size ∧ 1000 < B2.size ∧ shE n d = 5) ∨ (¬ 1000 < B1.size ∧ ¬ 1000 < B2.size ∧ shE n d = 0) := by
    rw [sz.out, sz2.out]
    unfold shE
    by_cases h1 : 1000 < nDigits n
    · exact .inl ⟨h1, if_pos (.inl h1)⟩
    · by_cases h2 : 1000 < nDigits d
      · exact .inr (.inl ⟨h1, h2, if_pos (.inr h2)⟩)
      · exact .inr (.inr ⟨h1, h2, if_neg (fun h => h.elim h1 h2)⟩)
  rcases key with ⟨k1, k2⟩ | ⟨k1, k2, k3⟩ | ⟨k1, k2, k3⟩
  · have q0 : decide ((1000 : Int) < (B1.size : Int)) = true := by simp; omega
    rw [k2]
    clear k1 k2
    go_enter Tryz.func111, Tryz.ntmps111
    go_wp2_with fail
    refine (R1 _).out.mono ?_; rintro e w1 ⟨hr1, hb1⟩
    obtain ⟨m, a, k, c, a', k', c', rfl, h1, h2⟩ := hr1.open
    have q := h1 HQ.out
    rw [HQ.out]
    obtain ⟨hN, hD⟩ := q.parts
    rw [HN.out] at hN
    rw [HD.out] at hD
    have b2 := hid ((Below.refl w1.heap.size w1).alloc (Nat.le_refl _) (.cells #[.bool m, .slice a k c, .slice a' k' c'] 66))
    have X2 := hid (Blk.new w1 #[.bool m, .slice a k c, .slice a' k' c'] 66)
    have N2 := hid (hN.call b2.out); have D2 := hid (hD.call b2.out)
    have y2 := hid (bnext hb1 b2.out)
    have g1 := X2.out.cell 1
    have g2 := X2.out.cell 2
    simp at g1 g2
    clear h1 h2 hr1 hb1 q hN hD b2
    clear g2 R1
    go_wp2_with fail
    refine (r1_Write _ _ _ N2.out dl.out.1).mono ?_; rintro e w3 ⟨rfl, hb3⟩
    rw [numV_eq, E1.out]
    have y3 := hid (bnext y2.out hb3)
    clear hb3
    go_wp2_with fail
    go_ret
    exact ⟨rfl, y3.out⟩
  · have q0 : decide ((1000 : Int) < (B1.size : Int)) = false := by simp; omega
    have q1 : decide ((1000 : Int) < (B2.size : Int)) = true := by simp; omega
    rw [k3]
    clear k1 k2 k3
    go_enter Tryz.func111, Tryz.ntmps111
    go_wp2_with fail
    refine (R1 _).out.mono ?_; rintro e w1 ⟨hr1, hb1⟩
    obtain ⟨m, a, k, c, a', k', c', rfl, h1, h2⟩ := hr1.open
    have q := h1 HQ.out
    rw [HQ.out]
    obtain ⟨hN, hD⟩ := q.parts
    rw [HN.out] at hN
    rw [HD.out] at hD
    have b2 := hid ((Below.refl w1.heap.size w1).alloc (Nat.le_refl _) (.cells #[.bool m, .slice a k c, .slice a' k' c'] 66))
    have X2 := hid (Blk.new w1 #[.bool m, .slice a k c, .slice a' k' c'] 66)
    have N2 := hid (hN.call b2.out); have D2 := hid (hD.call b2.out)
    have y2 := hid (bnext hb1 b2.out)
    have g1 := X2.out.cell 1
    have g2 := X2.out.cell 2
    simp at g1 g2
    clear h1 h2 hr1 hb1 q hN hD b2
    clear R1
    go_wp2_with fail
    refine (r1_Write _ _ _ N2.out dl.out.1).mono ?_; rintro e w3 ⟨rfl, hb3⟩
    rw [numV_eq, E1.out]
    have y3 := hid (bnext y2.out hb3)
    have D3 := hid (D2.out.call hb3)
    have g3 := (X2.out.call hb3).cell 2
    simp at g3
    clear hb3 g1 g2
    go_wp2_with fail
    refine (r1_Write _ _ _ D3.out dl.out.2).mono ?_; rintro e w4 ⟨rfl, hb4⟩
    rw [numV_eq, E2.out]
    have y4 := hid (bnext y3.out hb4)
    clear hb4
    go_wp2_with fail
    go_ret
    exact ⟨rfl, y4.out⟩
  · have q0 : decide ((1000 : Int) < (B1.size : Int)) = false := by simp; omega
    have q1 : decide ((1000 : Int) < (B2.size : Int)) = false := by simp; omega
    rw [k3]
    clear k1 k2 k3
    go_enter Tryz.func111, Tryz.ntmps111
    go_wp2_with fail
    refine (R1 _).out.mono ?_; rintro e w1 ⟨hr1, hb1⟩
    obtain ⟨m, a, k, c, a', k', c', rfl, h1, h2⟩ := hr1.open
    have q := h1 HQ.out
    rw [HQ.out]
    obtain ⟨hN, hD⟩ := q.parts
    rw [HN.out] at hN
    rw [HD.out] at hD
    have b2 := hid ((Below.refl w1.heap.size w1).alloc (Nat.le_refl _) (.cells #[.bool m, .slice a k c, .slice a' k' c'] 66))
    have X2 := hid (Blk.new w1 #[.bool m, .slice a k c, .slice a' k' c'] 66)
    have N2 := hid (hN.call b2.out); have D2 := hid (hD.call b2.out)
    have y2 := hid (bnext hb1 b2.out)
    have g1 := X2.out.cell 1
    have g2 := X2.out.cell 2
    simp at g1 g2
    clear h1 h2 hr1 hb1 q hN hD b2
    clear R1
    go_wp2_with fail
    refine (r1_Write _ _ _ N2.out dl.out.1).mono ?_; rintro e w3 ⟨rfl, hb3⟩
    rw [numV_eq, E1.out]
    have y3 := hid (bnext y2.out hb3)
    have D3 := hid (D2.out.call hb3)
    have g3 := (X2.out.call hb3).cell 2
    simp at g3
    clear hb3 g1 g2
    go_wp2_with fail
    refine (r1_Write _ _ _ D3.out dl.out.2).mono ?_; rintro e w4 ⟨rfl, hb4⟩
    rw [numV_eq, E2.out]
    have y4 := hid (bnext y3.out hb4)
    clear hb4
    go_wp2_with fail
    go_ret
    exact ⟨rfl, y4.out⟩

end Go.Proofs.YtpehhgkghgbhiaaGreatDoor

/- Plain words: the error of a base, by its number. -/
namespace Go.Proofs.YtpehhgkghgbhiaaGreatDoor
open Go.RowKit
open Go.Lib (decDigits nDigits)
set_option linter.unusedVariables false

/-- The error of a base, by the number of its text. -/
theorem bPE_ref {s : ByteArray} (h : qE s = 0) : bPE s = if (vQ s).num < 0 then 2 else if (vQ s).num.natAbs < (vQ s).den then 2 else shE (vQ s).num.natAbs (vQ s).den := by
  obtain ⟨e1, e2, e3⟩ := vQ_ok h
  obtain ⟨h1, h2, h3⟩ := qE_zero h
  have hn : iM (cW s) = true ↔ (vQ s).num < 0 := by rw [← e1]; simp
  have hW0 := iB_form (qB_whole h1)
  have hD := qB_below h1
  unfold bPE
  rw [if_neg (by rw [h]; simp)]
  by_cases hm : iM (cW s) = true
  · rw [if_pos (.inl hm), if_pos (hn.1 hm)]
  · have hm' : iM (cW s) = false := by simpa using hm
    rw [iD_plain hm'] at hW0 e2
    unfold qL at h2
    rw [iD_plain hm'] at h2
    simp only [Bool.or_eq_false_iff, decide_eq_false_iff_not] at h2
    have s1 : (cW s).data.toList.length = (cW s).size := Array.length_toList
    have s2 : (qD s).data.toList.length = (qD s).size := Array.length_toList
    have c1 : cmpN (cW s).data.toList (qD s).data.toList = ordN (vQ s).num.natAbs (vQ s).den := by
      rw [cmpN, if_pos ⟨errN_ok (formB_iff.1 hW0) (by omega), errN_ok (formB_iff.1 hD) (by omega)⟩, e2, e3]
      rfl
    have z1 : (cW s).size = nDigits (vQ s).num.natAbs := by rw [e2, ← numB_size, ← numB_of hW0]
    have z2 : (qD s).size = nDigits (vQ s).den := by rw [e3, ← numB_size, ← numB_of hD]
    rw [c1, z1, z2, if_neg (show ¬ (vQ s).num < 0 from fun h => hm (hn.2 h))]
    have ho : ordN (vQ s).num.natAbs (vQ s).den < 0 ↔ (vQ s).num.natAbs < (vQ s).den := by
      unfold ordN
      split
      · constructor <;> intro h <;> omega
      · split <;> constructor <;> intro h <;> omega
    unfold shE
    by_cases hle : (vQ s).num.natAbs < (vQ s).den
    · rw [if_pos (.inr (ho.2 hle)), if_pos hle]
    · rw [if_neg (fun h => h.elim hm (fun h => hle (ho.1 h))), if_neg hle]

/-- The numerator and the denominator of a good base. -/
theorem bPE_parts {s : ByteArray} (h : bPE s = 0) : cW s = numB (vQ s).num.natAbs ∧ qD s = numB (vQ s).den ∧ ¬ (vQ s).num < 0 ∧ (vQ s).den ≤ (vQ s).num.natAbs ∧ nDigits (vQ s).num.natAbs ≤ 1000 ∧ nDigits (vQ s).den ≤ 1000 := by
  obtain ⟨k1, k2, k3, hq⟩ := bPE_size h
  have hr := bPE_ref hq
  rw [h] at hr
  obtain ⟨e1, e2, e3⟩ := vQ_ok hq
  obtain ⟨h1, h2, h3⟩ := qE_zero hq
  by_cases hm : (vQ s).num < 0
  · rw [if_pos hm] at hr; exact absurd hr (by decide)
  · rw [if_neg hm] at hr
    by_cases hl : (vQ s).num.natAbs < (vQ s).den
    · rw [if_pos hl] at hr; exact absurd hr (by decide)
    · rw [if_neg hl] at hr
      have hm' : iM (cW s) = false := by
        cases hc : iM (cW s)
        · rfl
        · rw [hc] at e1; exact absurd (by simpa using e1.symm) hm
      have hW0 := iB_form (qB_whole h1)
      rw [iD_plain hm'] at hW0 e2
      have w1 := numB_of hW0
      have w2 := numB_of (qB_below h1)
      have f1 : cW s = numB (vQ s).num.natAbs := by rw [e2]; exact w1
      have f2 : qD s = numB (vQ s).den := by rw [e3]; exact w2
      have z1 : nDigits (vQ s).num.natAbs ≤ 1000 := by rw [← numB_size, ← f1]; exact k2
      have z2 : nDigits (vQ s).den ≤ 1000 := by rw [← numB_size, ← f2]; exact k3
      exact ⟨f1, f2, hm, by omega, z1, z2⟩
end Go.Proofs.YtpehhgkghgbhiaaGreatDoor

/- Walks: choose.Weights. -/
namespace Go.Proofs.YtpehhgkghgbhiaaGreatDoor
open Go.RowKit Go.Shelf Go.Maps
open Go.Lib (decDigits nDigits)
set_option linter.unusedVariables false
set_option linter.unusedSimpArgs false

/-- The error of utilities, a base and a bound. -/
def cwE (us : List Int) (s : ByteArray) (B : Int) : Int := if (us.length = 0 ∨ 64 < us.length) ∨ us.any wildB = true then 2 else if bPE s ≠ 0 then bPE s else if B < 0 ∨ (mbB s : Int) < B then 2 else 0
/-- The weights as texts. -/
def cwT (us : List Int) (s : ByteArray) (B : Int) : List ByteArray := us.map fun u => numB (cwN (vQ s).num.natAbs (vQ s).den B.toNat u)
def cwR (us : List Int) (s : ByteArray) (B : Int) : List ByteArray := if cwE us s B = 0 then cwT us s B else []

theorem cwE_ok {us : List Int} {s : ByteArray} {B : Int} (h : cwE us s B = 0) : 1 ≤ us.length ∧ us.length ≤ 64 ∧ us.any wildB = false ∧ bPE s = 0 ∧ 0 ≤ B ∧ B ≤ mbB s := by
  unfold cwE at h
  split at h
  · exact absurd h (by decide)
  · rename_i h1
    split at h
    · rename_i h2; exact absurd h h2
    · rename_i h2
      split at h
      · exact absurd h (by decide)
      · rename_i h3
        refine ⟨by omega, by omega, ?_, Decidable.not_not.1 h2, by omega, by omega⟩
        cases hc : us.any wildB
        · rfl
        · exact absurd (.inr hc) h1

theorem base_ok {s : ByteArray} {B : Nat} (h : bPE s = 0) (hB : B ≤ mbB s) : ChOk (vQ s).num.natAbs (vQ s).den B ∧ B ≤ 200 := by
  obtain ⟨k1, k2, k3, k4, k5, k6⟩ := bPE_parts h
  have e : mbB s = 400 / (2 * nDigits (vQ s).num.natAbs) := by rw [mbB, if_pos h, k1, numB_size]
  have hp := nd_pos (vQ s).num.natAbs
  rw [e] at hB
  have h1 : B * (2 * nDigits (vQ s).num.natAbs) ≤ 400 := (Nat.le_div_iff_mul_le (by omega)).1 hB
  refine ⟨⟨(vQ s).den_pos, k4, by rw [Nat.mul_comm 2 B, Nat.mul_assoc]; exact h1⟩, ?_⟩
  have : 400 / (2 * nDigits (vQ s).num.natAbs) ≤ 400 / 2 := Nat.div_le_div_left (by omega) (by omega)
  omega

theorem Lay.kp2 {w w' : World} {b1 b2 : Nat} (h : Lay w) (hk : Kp2 b1 b2 w w') (h1 : LayLt b1) (h2 : LayLt b2) (l1 : b1 ≤ w.heap.size) (l2 : b2 ≤ w.heap.size) : Lay w' := by
  refine h.below (B := min b1 b2) ⟨hk.os, hk.tape, hk.output, hk.size, fun i hi => hk.block i (by omega) (by omega) (by omega)⟩ ?_
  unfold LayLt at *
  omega
/-- The tables as they are made. -/
def wtW (w : World) (Tn Td : ByteArray) : World := (((((w.alloc (.map #[] 0)).alloc (.cells #[.string Tn, .map (some w.heap.size)] 95)).alloc (.map #[] 0)).alloc (.cells #[.string Td, .map (some (w.heap.size + 1 + 1))] 95)).alloc (.cells #[.pointer (some ⟨w.heap.size + 1, 0, none⟩)] 92)).alloc (.cells #[.pointer (some ⟨w.heap.size + 1 + 1 + 1, 0, none⟩)] 92)

theorem no_keys {k : Lit} (h : Maps.has (.map [] : DataW Unit) k = true) : False := by simp [Maps.has_eq] at h

theorem wt_made (w : World) (n d B gb : Nat) (cb : w.cell? ⟨gb, 0, none⟩ = some (.int .i64 (B : Nat))) :
    WtI (wtW w (numB n) (numB d)) gb (w.heap.size + 1 + 1 + 1 + 1) (w.heap.size + 1 + 1 + 1 + 1 + 1) (w.heap.size + 1) (w.heap.size + 1 + 1 + 1) w.heap.size (w.heap.size + 1 + 1) n d B 0 ∧ Below w.heap.size w (wtW w (numB n) (numB d)) ∧ (wtW w (numB n) (numB d)).heap.size = w.heap.size + 6 := by
  have hB : Below w.heap.size w (wtW w (numB n) (numB d)) := by
    unfold wtW
    exact ((((((Below.refl _ _).alloc (Nat.le_refl _) _).alloc (by simp) _).alloc (by simp; omega) _).alloc (by simp; omega) _).alloc (by simp; omega) _).alloc (by simp; omega) _
  refine ⟨⟨(hB.cell (p := ⟨gb, 0, none⟩) (cell_lt cb)).trans cb, ?_, ?_, ⟨?_, .map [], ?_, fun j hj => (no_keys hj).elim⟩, ⟨?_, .map [], ?_, fun j hj => (no_keys hj).elim⟩⟩, hB, by unfold wtW; simp⟩
  · have := ((Blk.made ((((w.alloc (.map #[] 0)).alloc (.cells #[.string (numB n), .map (some w.heap.size)] 95)).alloc (.map #[] 0)).alloc (.cells #[.string (numB d), .map (some (w.heap.size + 1 + 1))] 95)) #[.pointer (some ⟨w.heap.size + 1, 0, none⟩)] 92 (n := w.heap.size + 1 + 1 + 1 + 1) (by simp)).alloc (.cells #[.pointer (some ⟨w.heap.size + 1 + 1 + 1, 0, none⟩)] 92)).cell 0
    exact this
  · have := (Blk.made (((((w.alloc (.map #[] 0)).alloc (.cells #[.string (numB n), .map (some w.heap.size)] 95)).alloc (.map #[] 0)).alloc (.cells #[.string (numB d), .map (some (w.heap.size + 1 + 1))] 95)).alloc (.cells #[.pointer (some ⟨w.heap.size + 1, 0, none⟩)] 92)) #[.pointer (some ⟨w.heap.size + 1 + 1 + 1, 0, none⟩)] 92 (n := w.heap.size + 1 + 1 + 1 + 1 + 1) (by simp)).cell 0
    exact this
  · exact ((((Blk.made (w.alloc (.map #[] 0)) #[.string (numB n), .map (some w.heap.size)] 95 (n := w.heap.size + 1) (by simp)).alloc _).alloc _).alloc _).alloc _
  · exact (((((World.ownsMap_made (H := Unit) w Tryz.prog 3 (plainElem Tryz.prog 23)).alloc _).alloc _).alloc _).alloc _).alloc _
  · exact ((Blk.made (((w.alloc (.map #[] 0)).alloc (.cells #[.string (numB n), .map (some w.heap.size)] 95)).alloc (.map #[] 0)) #[.string (numB d), .map (some (w.heap.size + 1 + 1))] 95 (n := w.heap.size + 1 + 1 + 1) (by simp)).alloc _).alloc _
  · have h := World.ownsMap_made (H := Unit) ((w.alloc (.map #[] 0)).alloc (.cells #[.string (numB n), .map (some w.heap.size)] 95)) Tryz.prog 3 (plainElem Tryz.prog 23)
    rw [show ((w.alloc (.map #[] 0)).alloc (.cells #[.string (numB n), .map (some w.heap.size)] 95)).heap.size = w.heap.size + 1 + 1 from by simp] at h
    exact ((h.alloc _).alloc _).alloc _

theorem LayLt.mono {a b : Nat} (h : LayLt a) (hab : a ≤ b) : LayLt b := by unfold LayLt at *; omega

set_option maxRecDepth 100000 in
set_option maxHeartbeats 4000000 in
theorem ch_WeightsE (w : World) (v : Value) (us : List Int) (s : ByteArray) (B : Int) (hv : Row w v (zs us)) (hs : s.size ≤ 100000) (hL : Lay w) (he : cwE us s B ≠ 0) :
    Calls Tryz.prog 25 #[v, .string s, .int .i64 B] w fun e w' => e = .returned (.tuple #[.slice none 0 0, .int .i64 (cwE us s B)]) ∧ Below w.heap.size w w' := by
  have A0 := hid ((Below.refl w.heap.size w).alloc (Nat.le_refl _) (.cells #[.int .i64 B] 3))
  have X0 := hid (Blk.new w #[.int .i64 B] 3)
  have HV := hid (hv.call A0.out)
  have PM := hid (ch_MaxBound _ s hs (hL.call A0.out))
  obtain ⟨a, c, rfl, c1, c2, -⟩ := hv.openZ
  have HC := hid (s_ContainsFuncI _ _ us 62 wildB HV.out (by omega) (enters_of Tryz.func62 (by kernel_rfl) rfl) (fun W x => ch_wild W x))
  obtain ⟨N, hN⟩ : ∃ N, us.length = N := ⟨_, rfl⟩
  have EE : cwE us s B = if (N = 0 ∨ 64 < N) ∨ us.any wildB = true then 2 else if bPE s ≠ 0 then bPE s else if B < 0 ∨ (mbB s : Int) < B then 2 else 0 := by unfold cwE; rw [hN]
  rw [EE] at he ⊢
  rw [hN] at HC c1 ⊢
  obtain ⟨wb, hwb⟩ : ∃ b, us.any wildB = b := ⟨_, rfl⟩
  rw [hwb] at HC he ⊢
  clear hv hL hN hwb EE HV
  by_cases h1 : N = 0 ∨ 64 < N
  · rw [if_pos (.inl h1)]
    obtain ⟨x, hx⟩ : ∃ x, ((N : Int) == 0) = x := ⟨_, rfl⟩
    have q1 : x = false → decide ((64 : Int) < (N : Int)) = true := fun e => by
      subst e
      have : N ≠ 0 := by intro e; subst e; simp at hx
      simp; omega
    clear h1 he
    cases x
    · have q1 := q1 rfl
      go_enter Tryz.func25, Tryz.ntmps25
      go_wp2_with fail
      go_ret2
      exact ⟨rfl, A0.out⟩
    · clear q1
      go_enter Tryz.func25, Tryz.ntmps25
      go_wp2_with fail
      go_ret2
      exact ⟨rfl, A0.out⟩
  · have q1 : ((N : Int) == 0) = false := by rw [beq_eq_false_iff_ne]; omega
    have q2 : decide ((64 : Int) < (N : Int)) = false := by simp; omega
    cases wb
    · rw [if_neg (by simpa using h1)] at he ⊢
      obtain ⟨y, hy⟩ : ∃ y, bPE s = y := ⟨_, rfl⟩
      rw [hy] at PM he ⊢
      clear h1 hy
      by_cases h2 : y = 0
      · rw [if_neg (by simpa using h2)] at he ⊢
        subst h2
        obtain ⟨M, hM⟩ : ∃ M, mbB s = M := ⟨_, rfl⟩
        rw [hM] at PM he ⊢
        have h3 : B < 0 ∨ (M : Int) < B := by
          by_cases h3 : B < 0 ∨ (M : Int) < B
          · exact h3
          · rw [if_neg h3] at he; exact absurd rfl he
        rw [if_pos h3]
        obtain ⟨x, hx⟩ : ∃ x, decide (B < 0) = x := ⟨_, rfl⟩
        have q3 : x = false → decide ((M : Int) < B) = true := fun e => by
          subst e
          simp at hx
          simp; omega
        have r0 := X0.out.cell 0
        simp at r0
        clear he h3 hM
        cases x
        · have q3 := q3 rfl
          go_enter Tryz.func25, Tryz.ntmps25
          go_wp2_with fail
          refine HC.out.mono ?_; rintro e w1 ⟨rfl, rfl⟩
          go_wp2_with fail
          refine PM.out.mono ?_; rintro e w2 ⟨rfl, hb2⟩
          have y2 := hid (bnext A0.out hb2)
          have r2 := (X0.out.call hb2).cell 0
          simp at r2
          clear hb2
          go_wp2_with fail
          go_ret2
          exact ⟨rfl, y2.out⟩
        · clear q3
          go_enter Tryz.func25, Tryz.ntmps25
          go_wp2_with fail
          refine HC.out.mono ?_; rintro e w1 ⟨rfl, rfl⟩
          go_wp2_with fail
          refine PM.out.mono ?_; rintro e w2 ⟨rfl, hb2⟩
          have y2 := hid (bnext A0.out hb2)
          have r2 := (X0.out.call hb2).cell 0
          simp at r2
          clear hb2
          go_wp2_with fail
          go_ret2
          exact ⟨rfl, y2.out⟩
      · rw [if_pos h2] at he ⊢
        have q3 : (y != 0) = true := by simpa using h2
        clear he h2
        go_enter Tryz.func25, Tryz.ntmps25
        go_wp2_with fail
        refine HC.out.mono ?_; rintro e w1 ⟨rfl, rfl⟩
        go_wp2_with fail
        refine PM.out.mono ?_; rintro e w2 ⟨rfl, hb2⟩
        have y2 := hid (bnext A0.out hb2); clear hb2
        go_wp2_with fail
        go_ret2
        exact ⟨rfl, y2.out⟩
    · rw [if_pos (.inr rfl)]
      clear he h1
      go_enter Tryz.func25, Tryz.ntmps25
      go_wp2_with fail
      refine HC.out.mono ?_; rintro e w1 ⟨rfl, rfl⟩
      go_wp2_with fail
      go_ret2
      exact ⟨rfl, A0.out⟩

set_option maxRecDepth 100000 in
set_option maxHeartbeats 4000000 in
theorem ch_WeightsK (w : World) (v : Value) (us : List Int) (s : ByteArray) (B : Nat) (hv : Row w v (zs us)) (hs : s.size ≤ 100000) (hL : Lay w) (he : cwE us s (B : Nat) = 0) :
    Calls Tryz.prog 25 #[v, .string s, .int .i64 (B : Nat)] w fun e w' => (∃ u, e = .returned (.tuple #[u, .int .i64 0]) ∧ Row w' u (strs (cwT us s B))) ∧ Below w.heap.size w w' := by
  obtain ⟨e1, e2, e3, e4, e5, e6⟩ := cwE_ok he
  obtain ⟨ok, hB200⟩ := base_ok e4 (by omega : B ≤ mbB s)
  obtain ⟨k1, k2, k3, k4, k5, k6⟩ := bPE_parts e4
  have A0 := hid ((Below.refl w.heap.size w).alloc (Nat.le_refl _) (.cells #[.int .i64 (B : Nat)] 3))
  have X0 := hid (Blk.new w #[.int .i64 (B : Nat)] 3)
  have HV := hid hv
  have HL := hid hL
  have PM := hid (ch_MaxBound _ s hs (hL.call A0.out))
  have PP := fun V hV => hid (ch_parts V s hs hV)
  obtain ⟨a, c, rfl, c1, c2, -⟩ := hv.openZ
  have HC := hid (s_ContainsFuncI _ _ us 62 wildB (hv.call A0.out) (by omega) (enters_of Tryz.func62 (by kernel_rfl) rfl) (fun W x => ch_wild W x))
  rw [e3] at HC
  rw [e4] at PM
  rw [if_pos e4, if_pos e4, e4, k1, k2] at PP
  have eT : cwT us s (B : Nat) = us.map fun u => numB (cwN (vQ s).num.natAbs (vQ s).den B u) := by unfold cwT; rw [Int.toNat_natCast]
  rw [eT]
  obtain ⟨n, hn⟩ : ∃ n, (vQ s).num.natAbs = n := ⟨_, rfl⟩
  obtain ⟨d, hd⟩ : ∃ d, (vQ s).den = d := ⟨_, rfl⟩
  obtain ⟨M, hM⟩ : ∃ M, mbB s = M := ⟨_, rfl⟩
  obtain ⟨N, hN⟩ : ∃ N, us.length = N := ⟨_, rfl⟩
  rw [hn, hd] at PP ok ⊢
  rw [hn] at k5
  rw [hd] at k6
  rw [hM] at PM e6
  rw [hN] at HC c1 e1 e2 HV ⊢
  have HN := hid hN; have HOK := hid ok
  obtain ⟨Tn, hTn⟩ : ∃ s, numB n = s := ⟨_, rfl⟩
  obtain ⟨Td, hTd⟩ : ∃ s, numB d = s := ⟨_, rfl⟩
  have HTn := hid hTn; have HTd := hid hTd
  rw [hTn, hTd] at PP
  have q1 : ((N : Int) == 0) = false := by rw [beq_eq_false_iff_ne]; omega
  have q2 : decide ((64 : Int) < (N : Int)) = false := by simp; omega
  have q3 : decide ((B : Int) < 0) = false := by simp
  have q4 : decide ((M : Int) < (B : Int)) = false := by simp; omega
  have q5 : decide (M < B) = false := by simp; omega
  have E2 := hid e2
  have r0 := X0.out.cell 0
  simp at r0
  have hmm := @run_makeMap Tryz.prog
  clear hv hL he e1 e2 e3 e4 e5 e6 k1 k2 k3 k4 eT hn hd hM hN hTn hTd ok
  go_enter Tryz.func25, Tryz.ntmps25
  go_wp2_with fail
  refine HC.out.mono ?_; rintro e w1 ⟨rfl, rfl⟩
  go_wp2_with fail
  refine PM.out.mono ?_; rintro e w2 ⟨rfl, hb2⟩
  have y2 := hid (bnext A0.out hb2)
  have X2 := hid (X0.out.call hb2)
  have r2 := X2.out.cell 0
  simp at r2
  clear hb2
  go_wp2_with fail
  refine (PP _ (HL.out.call y2.out)).out.mono ?_; rintro e w3 ⟨rfl, hb3⟩
  have y3 := hid (bnext y2.out hb3)
  have X3 := hid (X2.out.call hb3)
  clear hb3 r0 r2
  have cb := X3.out.cell 0
  have hz : w.heap.size < w3.heap.size := X3.out.lt
  obtain ⟨t1, t2, t3⟩ := wt_made w3 n d B w.heap.size cb
  rw [HTn.out, HTd.out] at t1 t2 t3
  have L3 := HL.out.call y3.out
  have LT := LayLt.mono HL.out.lt (Nat.le_of_lt hz)
  have L6 := L3.call t2
  obtain ⟨W, hW⟩ : ∃ W, wtW w3 Tn Td = W := ⟨_, rfl⟩
  rw [hW] at t1 t2 t3 L6
  have HE := hid (ch_each W (.slice a N c) us 65 #[.pointer (some ⟨w.heap.size, 0, none⟩), .pointer (some ⟨w3.heap.size + 1 + 1 + 1 + 1, 0, none⟩), .pointer (some ⟨w3.heap.size + 1 + 1 + 1 + 1 + 1, 0, none⟩)] (fun u => numB (cwN n d B u))
    (fun i V => i ≤ N ∧ WtI V w.heap.size (w3.heap.size + 1 + 1 + 1 + 1) (w3.heap.size + 1 + 1 + 1 + 1 + 1) (w3.heap.size + 1) (w3.heap.size + 1 + 1 + 1) w3.heap.size (w3.heap.size + 1 + 1) n d B i ∧ Lay V) w3.heap.size (w3.heap.size + 1 + 1)
    (fun V hV => HV.out.call (hV.below (bnext y3.out t2) (Nat.le_of_lt hz) (by omega))) (by rw [HN.out]; have := E2.out; omega) (enters_of Tryz.func65 (by kernel_rfl) rfl)
    (fun V i x hx hI => by
      have hiN : i < N := by rw [← HN.out]; exact (List.getElem?_eq_some_iff.1 hx).1
      have l1 : w3.heap.size ≤ V.heap.size := by obtain ⟨D, o, -⟩ := hI.2.1.pn.ex; exact Nat.le_of_lt o.lt
      have l2 : w3.heap.size + 1 + 1 ≤ V.heap.size := by obtain ⟨D, o, -⟩ := hI.2.1.pd.ex; exact Nat.le_of_lt o.lt
      refine (ch_W2 V _ _ _ _ _ _ _ n d B i x hI.2.1 ⟨by omega, by omega, by omega, by omega, by omega, by omega, by omega, by omega, by omega, by omega, by omega⟩ HOK.out k5 k6 (by have := E2.out; omega) (by omega) hI.2.2 LT (LT.mono (by omega))).mono ?_
      rintro e w' ⟨he, hI', hK'⟩
      exact ⟨he, ⟨by omega, hI', hI.2.2.kp2 hK' LT (LT.mono (by omega)) l1 l2⟩, hK'⟩)
    ⟨Nat.zero_le _, t1, L6⟩
    (fun i V V' hI hb => ⟨hI.1, hI.2.1.low hb (by omega) (by omega) (by omega) (by omega) (by omega) (by omega) (by omega), hI.2.2.below hb (LT.mono (by omega))⟩) (by omega) (by omega))
  have HW := hid hW; have T2 := hid (bnext y3.out t2); have HZ := hid hz
  clear t1 t2 t3 L3 LT L6 hW cb hz
  go_wp2_with fail
  have hW := HW.out
  unfold wtW at hW
  rw [hW]
  refine HE.out.mono ?_; rintro e w7 ⟨⟨u, rfl, hu⟩, hK⟩
  have K7 : Hid (Below w.heap.size w w7) := hK.below T2.out (Nat.le_of_lt HZ.out) (by have := HZ.out; omega)
  obtain ⟨a7, c7, rfl, -, -, -⟩ := hu.openS
  rw [List.length_map] at hu ⊢
  have U7 := hid hu
  clear hu hK hW
  go_wp2_with fail
  go_ret2
  exact ⟨⟨_, rfl, U7.out⟩, K7.out⟩

theorem ch_Weights (w : World) (v : Value) (us : List Int) (s : ByteArray) (B : Int) (hv : Row w v (zs us)) (hs : s.size ≤ 100000) (hL : Lay w) :
    Calls Tryz.prog 25 #[v, .string s, .int .i64 B] w fun e w' => (∃ u, e = .returned (.tuple #[u, .int .i64 (cwE us s B)]) ∧ Row w' u (strs (cwR us s B))) ∧ Below w.heap.size w w' := by
  by_cases he : cwE us s B = 0
  · obtain ⟨-, -, -, -, h5, -⟩ := cwE_ok he
    obtain ⟨b, rfl⟩ : ∃ b : Nat, B = b := ⟨B.toNat, by omega⟩
    rw [cwR, if_pos he, he]
    exact ch_WeightsK w v us s b hv hs hL he
  · rw [cwR, if_neg he]
    refine (ch_WeightsE w v us s B hv hs hL he).mono ?_
    rintro e w' ⟨rfl, hb⟩
    exact ⟨⟨_, rfl, Row.nil _⟩, hb⟩
end Go.Proofs.YtpehhgkghgbhiaaGreatDoor

/- Walks: pick.law's errors, pick.Law, pick.Late. -/
namespace Go.Proofs.YtpehhgkghgbhiaaGreatDoor
open Go.RowKit Go.Shelf Go.Maps
open Go.Lib (decDigits nDigits)
set_option linter.unusedVariables false
set_option linter.unusedSimpArgs false

/-- The error of a law. -/
def lawE (l : List ByteArray) (n : Int) : Int := if wsE l ≠ 0 then wsE l else if n < 0 ∨ 256 < n then 2 else 0

set_option maxRecDepth 100000 in
set_option maxHeartbeats 1000000 in
theorem p_lawE (w : World) (v : Value) (l : List ByteArray) (n : Int) (hv : Row w v (strs l)) (hl : ∀ x ∈ l, x.size ≤ 1000000) (he : lawE l n ≠ 0) :
    Calls Tryz.prog 87 #[v, .int .i64 n] w fun e w' => e = .returned (.tuple #[.map none, .int .i64 (lawE l n)]) ∧ Below w.heap.size w w' := by
  have PC := hid (p_check w v l hv hl)
  obtain ⟨a, c, rfl, q1, q2, -⟩ := hv.openS
  obtain ⟨N, hN⟩ : ∃ N, l.length = N := ⟨_, rfl⟩
  rw [hN] at PC q1 ⊢
  clear hv hl hN
  by_cases h1 : wsE l ≠ 0
  · have e1 : lawE l n = wsE l := by rw [lawE, if_pos h1]
    rw [e1]
    obtain ⟨z, hz⟩ : ∃ z, wsE l = z := ⟨_, rfl⟩
    rw [hz] at PC h1 ⊢
    have q0 : (z != 0) = true := by simpa using h1
    clear e1 he hz h1
    go_enter Tryz.func87, Tryz.ntmps87
    go_wp2_with fail
    refine PC.out.mono ?_; rintro e w1 ⟨rfl, hb1⟩
    go_wp2_with fail
    go_ret2
    exact ⟨rfl, hb1⟩
  · have h2 : wsE l = 0 := by simpa using h1
    have h3 : n < 0 ∨ 256 < n := by
      by_cases h3 : n < 0 ∨ 256 < n
      · exact h3
      · exact absurd (show lawE l n = 0 by rw [lawE, if_neg h1, if_neg h3]) he
    have e1 : lawE l n = 2 := by rw [lawE, if_neg h1, if_pos h3]
    rw [e1]
    rw [h2] at PC
    clear e1 he h1 h2
    by_cases h4 : n < 0
    · have q0 : decide (n < 0) = true := by simpa using h4
      clear h3 h4
      go_enter Tryz.func87, Tryz.ntmps87
      go_wp2_with fail
      refine PC.out.mono ?_; rintro e w1 ⟨rfl, hb1⟩
      go_wp2_with fail
      go_ret2
      exact ⟨rfl, hb1⟩
    · have q0 : decide (n < 0) = false := by simpa using h4
      have q1 : decide (256 < n) = true := by simp; omega
      clear h3 h4
      go_enter Tryz.func87, Tryz.ntmps87
      go_wp2_with fail
      refine PC.out.mono ?_; rintro e w1 ⟨rfl, hb1⟩
      go_wp2_with fail
      go_ret2
      exact ⟨rfl, hb1⟩

set_option maxRecDepth 100000 in
set_option maxHeartbeats 1000000 in
theorem p_listed_nil (w : World) :
    Calls Tryz.prog 79 #[.map none] w fun e w' => e = .returned (.slice none 0 0) ∧ Below w.heap.size w w' := by
  have HK := hid (callsIn_wide.1 (Tryz.maps_keys none w))
  have HS := hid (callsIn_wide.1 (Tryz.sorted_keys_nil w))
  go_enter Tryz.func79, Tryz.ntmps79
  go_wp2_with fail
  refine HK.out.mono ?_; rintro e w1 ⟨rfl, rfl⟩
  go_wp2_with fail
  refine HS.out.mono ?_; rintro e w2 ⟨v, ss, rfl, rfl, hown2, hnil, hb⟩
  obtain rfl := hnil.2 rfl
  have hB : Below w.heap.size w w2 := ((Below.refl _ _).alloc (Nat.le_refl _) _).trans (hb.mono (by simp))
  have HB := hid hB
  clear hown2 hnil hb hB
  go_wp2_with fail
  refine wp_loop_rounds 1 ?_; rw [rounds_succ]
  go_wp2_with fail
  go_ret
  exact ⟨rfl, HB.out⟩

/-- The law's distribution. -/
def lawR (l : List ByteArray) (n : Int) : List (ByteArray × ByteArray) := if lawE l n = 0 then sortM (lawP (l.map bN) (2 ^ n.toNat) l.length) else []

theorem lawE_ok {l : List ByteArray} {n : Int} (h : lawE l n = 0) : wsE l = 0 ∧ 0 ≤ n ∧ n ≤ 256 := by
  unfold lawE at h
  split at h
  · rename_i h1; exact absurd h h1
  · rename_i h1
    split at h
    · exact absurd h (by decide)
    · rename_i h2; exact ⟨by simpa using h1, by omega, by omega⟩

theorem lawP_keys {ws : List Nat} {t N : Nat} (hN : N ≤ 64) : ∀ p ∈ lawP ws t N, (keyL p).length ≤ 1000 := by
  intro p hp
  have h1 : ∀ p ∈ lawL ws t N, (keyL p).length ≤ 1000 := fun p hp => by
    obtain ⟨i, h1, -, rfl⟩ := lawL_mem.1 hp
    have := nDigits_le (n := i) (k := 2) (by omega) (by omega)
    simp only [keyL, numB_list, Lib.decDigits_length]
    omega
  unfold lawP at hp
  split at hp
  · exact h1 p hp
  · rcases List.mem_append.1 hp with hp | hp
    · exact h1 p hp
    · simp at hp
      subst hp
      have this : lateB.data.toList.length ≤ 1000 := by decide
      exact this

set_option maxRecDepth 100000 in
set_option maxHeartbeats 1000000 in
theorem p_Law (w : World) (v : Value) (l : List ByteArray) (n : Int) (hv : Row w v (strs l)) (hl : ∀ x ∈ l, x.size ≤ 1000000) (hL : Lay w) :
    Calls Tryz.prog 52 #[v, .int .i64 n] w fun e w' => (∃ u, e = .returned (.tuple #[u, .int .i64 (lawE l n)]) ∧ MRow w' u (lawR l n)) ∧ Below w.heap.size w w' := by
  by_cases he : lawE l n = 0
  · obtain ⟨h1, h2, h3⟩ := lawE_ok he
    obtain ⟨m, rfl⟩ : ∃ m : Nat, n = (m : Nat) := ⟨n.toNat, by omega⟩
    have P := hid (p_law (H := Unit) w v l m hv hl h1 (by omega) hL)
    have hlen := (wsE_ok h1).2.1.len
    rw [List.length_map] at hlen
    have er : lawR l (m : Nat) = sortM (lawP (l.map bN) (2 ^ m) l.length) := by rw [lawR, if_pos he, Int.toNat_natCast]
    rw [er, he]
    obtain ⟨ws, hws⟩ : ∃ ws, l.map bN = ws := ⟨_, rfl⟩
    obtain ⟨N, hN⟩ : ∃ N, l.length = N := ⟨_, rfl⟩
    rw [hws, hN] at P ⊢
    have hN64 : N ≤ 64 := by omega
    obtain ⟨a, c, rfl, -⟩ := hv.openS
    have K := hid (lawP_keys (ws := ws) (t := 2 ^ m) hN64)
    clear hv hl hL h1 h2 h3 hlen er he hws hN
    go_enter Tryz.func52, Tryz.ntmps52
    go_wp2_with fail
    refine P.out.mono ?_; rintro e w1 ⟨⟨B, rfl, hown⟩, hb1⟩
    have y1 := hid hb1
    have Q := hid (p_listed w1 B _ _ _ hown (reads_lawM ws (2 ^ m) N) (by have := lawP_length ws (2 ^ m) N; omega) K.out)
    clear hown hb1
    go_wp2_with fail
    refine Q.out.mono ?_; rintro e w2 ⟨⟨u, rfl, hu⟩, hb2⟩
    have hu2 := hid hu
    have y2 := hid (bnext y1.out hb2)
    clear hu hb2
    go_wp2_with fail
    go_ret2
    exact ⟨⟨_, rfl, hu2.out⟩, y2.out⟩
  · have P := hid (p_lawE w v l n hv hl he)
    have er : lawR l n = [] := by rw [lawR, if_neg he]
    rw [er]
    obtain ⟨a, c, rfl, -⟩ := hv.openS
    generalize lawE l n = z at *
    clear hv hl hL er he
    go_enter Tryz.func52, Tryz.ntmps52
    go_wp2_with fail
    refine P.out.mono ?_; rintro e w1 ⟨rfl, hb1⟩
    have y1 := hid hb1
    have Q := hid (p_listed_nil w1)
    clear hb1
    go_wp2_with fail
    refine Q.out.mono ?_; rintro e w2 ⟨rfl, hb2⟩
    have y2 := hid (bnext y1.out hb2)
    clear hb2
    go_wp2_with fail
    go_ret2
    exact ⟨⟨_, rfl, MRow.nil _⟩, y2.out⟩

/-- The probability of being late. -/
def lateR (l : List ByteArray) (n : Int) : ByteArray := if lawE l n = 0 then shB (2 ^ n.toNat - lwS (l.map bN) (2 ^ n.toNat) l.length) (2 ^ n.toNat) else ⟨#[]⟩

theorem shB_zero (t : Nat) : shB 0 t = ⟨#[48]⟩ := by
  have e : qmk false 0 t = 0 := by unfold qmk sgn; simp
  have h1 : ¬ ovQ 0 := by
    have : nDigits 0 ≤ 4000 := by rw [nDigits_zero]; omega
    have : nDigits 1 ≤ 4000 := by rw [nDigits_one]; omega
    unfold ovQ
    rw [show (0 : Rat).num.natAbs = 0 from rfl, show (0 : Rat).den = 1 from rfl]
    omega
  unfold shB
  rw [e]
  unfold outB
  rw [if_neg h1]
  apply ba_ext
  rw [txQ, txB_list, show (0 : Rat).num.natAbs = 0 from rfl, show (0 : Rat).den = 1 from rfl, show decide ((0 : Rat).num < 0) = false from rfl, dec_zero]
  rfl

theorem lookok_run {H : Type} {w : World} {B nn : Nat} {D : DataW H} {L : List (ByteArray × ByteArray)} (hown : w.ownsMap Tryz.prog 9 (plainElem Tryz.prog 23) B nn D) (hR : Reads D L) (k : ByteArray) (hk : k.size ≤ maxLen) :
    (∀ p ∈ L, p.1 = k → (Instr.lookup 102 (.map (some B)) (.string k) true).run Tryz.prog w = .ok (.tuple #[.string p.2, .bool true]) w) ∧
    ((∀ p ∈ L, p.1 ≠ k) → (Instr.lookup 102 (.map (some B)) (.string k) true).run Tryz.prog w = .ok (.tuple #[.string ⟨#[]⟩, .bool false]) w) := by
  have hk2 : keyOf Tryz.prog 9 (.string k) = some (.string k.data.toList) := by
    have := Go.WideMaps.keyOf_string_mk Tryz.underlying9 (s := k) (by simpa using hk)
    simpa using this
  obtain ⟨v, ps, h1, h2⟩ := hown.look_ok lawKeyed Tryz.underlying102 (zero_num w) (plainElem_string Tryz.underlying23 (s := ⟨#[]⟩) (Nat.zero_le _)) hk2
  constructor
  · rintro p hp rfl
    rw [show D.atKey (.string p.1.data.toList) (.lit (.string (⟨#[]⟩ : ByteArray).data.toList)) = .lit (.string p.2.data.toList) from hR.look p hp _] at h2
    obtain ⟨s, rfl, h3, -⟩ := plainElem_string_inv Tryz.underlying23 h2
    simp only [Prod.mk.injEq, DataW.lit.injEq, Lit.string.injEq] at h3
    rw [h1, ba_ext h3.1, (hR.has p.1.data.toList).2 (List.mem_map_of_mem (f := keyL) hp)]
  · intro hn
    have hh : Maps.has D (.string k.data.toList) = false := by
      cases hc : Maps.has D (.string k.data.toList)
      · rfl
      · obtain ⟨p, hp, e⟩ := List.mem_map.1 ((hR.has _).1 hc)
        exact absurd (ba_ext e) (hn p hp)
    rw [atKey_of_not_has hh] at h2
    obtain ⟨s, rfl, h3, -⟩ := plainElem_string_inv Tryz.underlying23 h2
    simp only [Prod.mk.injEq, DataW.lit.injEq, Lit.string.injEq] at h3
    rw [h1, hh, ← ba_ext (a := ⟨#[]⟩) (b := s) h3.1]

theorem lawP_late {ws : List Nat} {t N : Nat} : (t - lwS ws t N ≠ 0 → (lateB, shB (t - lwS ws t N) t) ∈ lawP ws t N) ∧ (t - lwS ws t N = 0 → ∀ p ∈ lawP ws t N, p.1 ≠ lateB) := by
  constructor
  · intro h
    rw [lawP, if_neg h]
    simp
  · intro h p hp e
    rw [lawP, if_pos h] at hp
    obtain ⟨i, -, -, rfl⟩ := lawL_mem.1 hp
    exact numB_late i (congrArg (fun b => b.data.toList) e)
end Go.Proofs.YtpehhgkghgbhiaaGreatDoor

/- Walks: pick.Exact. -/
namespace Go.Proofs.YtpehhgkghgbhiaaGreatDoor
open Go.RowKit Go.Shelf Go.Maps
open Go.Lib (decDigits nDigits)
set_option linter.unusedVariables false
set_option linter.unusedSimpArgs false

/-- The pairs of the exact distribution behind i indexes, as a map, as a list. -/
def exD {H : Type} (ws : List Nat) (S : Nat) : Nat → DataW H
  | 0 => .map []
  | i + 1 => if ws.getD i 0 ≠ 0 then (exD ws S i).put (.string (numB i).data.toList) (.lit (.string (shB (ws.getD i 0) S).data.toList)) else exD ws S i
def exL (ws : List Nat) (S : Nat) : Nat → List (ByteArray × ByteArray)
  | 0 => []
  | i + 1 => if ws.getD i 0 ≠ 0 then exL ws S i ++ [(numB i, shB (ws.getD i 0) S)] else exL ws S i
theorem exL_mem {ws : List Nat} {S : Nat} {p : ByteArray × ByteArray} : ∀ {N : Nat}, p ∈ exL ws S N ↔ ∃ i, i < N ∧ ws.getD i 0 ≠ 0 ∧ p = (numB i, shB (ws.getD i 0) S)
  | 0 => by simp [exL]
  | N + 1 => by
    unfold exL
    have ih := @exL_mem ws S p N
    by_cases h : ws.getD N 0 ≠ 0
    · rw [if_pos h, List.mem_append, ih, List.mem_singleton]
      constructor
      · rintro (⟨i, h1, h2, h3⟩ | rfl)
        · exact ⟨i, by omega, h2, h3⟩
        · exact ⟨N, by omega, h, rfl⟩
      · rintro ⟨i, h1, h2, h3⟩
        rcases Nat.lt_or_ge i N with h4 | h4
        · exact .inl ⟨i, h4, h2, h3⟩
        · obtain rfl : i = N := by omega
          exact .inr h3
    · rw [if_neg h, ih]
      constructor
      · rintro ⟨i, h1, h2, h3⟩
        exact ⟨i, by omega, h2, h3⟩
      · rintro ⟨i, h1, h2, h3⟩
        rcases Nat.lt_or_ge i N with h4 | h4
        · exact ⟨i, h4, h2, h3⟩
        · obtain rfl : i = N := by omega
          exact absurd h2 h
theorem exL_length (ws : List Nat) (S : Nat) : ∀ N, (exL ws S N).length ≤ N
  | 0 => by simp [exL]
  | N + 1 => by
    unfold exL
    have := exL_length ws S N
    split <;> simp <;> omega
theorem reads_exD {H : Type} (ws : List Nat) (S : Nat) : ∀ N, Reads (exD (H := H) ws S N) (exL ws S N)
  | 0 => Reads.nil
  | N + 1 => by
    have ih := reads_exD (H := H) ws S N
    unfold exD exL
    by_cases h : ws.getD N 0 ≠ 0
    · rw [if_pos h, if_pos h]
      refine ih.put fun hm => ?_
      obtain ⟨p, hp, he⟩ := List.mem_map.1 hm
      obtain ⟨i, h1, -, rfl⟩ := exL_mem.1 hp
      simp only [keyL, numB_list] at he
      have := dec_inj he
      omega
    · rw [if_neg h, if_neg h]; exact ih
theorem exL_keys {ws : List Nat} {S N : Nat} (hN : N ≤ 64) : ∀ p ∈ exL ws S N, (keyL p).length ≤ 1000 := fun p hp => by
  obtain ⟨i, h1, -, rfl⟩ := exL_mem.1 hp
  have := nDigits_le (n := i) (k := 2) (by omega) (by omega)
  simp only [keyL, numB_list, Lib.decDigits_length]
  omega
/-- The exact distribution. -/
def exR (l : List ByteArray) : List (ByteArray × ByteArray) := if wsE l = 0 then sortM (exL (l.map bN) (l.map bN).sum l.length) else []

set_option maxRecDepth 100000 in
set_option maxHeartbeats 4000000 in
theorem p_Exact (w : World) (v : Value) (l : List ByteArray) (hv : Row w v (strs l)) (hl : ∀ x ∈ l, x.size ≤ 1000000) (hL : Lay w) :
    Calls Tryz.prog 36 #[v] w fun e w' => (∃ u, e = .returned (.tuple #[u, .int .i64 (wsE l)]) ∧ MRow w' u (exR l)) ∧ Below w.heap.size w w' := by
  have PC := hid (p_check w v l hv hl)
  have HL := hid hL; have HV := hid hv
  by_cases he : wsE l = 0
  · obtain ⟨D1, D2, D3⟩ := wsE_ok he
    have hS := wsE_pos he
    have er : exR l = sortM (exL (l.map bN) (l.map bN).sum l.length) := by rw [exR, if_pos he]
    rw [er, he]
    rw [he] at PC
    have PE := fun V hV hLV => hid (p_ends V v (l.map bN) D2 hV hLV)
    obtain ⟨a, c, rfl, q1, q2, -⟩ := hv.openS
    obtain ⟨N, hN⟩ : ∃ N, l.length = N := ⟨_, rfl⟩
    have HN := hid hN
    obtain ⟨ws, hws⟩ : ∃ ws, l.map bN = ws := ⟨_, rfl⟩
    have hlen : ws.length = N := by rw [← hws, List.length_map]; exact hN
    rw [hws] at PE D1 D2 hS ⊢
    rw [hN] at PE PC HV q1 D3 ⊢
    obtain ⟨m, rfl⟩ : ∃ m, N = m + 1 := ⟨N - 1, by omega⟩
    have hm : m < 64 := by have := D2.len; omega
    have HD1 := hid D1; have HWS := hid D2; have HLEN := hid hlen; have HPOS := hid hS
    have hmm := @run_makeMap Tryz.prog
    clear hv hl hL D1 D2 D3 hlen hS hN hws er he
    go_enter Tryz.func36, Tryz.ntmps36
    go_wp2_with fail
    refine PC.out.mono ?_; rintro e w1 ⟨rfl, hb1⟩
    have y1 := hid hb1; clear hb1
    go_wp2_with fail
    refine (PE _ (by rw [← HD1.out]; exact HV.out.call y1.out) (HL.out.call y1.out)).out.mono ?_; rintro e w2 ⟨⟨u, rfl, hu⟩, hb2⟩
    have y2 := hid (bnext y1.out hb2)
    have hu2 := hid hu
    obtain ⟨a5, c5, rfl, r1, r2, r3⟩ := hu.openS
    rw [endL_length] at hu2 r1 ⊢
    obtain ⟨g, o, rfl, hg, hc⟩ := r3 m _ (endL_get (by rw [HLEN.out]; omega))
    rw [pre_all (by rw [HLEN.out]; omega)] at hc
    rw [HLEN.out] at r1 ⊢
    obtain ⟨S0, hS0⟩ : ∃ s, numB ws.sum = s := ⟨_, rfl⟩
    have HS0 := hid hS0
    rw [hS0] at hc
    have HG := hid hg; have HC := hid hc
    clear hb2 hu hu2 r3 hS0 hg hc
    go_wp2_with fail
    have M0 := World.ownsMap_made (H := Unit) w2 Tryz.prog 9 (plainElem Tryz.prog 23)
    have B0 := hid ((Below.refl w2.heap.size w2).alloc (Nat.le_refl _) (.map #[] 0))
    obtain ⟨B, hB⟩ : ∃ B, w2.heap.size = B := ⟨_, rfl⟩
    rw [hB] at M0 ⊢
    have hgB : g < B := by rw [← hB]; exact HG.out
    have HB := hid hB
    have HM0 := hid M0
    clear M0 hB
    go_loopw [19] (fun s19 wr => ∃ i : Nat, s19 = .int .i64 (i : Nat) ∧ i ≤ m + 1 ∧ Hid (wr.ownsMap Tryz.prog 9 (plainElem (H := Unit) Tryz.prog 23) B i (exD ws ws.sum i)) ∧ Hid (Below w2.heap.size w2 wr)) (fun s19 wr => m + 1 - (intOf s19).toNat)
    case atStart => exact ⟨0, rfl, Nat.zero_le _, HM0, B0⟩
    case round =>
      obtain ⟨i, rfl, hi, hM, hW⟩ := hrel
      have yr := hid (bnext y2.out hW.out)
      by_cases hlt : i < m + 1
      · obtain ⟨x, hx⟩ : ∃ x, ws[i]? = some x := ⟨_, List.getElem?_eq_getElem (by rw [HLEN.out]; exact hlt)⟩
        obtain ⟨g', o', rfl, hg', hc'⟩ := HV.out.at (strs_get (show l[i]? = some (numB x) by rw [HD1.out, List.getElem?_map, hx]; rfl))
        have hc2 := (yr.out.cell (p := ⟨g', o' + i, none⟩) hg').trans hc'
        have hgd : ws.getD i 0 = x := by rw [List.getD_eq_getElem?_getD, hx]; rfl
        have hxd := HWS.out.dig x (List.mem_of_getElem? hx)
        have b1 : (0 : Int) ≤ (i : Int) := by omega
        have b2 : (i : Int) < (m : Int) + 1 := by omega
        have wi : IntKind.i64.wrap ((i : Int) + 1) = ((i + 1 : Nat) : Int) := by rw [IntWalk.i64_in _ ⟨by omega, by omega⟩]; omega
        obtain ⟨X0, hX0⟩ : ∃ s, numB x = s := ⟨_, rfl⟩
        rw [hX0] at hc2
        have HX0 := hid hX0; have HGD := hid hgd
        by_cases h0 : x = 0
        · have e0 : X0 = ⟨#[48]⟩ := by rw [← hX0, h0, numB_zero]
          subst e0
          have eD : Hid (exD (H := Unit) ws ws.sum (i + 1) = exD ws ws.sum i) := by show exD ws ws.sum (i + 1) = _; rw [exD, if_neg (by rw [hgd, h0]; simp)]
          clear hX0 hgd h0 hx hc' hg'
          go_wp2_with fail
          go_roundw
          case rel => exact ⟨i + 1, rfl, by omega, by rw [eD.out]; exact hM.out.mono (Nat.le_succ _), hW⟩
          case measure => simp [intOf] <;> omega
        · have hne := ne_lit (show ¬ X0 = ⟨[48].toArray⟩ by rw [← hX0, ← numB_zero]; exact numB_ne h0)
          have eD : Hid (exD (H := Unit) ws ws.sum (i + 1) = (exD ws ws.sum i).put (.string (numB i).data.toList) (.lit (.string (shB x ws.sum).data.toList))) := by show exD ws ws.sum (i + 1) = _; rw [exD, if_pos (by rw [hgd]; exact h0), hgd]
          have nS := HWS.out.sum
          have C1 := fun V hV => hid (s_Itoa V i (by omega) hV)
          have C2 := fun V hV => hid (pk_make V x ws.sum (by omega) (by omega) (by have := HPOS.out; omega) hV)
          obtain ⟨I0, hI0⟩ : ∃ s, numB i = s := ⟨_, rfl⟩
          obtain ⟨J0, hJ0⟩ : ∃ s, shB x ws.sum = s := ⟨_, rfl⟩
          obtain ⟨oe, hoe⟩ : ∃ s, outE (qmk false x ws.sum) = s := ⟨_, rfl⟩
          rw [hI0] at C1
          rw [hX0, HS0.out, hJ0, hoe] at C2
          have HI0 := hid hI0; have HJ0 := hid hJ0
          have e1 : IntKind.i64.wrap (((m + 1 : Nat) : Int) - 1) = (m : Int) := by rw [IntWalk.i64_in _ ⟨by omega, by omega⟩]; omega
          have e2 : IntKind.i64.wrap ((m : Int) + 1 - 1) = (m : Int) := by rw [IntWalk.i64_in _ ⟨by omega, by omega⟩]; omega
          have e3 : IntKind.i64.wrap (m : Int) = (m : Int) := by rw [IntWalk.i64_in _ ⟨by omega, by omega⟩]
          have b3 : (0 : Int) ≤ (m : Int) := by omega
          have b4 : (m : Int) < (m : Int) + 1 := by omega
          have KK : Hid (∀ w', Below w2.heap.size w2 w' → w'.cell? ⟨g, o + m, none⟩ = some (.string S0)) := fun w' hb => (hb.cell (p := ⟨g, o + m, none⟩) HG.out).trans HC.out
          clear hX0 hgd h0 hx hc' hg' hI0 hJ0 hoe nS
          go_wp2_with fail
          refine held_plain [0, 1, 3, 4, 5, 6, 7, 8, 9] 6 (fun w' => w'.cell? ⟨g, o + m, none⟩ = some (.string S0)) (by kernel_rfl) (by kernel_rfl) (by kernel_rfl) (by kernel_rfl) (KK.out _ hW.out.drew) ?_
          iterate 9
            refine ⟨_, rfl, ?_⟩
            apply Exists.intro
            refine ⟨.inl ⟨by rfl, ?_⟩, ?_⟩
            · (intro W' hW'; obtain q9 := hW'; go_simp; try (with_reducible rfl))
            (dsimp only [Act.put]; try simp only [List.setIfInBounds_toArray, List.set_cons_zero, List.set_cons_succ])
          refine held_one (i := 2) (by kernel_rfl) (by rfl) (by rfl) ?_
          go_wp2_with fail
          refine (C1 _ (HL.out.call yr.out.drew)).out.mono ?_; rintro e w4 ⟨rfl, hb4⟩
          have x4 := hid (show Below wr.heap.size wr w4 from (Below.refl _ _).drew.trans hb4)
          clear hb4
          go_wp2_with fail
          refine ⟨KK.out _ (hW.out.trans (x4.out.mono hW.out.size)), ?_⟩
          refine held_one (i := 10) (by kernel_rfl) (by rfl) (by rfl) ?_
          go_wp2_with fail
          refine (C2 _ (HL.out.call (bnext yr.out x4.out))).out.mono ?_; rintro e w5 ⟨rfl, hb5⟩
          have x5 := hid (bnext x4.out hb5)
          clear hb5
          go_wp2_with fail
          refine ⟨KK.out _ (hW.out.trans (x5.out.mono hW.out.size)), ?_⟩
          refine held_more (is := [11, 12, 13]) (g := 1) (by kernel_rfl) rfl (KK.out _ (hW.out.trans (x5.out.mono hW.out.size))) (by kernel_rfl) ?_
          iterate 3
            refine ⟨_, rfl, ?_⟩
            apply Exists.intro
            refine ⟨.inl ⟨by rfl, ?_⟩, ?_⟩
            · (intro W' hW'; obtain q9 := hW'; go_simp; try (with_reducible rfl))
            (dsimp only [Act.put]; try simp only [List.setIfInBounds_toArray, List.set_cons_zero, List.set_cons_succ])
          refine held_one (i := 14) (by kernel_rfl) (by rfl) (by rfl) ?_
          have hIs : I0.size ≤ maxLen := by rw [← HI0.out, numB_size]; have := nDigits_le (n := i) (k := 2) (by omega) (by omega); unfold maxLen; omega
          have hJs : J0.size ≤ maxLen := by rw [← HJ0.out]; exact shB_size _ _
          refine wpList_mapUpdate_own _ rfl _ _ _ 102 rfl 9 23 lawKeyed Tryz.underlying102 _ B i _ rfl (hM.out.kept (row := none) ⟨x5.out.os, x5.out.tape, x5.out.output, x5.out.size, fun k hk _ => x5.out.block k hk⟩ (by simp)) (by unfold maxLen; omega) _ _ _ rfl rfl (Go.WideMaps.keyOf_string_mk Tryz.underlying9 hIs) _ [] (plainElem_string Tryz.underlying23 hJs) ?_
          intro w15 hown hgrow
          have UM := hid hown
          have UB := hid (below_gb (hW.out.trans (x5.out.mono hW.out.size)) (by have := hW.out.size; have := x5.out.size; omega) hgrow (by have := HB.out; omega))
          have m0 := KK.out _ UB.out
          clear hown hgrow
          go_wp2_with fail
          refine ⟨m0, ?_⟩
          refine wpAnyH_done (by kernel_rfl) ?_ _
          simp only [Only]
          go_wp2_with fail
          go_roundw
          case rel => exact ⟨i + 1, rfl, by omega, by rw [eD.out, HI0.out, HJ0.out]; exact UM, UB⟩
          case measure => simp [intOf] <;> omega
      · obtain rfl : i = m + 1 := by omega
        have q1 : decide (((m + 1 : Nat) : Int) < ((m + 1 : Nat) : Int)) = false := by simp
        have Q := hid (p_listed _ B _ _ _ hM.out (reads_exD ws ws.sum (m + 1)) (by have := exL_length ws ws.sum (m + 1); omega) (exL_keys (by omega)))
        clear hlt
        go_wp2_with fail
        refine Q.out.mono ?_; rintro e w6 ⟨⟨u, rfl, hu⟩, hb6⟩
        have U6 := hid hu
        have y6 := hid (bnext yr.out hb6)
        clear hu hb6
        go_wp2_with fail
        go_ret2
        exact ⟨⟨_, rfl, U6.out⟩, y6.out⟩
  · have er : exR l = [] := by rw [exR, if_neg he]
    rw [er]
    obtain ⟨a, c, rfl, -⟩ := hv.openS
    obtain ⟨z, hz⟩ : ∃ z, wsE l = z := ⟨_, rfl⟩
    rw [hz] at PC he ⊢
    have q0 : (z != 0) = true := by simpa using he
    clear hv hl hL er he hz
    go_enter Tryz.func36, Tryz.ntmps36
    go_wp2_with fail
    refine PC.out.mono ?_; rintro e w1 ⟨rfl, hb1⟩
    go_wp2_with fail
    go_ret2
    exact ⟨⟨_, rfl, MRow.nil _⟩, hb1⟩
end Go.Proofs.YtpehhgkghgbhiaaGreatDoor

/- Plain words: the weights as texts, what is made of them. -/
namespace Go.Proofs.YtpehhgkghgbhiaaGreatDoor
open Go.RowKit Go.Shelf
open Go.Lib (decDigits nDigits)
set_option linter.unusedVariables false

/-- What Draw, Law give. -/
def cdE (us : List Int) (s : ByteArray) (B : Int) (b : ByteArray) : Int := if cwE us s B ≠ 0 then cwE us s B else drE (cwT us s B) b
def clE (us : List Int) (s : ByteArray) (B n : Int) : Int := if cwE us s B ≠ 0 then cwE us s B else lawE (cwT us s B) n

structure CwOk (us : List Int) (s : ByteArray) (B : Nat) : Prop where
  ok : ChOk (vQ s).num.natAbs (vQ s).den B
  lo : 1 ≤ us.length
  hi : us.length ≤ 64
  b200 : B ≤ 200

theorem cw_good {us : List Int} {s : ByteArray} {B : Int} (h : cwE us s B = 0) : CwOk us s B.toNat ∧ B = B.toNat := by
  obtain ⟨h1, h2, h3, h4, h5, h6⟩ := cwE_ok h
  obtain ⟨k1, k2⟩ := base_ok (B := B.toNat) h4 (by omega)
  exact ⟨⟨k1, h1, h2, k2⟩, by omega⟩

/-- The weights as numbers. -/
def cwV (us : List Int) (s : ByteArray) (B : Int) : List Nat := cwL (vQ s).num.natAbs (vQ s).den B.toNat us
theorem cwT_eq (us : List Int) (s : ByteArray) (B : Int) : cwT us s B = (cwV us s B).map numB := by
  unfold cwT cwV cwL; rw [List.map_map]; rfl
theorem cwV_bN (us : List Int) (s : ByteArray) (B : Int) : (cwT us s B).map bN = cwV us s B := by
  rw [cwT_eq, List.map_map]
  have : (bN ∘ numB) = id := by funext x; exact bN_num x
  rw [this, List.map_id]
theorem cwV_len (us : List Int) (s : ByteArray) (B : Int) : (cwV us s B).length = us.length := by unfold cwV cwL; simp
theorem cwT_len (us : List Int) (s : ByteArray) (B : Int) : (cwT us s B).length = us.length := by unfold cwT; simp
theorem cwV_get {us : List Int} {s : ByteArray} {B : Int} {i : Nat} {u : Int} (h : us[i]? = some u) : (cwV us s B).getD i 0 = cwN (vQ s).num.natAbs (vQ s).den B.toNat u := by
  unfold cwV cwL
  rw [List.getD_eq_getElem?_getD, List.getElem?_map, h]; rfl
theorem cwV_dig {us : List Int} {s : ByteArray} {B : Int} (h : CwOk us s B.toNat) : ∀ x ∈ cwV us s B, nDigits x ≤ 400 := fun x hx => by
  obtain ⟨u, -, rfl⟩ := List.mem_map.1 hx
  exact h.ok.fits u
theorem cwV_pos {us : List Int} {s : ByteArray} {B : Int} (h : CwOk us s B.toNat) : ∀ x ∈ cwV us s B, 0 < x := fun x hx => by
  obtain ⟨u, -, rfl⟩ := List.mem_map.1 hx
  exact h.ok.pos u
theorem cwT_size {us : List Int} {s : ByteArray} {B : Int} (h : CwOk us s B.toNat) : ∀ x ∈ cwT us s B, x.size ≤ 400 := fun x hx => by
  rw [cwT_eq] at hx
  obtain ⟨y, hy, rfl⟩ := List.mem_map.1 hx
  rw [numB_size]
  exact cwV_dig h y hy

theorem wsE_good {l : List ByteArray} (h0 : 1 ≤ l.length) (h1 : l.length ≤ 64) (h2 : ∀ x ∈ l, ∃ n, x = numB n ∧ 0 < n ∧ nDigits n ≤ 3800) : wsE l = 0 := by
  unfold wsE
  rw [if_neg (by omega)]
  have hw : ∀ l : List ByteArray, (∀ x ∈ l, ∃ n, x = numB n ∧ 0 < n ∧ nDigits n ≤ 3800) → wtE l = 0 := by
    intro l
    induction l with
    | nil => intro _; rfl
    | cons a r ih =>
      intro h
      obtain ⟨n, rfl, hn, hd⟩ := h a (List.mem_cons_self ..)
      unfold wtE
      rw [errN_numB (by omega), if_neg (by simp), if_neg (by rw [numB_size]; omega)]
      exact ih fun x hx => h x (List.mem_cons_of_mem _ hx)
  rw [hw l h2, if_neg (by simp)]
  cases l with
  | nil => simp at h0
  | cons a r =>
    obtain ⟨n, rfl, hn, -⟩ := h2 a (List.mem_cons_self ..)
    have hne : numB n ≠ ⟨#[48]⟩ := by rw [← numB_zero]; exact numB_ne (by omega)
    rw [if_pos (by simp [hne])]

theorem wsE_cw {us : List Int} {s : ByteArray} {B : Int} (h : CwOk us s B.toNat) : wsE (cwT us s B) = 0 := by
  refine wsE_good (by rw [cwT_len]; exact h.lo) (by rw [cwT_len]; exact h.hi) fun x hx => ?_
  rw [cwT_eq] at hx
  obtain ⟨y, hy, rfl⟩ := List.mem_map.1 hx
  exact ⟨y, rfl, cwV_pos h y hy, by have := cwV_dig h y hy; omega⟩

theorem wsE_nil : wsE [] = 2 := rfl
theorem exR_nil : exR [] = [] := by rw [exR, if_neg (by rw [wsE_nil]; decide)]
theorem lawE_nil (n : Int) : lawE [] n = 2 := by rw [lawE, wsE_nil, if_pos (by decide)]
theorem lawR_nil (n : Int) : lawR [] n = [] := by rw [lawR, lawE_nil, if_neg (by decide)]
theorem dr3_nil (b : ByteArray) : dr3 [] b = (false, 0, 0) := by
  unfold dr3
  rw [if_neg]
  unfold drE
  rw [wsE_nil, if_pos (by decide)]
  decide
end Go.Proofs.YtpehhgkghgbhiaaGreatDoor

/- Words: a slice of masses, opened. -/
namespace Go.Proofs.YtpehhgkghgbhiaaGreatDoor
open Go.RowKit

theorem MRow.openM {w : World} {v : Value} {L : List (ByteArray × ByteArray)} (h : MRow w v L) : ∃ a c, v = .slice a L.length c := by
  obtain ⟨a, c, e, -⟩ := h.ex
  exact ⟨a, c, e⟩
end Go.Proofs.YtpehhgkghgbhiaaGreatDoor

/- Walks: choose.Exact, Law, Draw. -/
namespace Go.Proofs.YtpehhgkghgbhiaaGreatDoor
open Go.RowKit Go.Shelf
open Go.Lib (decDigits nDigits)
set_option linter.unusedVariables false
set_option linter.unusedSimpArgs false

set_option maxRecDepth 100000 in
set_option maxHeartbeats 1000000 in
theorem ch_Exact (w : World) (v : Value) (us : List Int) (s : ByteArray) (B : Int) (hv : Row w v (zs us)) (hs : s.size ≤ 100000) (hL : Lay w) :
    Calls Tryz.prog 10 #[v, .string s, .int .i64 B] w fun e w' => (∃ u, e = .returned (.tuple #[u, .int .i64 (cwE us s B)]) ∧ MRow w' u (exR (cwR us s B))) ∧ Below w.heap.size w w' := by
  have PW := hid (ch_Weights w v us s B hv hs hL)
  obtain ⟨a, c, rfl, -⟩ := hv.openZ
  have HL := hid hL
  by_cases he : cwE us s B = 0
  · obtain ⟨ok, -⟩ := cw_good he
    have hsz := fun x hx => Nat.le_trans (cwT_size ok x hx) (by omega : 400 ≤ 1000000)
    have PE := fun V u hu hLV => hid (p_Exact V u (cwT us s B) hu hsz hLV)
    rw [wsE_cw ok] at PE
    have e1 : cwR us s B = cwT us s B := if_pos he
    rw [e1, he] at PW ⊢
    obtain ⟨T, hT⟩ : ∃ T, cwT us s B = T := ⟨_, rfl⟩
    rw [hT] at PW PE ⊢
    clear hv hs hL he ok hsz e1 hT
    go_enter Tryz.func10, Tryz.ntmps10
    go_wp2_with fail
    refine PW.out.mono ?_; rintro e w1 ⟨⟨u, rfl, hu⟩, hb1⟩
    obtain ⟨a1, c1, rfl, -⟩ := hu.openS
    have U1 := hid hu; have y1 := hid hb1
    clear hu hb1
    go_wp2_with fail
    refine (PE _ _ U1.out (HL.out.call y1.out)).out.mono ?_; rintro e w2 ⟨⟨u2, rfl, hu2⟩, hb2⟩
    obtain ⟨a2, c2, rfl⟩ := hu2.openM
    have U2 := hid hu2; have y2 := hid (bnext y1.out hb2)
    clear hu2 hb2
    go_wp2_with fail
    go_ret2
    exact ⟨⟨_, rfl, U2.out⟩, y2.out⟩
  · have e1 : cwR us s B = [] := if_neg he
    rw [e1] at PW ⊢
    rw [exR_nil]
    obtain ⟨z, hz⟩ : ∃ z, cwE us s B = z := ⟨_, rfl⟩
    rw [hz] at PW he ⊢
    have q0 : (z != 0) = true := by simpa using he
    clear hv hs hL he e1 hz
    go_enter Tryz.func10, Tryz.ntmps10
    go_wp2_with fail
    refine PW.out.mono ?_; rintro e w1 ⟨⟨u, rfl, hu⟩, hb1⟩
    obtain ⟨a1, c1, rfl, -⟩ := hu.openS
    have y1 := hid hb1
    clear hu hb1
    go_wp2_with fail
    go_ret2
    exact ⟨⟨_, rfl, MRow.nil _⟩, y1.out⟩

set_option maxRecDepth 100000 in
set_option maxHeartbeats 1000000 in
theorem ch_Law (w : World) (v : Value) (us : List Int) (s : ByteArray) (B n : Int) (hv : Row w v (zs us)) (hs : s.size ≤ 100000) (hL : Lay w) :
    Calls Tryz.prog 18 #[v, .string s, .int .i64 B, .int .i64 n] w fun e w' => (∃ u, e = .returned (.tuple #[u, .int .i64 (clE us s B n)]) ∧ MRow w' u (lawR (cwR us s B) n)) ∧ Below w.heap.size w w' := by
  have PW := hid (ch_Weights w v us s B hv hs hL)
  obtain ⟨a, c, rfl, -⟩ := hv.openZ
  have HL := hid hL
  by_cases he : cwE us s B = 0
  · obtain ⟨ok, -⟩ := cw_good he
    have hsz := fun x hx => Nat.le_trans (cwT_size ok x hx) (by omega : 400 ≤ 1000000)
    have PE := fun V u hu hLV => hid (p_Law V u (cwT us s B) n hu hsz hLV)
    have e1 : cwR us s B = cwT us s B := if_pos he
    have e2 : clE us s B n = lawE (cwT us s B) n := if_neg (by simpa using he)
    rw [e1, he] at PW
    rw [e1, e2]
    obtain ⟨T, hT⟩ : ∃ T, cwT us s B = T := ⟨_, rfl⟩
    rw [hT] at PW PE ⊢
    clear hv hs hL he ok hsz e1 e2 hT
    go_enter Tryz.func18, Tryz.ntmps18
    go_wp2_with fail
    refine PW.out.mono ?_; rintro e w1 ⟨⟨u, rfl, hu⟩, hb1⟩
    obtain ⟨a1, c1, rfl, -⟩ := hu.openS
    have U1 := hid hu; have y1 := hid hb1
    clear hu hb1
    go_wp2_with fail
    refine (PE _ _ U1.out (HL.out.call y1.out)).out.mono ?_; rintro e w2 ⟨⟨u2, rfl, hu2⟩, hb2⟩
    obtain ⟨a2, c2, rfl⟩ := hu2.openM
    have U2 := hid hu2; have y2 := hid (bnext y1.out hb2)
    clear hu2 hb2
    go_wp2_with fail
    go_ret2
    exact ⟨⟨_, rfl, U2.out⟩, y2.out⟩
  · have e1 : cwR us s B = [] := if_neg he
    have e2 : clE us s B n = cwE us s B := if_pos he
    rw [e1] at PW ⊢
    rw [lawR_nil, e2]
    obtain ⟨z, hz⟩ : ∃ z, cwE us s B = z := ⟨_, rfl⟩
    rw [hz] at PW he ⊢
    have q0 : (z != 0) = true := by simpa using he
    clear hv hs hL he e1 e2 hz
    go_enter Tryz.func18, Tryz.ntmps18
    go_wp2_with fail
    refine PW.out.mono ?_; rintro e w1 ⟨⟨u, rfl, hu⟩, hb1⟩
    obtain ⟨a1, c1, rfl, -⟩ := hu.openS
    have y1 := hid hb1
    clear hu hb1
    go_wp2_with fail
    go_ret2
    exact ⟨⟨_, rfl, MRow.nil _⟩, y1.out⟩

set_option maxRecDepth 100000 in
set_option maxHeartbeats 1000000 in
theorem ch_Draw (w : World) (v : Value) (us : List Int) (s : ByteArray) (B : Int) (b : ByteArray) (hv : Row w v (zs us)) (hs : s.size ≤ 100000) (hb : b.size ≤ 100000000) (hL : Lay w) :
    Calls Tryz.prog 20 #[v, .string s, .int .i64 B, .string b] w fun e w' => e = .returned (.tuple #[dw3 (dr3 (cwR us s B) b), .int .i64 (cdE us s B b)]) ∧ Below w.heap.size w w' := by
  have A0 := hid ((Below.refl w.heap.size w).alloc (Nat.le_refl _) (.cells #[.bool false, .int .i64 0, .int .i64 0] 48))
  have x0 := hid (Blk.new w #[.bool false, .int .i64 0, .int .i64 0] 48)
  have PW := hid (ch_Weights _ v us s B (hv.call A0.out) hs (hL.call A0.out))
  obtain ⟨a, c, rfl, -⟩ := hv.openZ
  have HL := hid hL
  by_cases he : cwE us s B = 0
  · obtain ⟨ok, -⟩ := cw_good he
    have hsz := fun x hx => Nat.le_trans (cwT_size ok x hx) (by omega : 400 ≤ 1000000)
    have PE := fun V u hu hLV => hid (p_Draw V u (cwT us s B) b hu hsz hb hLV)
    have e1 : cwR us s B = cwT us s B := if_pos he
    have e2 : cdE us s B b = drE (cwT us s B) b := if_neg (by simpa using he)
    rw [e1, he] at PW
    rw [e1, e2]
    obtain ⟨T, hT⟩ : ∃ T, cwT us s B = T := ⟨_, rfl⟩
    rw [hT] at PW PE ⊢
    obtain ⟨y, hy⟩ : ∃ y, drE T b = y := ⟨_, rfl⟩
    obtain ⟨X, hX⟩ : ∃ X, dr3 T b = X := ⟨_, rfl⟩
    rw [hy, hX] at PE ⊢
    obtain ⟨d, vv, uu⟩ := X
    simp only [dw3] at PE ⊢
    clear hv hs hL he ok hsz e1 e2 hT hb hy hX
    go_enter Tryz.func20, Tryz.ntmps20
    go_wp2_with fail
    refine PW.out.mono ?_; rintro e w1 ⟨⟨u, rfl, hu⟩, hb1⟩
    obtain ⟨a1, c1, rfl, -⟩ := hu.openS
    have U1 := hid hu; have y1 := hid (bnext A0.out hb1); have k1 := hid (x0.out.call hb1)
    clear hu hb1
    go_wp2_with fail
    refine (PE _ _ U1.out (HL.out.call y1.out)).out.mono ?_; rintro e w4 ⟨rfl, hb2⟩
    have y4 := hid (bnext y1.out hb2); have k4 := hid (k1.out.call hb2)
    clear hb2
    have r0 := k4.out.cell 0
    have r1' := k4.out.cell 1
    have r2' := k4.out.cell 2
    have f0 := k4.out.free 0
    have f1 := k4.out.free 1
    have f2 := k4.out.free 2
    simp at r0 r1' r2'
    go_wp2_with fail
    have s3 := ((k4.out.set 0 (.bool d)).set 1 (.int .i64 (vv : Nat))).set 2 (.int .i64 (uu : Nat))
    have z0 := s3.cell 0
    have z1 := s3.cell 1
    have z2 := s3.cell 2
    simp at z0 z1 z2
    refine bodyPost_ret (v := .tuple #[.agg #[.bool d, .int .i64 (vv : Nat), .int .i64 (uu : Nat)], .int .i64 y]) (by simp [results, Tryz.results20, go_sem, z0, z1, z2]) rfl ⟨rfl, ?_⟩
    exact ((y4.out.setCell (Nat.le_refl _) _).setCell (Nat.le_refl _) _).setCell (Nat.le_refl _) _
  · have e1 : cwR us s B = [] := if_neg he
    have e2 : cdE us s B b = cwE us s B := if_pos he
    rw [e1] at PW ⊢
    rw [dr3_nil, e2]
    simp only [dw3]
    obtain ⟨z, hz⟩ : ∃ z, cwE us s B = z := ⟨_, rfl⟩
    rw [hz] at PW he ⊢
    have q0 : (z != 0) = true := by simpa using he
    clear hv hs hL he e1 e2 hz hb
    go_enter Tryz.func20, Tryz.ntmps20
    go_wp2_with fail
    refine PW.out.mono ?_; rintro e w1 ⟨⟨u, rfl, hu⟩, hb1⟩
    obtain ⟨a1, c1, rfl, -⟩ := hu.openS
    have y1 := hid (bnext A0.out hb1); have k1 := hid (x0.out.call hb1)
    clear hu hb1
    have r0 := k1.out.cell 0
    have r1' := k1.out.cell 1
    have r2' := k1.out.cell 2
    have f0 := k1.out.free 0
    have f1 := k1.out.free 1
    have f2 := k1.out.free 2
    simp at r0 r1' r2'
    go_wp2_with fail
    have s3 := ((k1.out.set 0 (.bool false)).set 1 (.int .i64 0)).set 2 (.int .i64 0)
    have z0 := s3.cell 0
    have z1 := s3.cell 1
    have z2 := s3.cell 2
    simp at z0 z1 z2
    refine bodyPost_ret (v := .tuple #[.agg #[.bool false, .int .i64 0, .int .i64 0], .int .i64 z]) (by simp [results, Tryz.results20, go_sem, z0, z1, z2]) rfl ⟨rfl, ?_⟩
    exact ((y1.out.setCell (Nat.le_refl _) _).setCell (Nat.le_refl _) _).setCell (Nat.le_refl _) _
end Go.Proofs.YtpehhgkghgbhiaaGreatDoor

/- Walks: kit.Same at texts. -/
namespace Go.Proofs.YtpehhgkghgbhiaaGreatDoor
open Go.RowKit Go.Shelf
open Go.Lib (decDigits nDigits)
set_option linter.unusedVariables false
set_option linter.unusedSimpArgs false

set_option maxRecDepth 100000 in
set_option maxHeartbeats 2000000 in
theorem k_SameS (w : World) (v u : Value) (L M : List ByteArray) (hv : Row w v (strs L)) (hu : Row w u (strs M)) :
    Calls Tryz.prog 27 #[v, u] w fun e w' => e = .returned (.bool (decide (L = M))) ∧ Below w.heap.size w w' := by
  obtain ⟨a, c, rfl, h1, h2, h3⟩ := hv.openS
  obtain ⟨a', c', rfl, h1', h2', h3'⟩ := hu.openS
  obtain ⟨n, hn⟩ : ∃ n, L.length = n := ⟨_, rfl⟩
  obtain ⟨m, hm⟩ : ∃ n, M.length = n := ⟨_, rfl⟩
  rw [hn] at h1 ⊢
  rw [hm] at h1' ⊢
  have H3 := hid h3; have H3' := hid h3'; have HN := hid hn; have HM := hid hm
  clear hv hu h3 h3'
  by_cases hnm : n = m
  · subst hnm
    have q0 : ((n : Int) != (n : Int)) = false := by simp
    clear hn hm
    go_enter Tryz.func27, Tryz.ntmps27
    go_wp2_with fail
    go_loopw [5] (fun ii wr => ∃ i : Nat, ii = .int .i64 (i : Nat) ∧ i ≤ n ∧ Hid (∀ j, j < i → L[j]? = M[j]?) ∧ Hid (Below w.heap.size w wr)) (fun ii wr => n - (intOf ii).toNat)
    case atStart => exact ⟨0, rfl, Nat.zero_le _, fun j hj => absurd hj (by omega), Below.refl _ _⟩
    case round =>
      obtain ⟨i, rfl, hi, hI, hB⟩ := hrel
      by_cases hlt : i < n
      · obtain ⟨x, hx⟩ : ∃ x, L[i]? = some x := ⟨_, List.getElem?_eq_getElem (by rw [HN.out]; exact hlt)⟩
        obtain ⟨y, hy⟩ : ∃ x, M[i]? = some x := ⟨_, List.getElem?_eq_getElem (by rw [HM.out]; exact hlt)⟩
        obtain ⟨g, o, rfl, hg, k1⟩ := H3.out i x hx
        obtain ⟨g', o', rfl, hg', k1'⟩ := H3'.out i y hy
        have HX := hid hx; have HY := hid hy
        have m1 := (hB.out.cell (p := ⟨g, o + i, none⟩) hg).trans k1
        have m3 := (hB.out.cell (p := ⟨g', o' + i, none⟩) hg').trans k1'
        have b1 : (0 : Int) ≤ (i : Int) := by omega
        have b2 : (i : Int) < (n : Int) := by omega
        have wi : IntKind.i64.wrap ((i : Int) + 1) = (i : Int) + 1 := by rw [IntWalk.i64_in _ ⟨by omega, by omega⟩]
        clear k1 k1' hx hy hg hg'
        by_cases he1 : x = y
        · subst he1
          go_wp2_with fail
          refine held_plain [0, 1, 2, 3, 4, 5, 6, 7, 8] 0 (fun w' => w'.cell? ⟨g, o + i, none⟩ = some (.string x) ∧ w'.cell? ⟨g', o' + i, none⟩ = some (.string x)) (by kernel_rfl) (by kernel_rfl) (by kernel_rfl) (by kernel_rfl) ⟨m1, m3⟩ ?_
          iterate 9
            refine ⟨_, rfl, ?_⟩
            apply Exists.intro
            refine ⟨.inl ⟨by rfl, ?_⟩, ?_⟩
            · (intro W' hW'; obtain ⟨q1, q2⟩ := hW'; go_simp; try (with_reducible rfl))
            (dsimp only [Act.put]; try simp only [List.setIfInBounds_toArray, List.set_cons_zero, List.set_cons_succ])
          refine wpAnyH_done (by kernel_rfl) ?_ _
          simp only [Only]
          go_wp2_with fail
          go_roundw
          case rel => exact ⟨i + 1, rfl, by omega, fun j hj => by
            rcases Nat.lt_or_ge j i with h | h
            · exact hI.out j h
            · obtain rfl : j = i := by omega
              rw [HX.out, HY.out], hB.out.drew⟩
          case measure => simp [intOf] <;> omega
        · have n1 : (x.toList == y.toList) = false := by rw [beq_eq_false_iff_ne]; exact ne_tl he1
          have hne : decide (L = M) = false := by
            rw [decide_eq_false_iff_not]; rintro rfl
            have := HX.out.symm.trans HY.out
            simp only [Option.some.injEq] at this
            exact he1 this
          have HNE := hid hne
          clear hne he1
          go_wp2_with fail
          refine held_plain [0, 1, 2, 3, 4, 5, 6, 7, 8] 0 (fun w' => w'.cell? ⟨g, o + i, none⟩ = some (.string x) ∧ w'.cell? ⟨g', o' + i, none⟩ = some (.string y)) (by kernel_rfl) (by kernel_rfl) (by kernel_rfl) (by kernel_rfl) ⟨m1, m3⟩ ?_
          iterate 9
            refine ⟨_, rfl, ?_⟩
            apply Exists.intro
            refine ⟨.inl ⟨by rfl, ?_⟩, ?_⟩
            · (intro W' hW'; obtain ⟨q1, q2⟩ := hW'; go_simp; try (with_reducible rfl))
            (dsimp only [Act.put]; try simp only [List.setIfInBounds_toArray, List.set_cons_zero, List.set_cons_succ])
          refine wpAnyH_done (by kernel_rfl) ?_ _
          simp only [Only]
          go_wp2_with fail
          go_ret
          exact ⟨by rw [HNE.out]; rfl, hB.out.drew⟩
      · obtain rfl : i = n := by omega
        have hE : L = M := by
          apply List.ext_getElem?
          intro j
          by_cases hj : j < i
          · exact hI.out j hj
          · rw [List.getElem?_eq_none (by rw [HN.out]; omega), List.getElem?_eq_none (by rw [HM.out]; omega)]
        have HE := hid hE
        have q1 : decide ((i : Int) < (i : Int)) = false := by simp
        clear hE
        go_wp2_with fail
        go_ret
        exact ⟨by rw [decide_eq_true HE.out]; rfl, hB.out⟩
  · have hE : decide (L = M) = false := by rw [decide_eq_false_iff_not]; rintro rfl; exact hnm (hn.symm.trans hm)
    have HE := hid hE
    have q0 : ((n : Int) != (m : Int)) = true := by simp; omega
    clear hn hm hE
    go_enter Tryz.func27, Tryz.ntmps27
    go_wp2_with fail
    go_ret
    exact ⟨by rw [HE.out]; rfl, Below.refl _ _⟩
end Go.Proofs.YtpehhgkghgbhiaaGreatDoor

/- Walks: the examples of the chapter of choose. -/
namespace Go.Proofs.YtpehhgkghgbhiaaGreatDoor
open Go.RowKit Go.Shelf
open Go.Lib (decDigits nDigits)
set_option linter.unusedVariables false
set_option linter.unusedSimpArgs false

theorem dig1 {n : Nat} (h : n < 10) : numB n = ⟨#[UInt8.ofNat (48 + n)]⟩ := by unfold numB; rw [decDigits_small h]
theorem vq_three : (vQ ⟨#[51, 47, 50]⟩).num.natAbs = 3 ∧ (vQ ⟨#[51, 47, 50]⟩).den = 2 := by decide +kernel
theorem vq_tri : (vQ ⟨#[51]⟩).num.natAbs = 3 ∧ (vQ ⟨#[51]⟩).den = 1 := by decide +kernel
theorem bp_three : bPE ⟨#[51, 47, 50]⟩ = 0 ∧ (cW ⟨#[51, 47, 50]⟩).size = 1 := by decide +kernel
theorem bp_tri : bPE ⟨#[51]⟩ = 0 ∧ (cW ⟨#[51]⟩).size = 1 := by decide +kernel

theorem lv_E1 : cwE [0, 1, -1] ⟨#[51, 47, 50]⟩ 1 = 0 := by
  unfold cwE mbB
  rw [bp_three.1, bp_three.2]
  decide
theorem lv_T1 : cwT [0, 1, -1] ⟨#[51, 47, 50]⟩ 1 = [⟨#[54]⟩, ⟨#[57]⟩, ⟨#[52]⟩] := by
  unfold cwT
  rw [vq_three.1, vq_three.2]
  show [numB (cwN 3 2 1 0), numB (cwN 3 2 1 1), numB (cwN 3 2 1 (-1))] = _
  rw [show cwN 3 2 1 0 = 6 by decide, show cwN 3 2 1 1 = 9 by decide, show cwN 3 2 1 (-1) = 4 by decide, dig1 (by omega), dig1 (by omega), dig1 (by omega)]
  rfl
theorem lv_E2 : cwE [0, 1] ⟨#[51]⟩ 1 = 0 := by
  unfold cwE mbB
  rw [bp_tri.1, bp_tri.2]
  decide
theorem lv_V2 : cwV [0, 1] ⟨#[51]⟩ 1 = [3, 9] := by
  unfold cwV cwL
  rw [vq_tri.1, vq_tri.2]
  decide
theorem lv_D : cdE [0, 1] ⟨#[51]⟩ 1 ⟨#[48, 48]⟩ = 0 ∧ dr3 (cwR [0, 1] ⟨#[51]⟩ 1) ⟨#[48, 48]⟩ = (true, 0, 2) := by
  have hW : wsE (cwT [0, 1] ⟨#[51]⟩ 1) = 0 := wsE_cw (cw_good lv_E2).1
  have hE : drE (cwT [0, 1] ⟨#[51]⟩ 1) ⟨#[48, 48]⟩ = 0 := by
    unfold drE
    rw [hW]
    decide
  refine ⟨by rw [cdE, lv_E2, if_neg (by simp)]; exact hE, ?_⟩
  rw [cwR, if_pos lv_E2]
  unfold dr3
  rw [if_pos hE, cwV_bN, lv_V2]
  show pdr (pkF [3, 9]) 0 1 [48, 48] = _
  rw [pdr_next (by decide), pdr_next (by decide), pdr_done (by decide)]
  decide

set_option maxRecDepth 100000 in
set_option maxHeartbeats 4000000 in
theorem w_lives (w : World) (hL : Lay w) :
    Calls Tryz.prog 8 #[] w fun e w' => e = .returned (.bool true) ∧ Below w.heap.size w w' := by
  have A0 := hid ((Below.refl w.heap.size w).alloc (Nat.le_refl _) (.cells #[.int .i64 0, .int .i64 1, .int .i64 (-1)] 3))
  have X0 := Blk.new w #[.int .i64 0, .int .i64 1, .int .i64 (-1)] 3
  have R0 := hid (Row.of_blk (n := 3) (xs := zs [0, 1, -1]) X0 rfl (by decide) (fun i x h => by
    rcases i with _ | _ | _ | i <;> simp [zs] at h ⊢ <;> exact h) (Nat.le_refl 3) (by decide))
  have HL := hid hL
  have PW := fun V hV hLV => hid (ch_Weights V (.slice (some ⟨w.heap.size, 0, none⟩) 3 3) [0, 1, -1] ⟨#[51, 47, 50]⟩ 1 hV (by decide) hLV)
  have PD := fun V u hV hLV => hid (ch_Draw V u [0, 1] ⟨#[51]⟩ 1 ⟨#[48, 48]⟩ hV (by decide) (by decide) hLV)
  rw [cwR, if_pos lv_E1, lv_E1, lv_T1] at PW
  rw [lv_D.1, lv_D.2] at PD
  simp only [dw3] at PD
  clear hL X0
  go_enter Tryz.func8, Tryz.ntmps8
  go_wp2_with fail
  refine (PW _ R0.out (HL.out.call A0.out)).out.mono ?_; rintro e w1 ⟨⟨u, rfl, hu⟩, hb1⟩
  obtain ⟨a1, c1, rfl, -, -, -⟩ := hu.openS
  have U1 := hid hu; have y1 := hid (bnext A0.out hb1); clear hu hb1
  have X1 := Blk.new w1 #[.int .i64 0, .int .i64 1] 3
  have R1 := hid (Row.of_blk (n := 2) (xs := zs [0, 1]) X1 rfl (by decide) (fun i x h => by
    rcases i with _ | _ | i <;> simp [zs] at h ⊢ <;> exact h) (Nat.le_refl 2) (by decide))
  have A1 := hid ((Below.refl w1.heap.size w1).alloc (Nat.le_refl _) (.cells #[.int .i64 0, .int .i64 1] 3))
  have z1 := hid (bnext y1.out A1.out)
  have V1 := hid (U1.out.call A1.out)
  clear X1
  go_wp2_with fail
  refine (PD _ _ R1.out (HL.out.call z1.out)).out.mono ?_; rintro e w2 ⟨rfl, hb2⟩
  have y2 := hid (bnext z1.out hb2); have V2 := hid (V1.out.call hb2); clear hb2
  have X2 := hid (Blk.new w2 #[.bool true, .int .i64 0, .int .i64 2] 48)
  have A2 := hid ((Below.refl w2.heap.size w2).alloc (Nat.le_refl _) (.cells #[.bool true, .int .i64 0, .int .i64 2] 48))
  have A3 := hid ((A2.out.alloc A2.out.size (.cells #[.string ⟨#[54]⟩, .string ⟨#[57]⟩, .string ⟨#[52]⟩] 23)))
  have X3 := hid (X2.out.alloc (.cells #[.string ⟨#[54]⟩, .string ⟨#[57]⟩, .string ⟨#[52]⟩] 23))
  have Y3 := Blk.made (w2.alloc (.cells #[.bool true, .int .i64 0, .int .i64 2] 48)) #[.string ⟨#[54]⟩, .string ⟨#[57]⟩, .string ⟨#[52]⟩] 23 (n := w2.heap.size + 1) (by simp)
  have R3 := hid (Row.of_blk (n := 3) (xs := strs [⟨#[54]⟩, ⟨#[57]⟩, ⟨#[52]⟩]) Y3 rfl (by decide) (fun i x h => by
    rcases i with _ | _ | _ | i <;> simp [strs] at h ⊢ <;> exact h) (Nat.le_refl 3) (by decide))
  have V3 := hid (V2.out.call A3.out)
  have y3 := hid (bnext y2.out A3.out)
  have PS := fun V u v hu hv => hid (k_SameS V u v [⟨#[54]⟩, ⟨#[57]⟩, ⟨#[52]⟩] [⟨#[54]⟩, ⟨#[57]⟩, ⟨#[52]⟩] hu hv)
  rw [decide_eq_true rfl] at PS
  clear Y3
  go_wp2_with fail
  refine (PS _ _ _ V3.out R3.out).out.mono ?_; rintro e w4 ⟨rfl, hb4⟩
  have y4 := hid (bnext y3.out hb4)
  have X4 := hid (X3.out.call hb4)
  have r0 := X4.out.cell 0
  have r1 := X4.out.cell 1
  have r2 := X4.out.cell 2
  simp at r0 r1 r2
  clear hb4
  go_wp2_with fail
  go_ret
  exact ⟨rfl, y4.out⟩
end Go.Proofs.YtpehhgkghgbhiaaGreatDoor

/- Plain: all bit strings of a length; how many of them draw which index. -/
namespace Go.Proofs.YtpehhgkghgbhiaaGreatDoor
open Go.RowKit
set_option linter.unusedVariables false

/-- All words of n bits, in order. -/
def allW : Nat → List (List UInt8)
  | 0 => [[]]
  | n + 1 => (allW n).flatMap fun l => [l ++ [48], l ++ [49]]
/-- The number of a word, behind a number. -/
def bvL : List UInt8 → Nat → Nat
  | [], k => k
  | b :: r, k => bvL r (k + k + (if b = 49 then 1 else 0))
theorem bvL_snoc (b : UInt8) : ∀ (l : List UInt8) (k : Nat), bvL (l ++ [b]) k = bvL l k + bvL l k + (if b = 49 then 1 else 0)
  | [], k => rfl
  | c :: r, k => bvL_snoc b r _
theorem allW_len : ∀ {n : Nat} {l : List UInt8}, l ∈ allW n → l.length = n
  | 0, l, h => by simp [allW] at h; subst h; rfl
  | n + 1, l, h => by
    simp only [allW, List.mem_flatMap] at h
    obtain ⟨m, hm, hl⟩ := h
    have := allW_len hm
    simp at hl
    rcases hl with rfl | rfl <;> simp [this]
theorem allW_bits : ∀ {n : Nat} {l : List UInt8}, l ∈ allW n → ∀ b ∈ l, b = 48 ∨ b = 49
  | 0, l, h => by simp [allW] at h; subst h; simp
  | n + 1, l, h => by
    simp only [allW, List.mem_flatMap] at h
    obtain ⟨m, hm, hl⟩ := h
    have := allW_bits hm
    simp at hl
    rcases hl with rfl | rfl <;> (intro b hb; rcases List.mem_append.1 hb with hb | hb; exact this b hb; simp at hb; simp [hb])
theorem allW_length : ∀ n, (allW n).length = 2 ^ n
  | 0 => rfl
  | n + 1 => by
    have h : ∀ L : List (List UInt8), (L.flatMap fun l => [l ++ [48], l ++ [49]]).length = 2 * L.length := fun L => by
      induction L with
      | nil => rfl
      | cons a r ih => rw [List.flatMap_cons, List.length_append, ih, List.length_cons]; simp; omega
    rw [allW, h, allW_length n, Nat.pow_succ]; omega
theorem range_twice : ∀ m, (List.range m).flatMap (fun v => [v + v, v + v + 1]) = List.range (m + m)
  | 0 => rfl
  | m + 1 => by
    rw [List.range_succ, List.flatMap_append, range_twice m, show m + 1 + (m + 1) = m + m + 1 + 1 by omega, List.range_succ, List.range_succ]
    simp
theorem allW_map : ∀ n, (allW n).map (fun l => bvL l 0) = List.range (2 ^ n)
  | 0 => rfl
  | n + 1 => by
    rw [Nat.pow_succ, Nat.mul_two, ← range_twice, ← allW_map n, allW, List.map_flatMap, List.flatMap_map]
    congr 1
    funext l
    simp [bvL_snoc]

/-- What is decided stays decided. -/
def Nest (f : Nat → Nat → Nat × Bool) : Prop := ∀ k t i b, k < t → b ≤ 1 → f k t = (i, true) → f (k + k + b) (t + t) = (i, true)
theorem Nest.end {f : Nat → Nat → Nat × Bool} (h : Nest f) {i : Nat} : ∀ (l : List UInt8) (k t : Nat), k < t → f k t = (i, true) → f (bvL l k) (t * 2 ^ l.length) = (i, true)
  | [], k, t, _, e => by simpa [bvL] using e
  | b :: r, k, t, hk, e => by
    have h1 := h k t i (if b = 49 then 1 else 0) hk (by split <;> omega) e
    have h2 := h.end r _ _ (by split <;> omega) h1
    rw [bvL, List.length_cons, Nat.pow_succ, show t * (2 ^ r.length * 2) = (t + t) * 2 ^ r.length by rw [← Nat.mul_two, Nat.mul_assoc, Nat.mul_comm 2]]
    exact h2

theorem pdr_end {f : Nat → Nat → Nat × Bool} (h : Nest f) : ∀ (l : List UInt8) (k t : Nat), k < t →
    (pdr f k t l).1 = (f (bvL l k) (t * 2 ^ l.length)).2 ∧ ((pdr f k t l).1 = true → (pdr f k t l).2.1 = (f (bvL l k) (t * 2 ^ l.length)).1) ∧ ((pdr f k t l).1 = false → (pdr f k t l).2.1 = 0) := by
  intro l
  induction l with
  | nil =>
    intro k t hk
    simp only [bvL, List.length_nil, Nat.pow_zero, Nat.mul_one]
    cases hf : (f k t).2
    · rw [pdr_late hf]; simp
    · rw [pdr_done hf]; simp
  | cons b r ih =>
    intro k t hk
    cases hf : (f k t).2
    · rw [pdr_next hf]
      have := ih (k + k + (if b = 49 then 1 else 0)) (t + t) (by split <;> omega)
      rw [bvL, List.length_cons, Nat.pow_succ, show t * (2 ^ r.length * 2) = (t + t) * 2 ^ r.length by rw [← Nat.mul_two, Nat.mul_assoc, Nat.mul_comm 2]]
      exact this
    · have e : f k t = ((f k t).1, true) := by rw [← hf]
      have := h.end (b :: r) k t hk e
      rw [pdr_done hf, this]
      simp

/-- How often a draw gives i, and how often it gives nothing. -/
def drawsI (f : Nat → Nat → Nat × Bool) (i : Nat) (l : List UInt8) : Bool := (pdr f 0 1 l).1 && decide ((pdr f 0 1 l).2.1 = i)
theorem draws_count {f : Nat → Nat → Nat × Bool} (h : Nest f) (n i : Nat) : (allW n).countP (drawsI f i) = (List.range (2 ^ n)).countP (fun k => decide (f k (2 ^ n) = (i, true))) := by
  rw [← allW_map n, List.countP_map]
  refine List.countP_congr fun l hl => ?_
  have hn := allW_len hl
  obtain ⟨h1, h2, h3⟩ := pdr_end h l 0 1 (by omega)
  rw [hn, Nat.one_mul] at h1 h2
  simp only [drawsI, Function.comp, Bool.and_eq_true, decide_eq_true_eq]
  constructor
  · rintro ⟨k1, k2⟩
    rw [k1] at h1
    rw [← k2, h2 k1, h1]
  · intro e
    have k1 : (pdr f 0 1 l).1 = true := by rw [h1, e]
    exact ⟨k1, by rw [h2 k1, e]⟩
theorem late_count {f : Nat → Nat → Nat × Bool} (h : Nest f) (n : Nat) : (allW n).countP (fun l => !(pdr f 0 1 l).1) = (List.range (2 ^ n)).countP (fun k => !(f k (2 ^ n)).2) := by
  rw [← allW_map n, List.countP_map]
  refine List.countP_congr fun l hl => ?_
  have hn := allW_len hl
  obtain ⟨h1, -, -⟩ := pdr_end h l 0 1 (by omega)
  rw [hn, Nat.one_mul] at h1
  simp only [Function.comp, h1]

theorem fstI_spec {p : Nat → Bool} {n i : Nat} (h : fstI p n = i) (hi : i < n) : p i = true ∧ ∀ j, j < i → p j = false := by
  unfold fstI at h
  subst h
  have hl : (List.range n).findIdx p < (List.range n).length := by simpa using hi
  constructor
  · have := List.findIdx_getElem (p := p) (w := hl)
    simpa using this
  · intro j hj
    have := List.not_of_lt_findIdx hj
    simpa using this

/-- When a cell decides an index. -/
theorem pkF_iff {ws : List Nat} {k t i : Nat} (hS : 0 < ws.sum) : pkF ws k t = (i, true) ↔ i < ws.length ∧ pre ws i * t ≤ k * ws.sum ∧ k * ws.sum + ws.sum ≤ pre ws (i + 1) * t := by
  constructor
  · intro h
    unfold pkF at h
    simp only [Prod.mk.injEq, Bool.and_eq_true, decide_eq_true_eq] at h
    obtain ⟨h1, h2, h3⟩ := h
    rw [h1] at h2 h3
    obtain ⟨h4, h5⟩ := fstI_spec h1 h2
    refine ⟨h2, ?_, h3⟩
    cases i with
    | zero => rw [pre_zero]; omega
    | succ j =>
      have := h5 j (by omega)
      simpa using this
  · rintro ⟨h1, h2, h3⟩
    have e : fstI (fun i => decide (k * ws.sum < pre ws (i + 1) * t)) ws.length = i := by
      refine fstI_eq (by omega) (fun x hx => ?_) (fun _ => ?_)
      · have := Nat.mul_le_mul_right t (pre_mono ws (show x + 1 ≤ i by omega))
        simp only [decide_eq_false_iff_not, Nat.not_lt]
        omega
      · simp only [decide_eq_true_eq]; omega
    unfold pkF
    simp only [e, decide_eq_true h1, decide_eq_true h3, Bool.and_self]

theorem pkF_nest {ws : List Nat} (hS : 0 < ws.sum) : Nest (pkF ws) := by
  intro k t i b hk hb h
  rw [pkF_iff hS] at h ⊢
  obtain ⟨h1, h2, h3⟩ := h
  have e1 : ∀ x : Nat, x * (t + t) = x * t + x * t := fun x => by rw [Nat.mul_add]
  have e2 : (k + k + b) * ws.sum = k * ws.sum + k * ws.sum + b * ws.sum := by rw [Nat.add_mul, Nat.add_mul]
  have e3 : b * ws.sum ≤ ws.sum := by
    rcases (show b = 0 ∨ b = 1 by omega) with rfl | rfl <;> omega
  rw [e1, e1, e2]
  exact ⟨h1, by omega, by omega⟩

theorem cntF_iff {ws : List Nat} {k t i : Nat} (hS : 0 < ws.sum) : cntF ws t i ≤ k ↔ pre ws i * t ≤ k * ws.sum := by
  unfold cntF
  obtain ⟨a, ha⟩ : ∃ a, pre ws i * t = a := ⟨_, rfl⟩
  rw [ha]
  have h1 := Nat.div_add_mod a ws.sum
  have h2 := Nat.mod_lt a hS
  rw [Nat.mul_comm k]
  by_cases h0 : a % ws.sum = 0
  · rw [if_neg (by simpa using h0), Nat.add_zero]
    constructor
    · intro h
      have := Nat.mul_le_mul_left ws.sum h
      omega
    · intro h
      rcases Nat.lt_or_ge k (a / ws.sum) with h3 | h3
      · have := Nat.mul_le_mul_left ws.sum (show k + 1 ≤ a / ws.sum from h3)
        rw [Nat.mul_add, Nat.mul_one] at this
        omega
      · exact h3
  · rw [if_pos h0]
    constructor
    · intro h
      have := Nat.mul_le_mul_left ws.sum h
      rw [Nat.mul_add, Nat.mul_one] at this
      omega
    · intro h
      rcases Nat.lt_or_ge (a / ws.sum) k with h3 | h3
      · exact h3
      · have := Nat.mul_le_mul_left ws.sum h3
        omega
theorem cntE_iff {ws : List Nat} {k t i : Nat} (hS : 0 < ws.sum) : k + 1 ≤ cntE ws t i ↔ k * ws.sum + ws.sum ≤ pre ws (i + 1) * t := by
  unfold cntE
  rw [Nat.le_div_iff_mul_le hS, Nat.add_mul, Nat.one_mul]
theorem cntE_fit {ws : List Nat} (t i : Nat) (hS : 0 < ws.sum) : cntE ws t i ≤ t := by
  unfold cntE
  refine Nat.div_le_of_le_mul ?_
  exact Nat.mul_le_mul_right _ (pre_sum ws (i + 1))

theorem countP_range (a b : Nat) : ∀ t, (List.range t).countP (fun k => decide (a ≤ k ∧ k + 1 ≤ b)) = min b t - a
  | 0 => by simp
  | t + 1 => by
    rw [List.range_succ, List.countP_append, countP_range a b t]
    simp only [List.countP_cons, List.countP_nil, decide_eq_true_eq]
    split <;> omega

/-- So many words draw an index. -/
theorem pick_count {ws : List Nat} (hS : 0 < ws.sum) (n : Nat) {i : Nat} (hi : i < ws.length) : (allW n).countP (drawsI (pkF ws) i) = cnt ws (2 ^ n) i := by
  rw [draws_count (pkF_nest hS), cnt]
  have e : (fun k => decide (pkF ws k (2 ^ n) = (i, true))) = fun k => decide (cntF ws (2 ^ n) i ≤ k ∧ k + 1 ≤ cntE ws (2 ^ n) i) := by
    funext k
    rw [decide_eq_decide, pkF_iff hS, cntF_iff hS, cntE_iff hS]
    exact ⟨fun h => h.2, fun h => ⟨hi, h⟩⟩
  rw [e, countP_range]
  have := cntE_fit (ws := ws) (2 ^ n) i hS
  omega


/-- The sum of some numbers. -/
def sumN (c : Nat → Nat) : Nat → Nat
  | 0 => 0
  | i + 1 => sumN c i + c i
theorem sumN_lwS (ws : List Nat) (t : Nat) : ∀ N, lwS ws t N = sumN (cnt ws t) N
  | 0 => rfl
  | N + 1 => by rw [lwS, sumN, sumN_lwS ws t N]
theorem sumN_congr {c d : Nat → Nat} : ∀ {N : Nat}, (∀ i, i < N → c i = d i) → sumN c N = sumN d N
  | 0, _ => rfl
  | N + 1, h => by rw [sumN, sumN, sumN_congr (fun i hi => h i (by omega)), h N (by omega)]
theorem sumN_add (c d : Nat → Nat) : ∀ N, sumN (fun i => c i + d i) N = sumN c N + sumN d N
  | 0 => rfl
  | N + 1 => by rw [sumN, sumN, sumN, sumN_add c d N]; omega
theorem sumN_zero : ∀ N, sumN (fun _ => 0) N = 0
  | 0 => rfl
  | N + 1 => by rw [sumN, sumN_zero N]
theorem sumN_one (j : Nat) : ∀ N, sumN (fun i => if j = i then 1 else 0) N = if j < N then 1 else 0
  | 0 => by simp [sumN]
  | N + 1 => by
    rw [sumN, sumN_one j N]
    by_cases h1 : j < N
    · rw [if_pos h1, if_neg (by omega), if_pos (by omega)]
    · rw [if_neg h1]
      by_cases h2 : j = N
      · rw [if_pos h2, if_pos (by omega)]
      · rw [if_neg h2, if_neg (by omega)]

/-- Each result is counted once. -/
theorem count_all {α : Type} (g : α → Bool × Nat) (N : Nat) : ∀ L : List α, (∀ x ∈ L, (g x).1 = true → (g x).2 < N) → sumN (fun i => L.countP (fun x => (g x).1 && decide ((g x).2 = i))) N + L.countP (fun x => !(g x).1) = L.length
  | [], _ => by simp [sumN_zero]
  | x :: r, h => by
    have ih := count_all g N r (fun y hy => h y (List.mem_cons_of_mem _ hy))
    simp only [List.countP_cons]
    rw [sumN_add, List.length_cons]
    cases hx : (g x).1
    · simp only [Bool.false_and, Bool.not_false, if_true]
      rw [show sumN (fun i => if false = true then 1 else 0) N = 0 by simpa using sumN_zero N]
      omega
    · have h1 := h x (List.mem_cons_self ..) hx
      simp only [Bool.true_and, decide_eq_true_eq]
      rw [sumN_one, if_pos h1]
      simp
      omega

/-- What remains is late. -/
theorem pick_late {ws : List Nat} (hS : 0 < ws.sum) (n : Nat) : (allW n).countP (fun l => !(pdr (pkF ws) 0 1 l).1) = 2 ^ n - lwS ws (2 ^ n) ws.length := by
  have h := count_all (fun l => ((pdr (pkF ws) 0 1 l).1, (pdr (pkF ws) 0 1 l).2.1)) ws.length (allW n) (fun l hl hd => by
    obtain ⟨h1, h2, -⟩ := pdr_end (pkF_nest hS) l 0 1 (by omega)
    dsimp only at hd ⊢
    rw [h2 hd]
    have e : pkF ws (bvL l 0) (1 * 2 ^ l.length) = ((pkF ws (bvL l 0) (1 * 2 ^ l.length)).1, true) := by rw [← hd, h1]
    exact ((pkF_iff hS).1 e).1)
  have h2 : sumN (fun i => (allW n).countP (drawsI (pkF ws) i)) ws.length + (allW n).countP (fun l => !(pdr (pkF ws) 0 1 l).1) = (allW n).length := h
  rw [allW_length, sumN_congr (d := cnt ws (2 ^ n)) (fun i hi => pick_count hS n hi), ← sumN_lwS] at h2
  omega
end Go.Proofs.YtpehhgkghgbhiaaGreatDoor

/- Plain: how near the law's shares come to the exact ones. -/
namespace Go.Proofs.YtpehhgkghgbhiaaGreatDoor
open Go.RowKit
set_option linter.unusedVariables false

theorem cntF_mul {ws : List Nat} (t i : Nat) (hS : 0 < ws.sum) : pre ws i * t ≤ cntF ws t i * ws.sum ∧ cntF ws t i * ws.sum < pre ws i * t + ws.sum := by
  unfold cntF
  obtain ⟨a, ha⟩ : ∃ a, pre ws i * t = a := ⟨_, rfl⟩
  rw [ha]
  have h1 := Nat.div_add_mod a ws.sum
  have h2 := Nat.mod_lt a hS
  by_cases h0 : a % ws.sum = 0
  · rw [if_neg (by simpa using h0), Nat.add_zero, Nat.mul_comm]
    omega
  · rw [if_pos h0, Nat.add_mul, Nat.one_mul, Nat.mul_comm]
    omega
theorem cntE_mul {ws : List Nat} (t i : Nat) (hS : 0 < ws.sum) : cntE ws t i * ws.sum ≤ pre ws (i + 1) * t ∧ pre ws (i + 1) * t < cntE ws t i * ws.sum + ws.sum := by
  unfold cntE
  obtain ⟨a, ha⟩ : ∃ a, pre ws (i + 1) * t = a := ⟨_, rfl⟩
  rw [ha]
  have h1 := Nat.div_add_mod a ws.sum
  have h2 := Nat.mod_lt a hS
  rw [Nat.mul_comm (a / ws.sum)]
  omega

theorem cnt_below {ws : List Nat} (t : Nat) {i x : Nat} (hS : 0 < ws.sum) (hx : ws[i]? = some x) : cnt ws t i * ws.sum ≤ x * t := by
  obtain ⟨f1, f2⟩ := cntF_mul t i hS
  obtain ⟨e1, e2⟩ := cntE_mul t i hS
  have hp := pre_succ hx
  rw [hp, Nat.add_mul] at e1 e2
  unfold cnt
  rcases Nat.lt_or_ge (cntF ws t i) (cntE ws t i) with h | h
  · rw [Nat.sub_mul]; omega
  · rw [Nat.sub_eq_zero_of_le h, Nat.zero_mul]; exact Nat.zero_le _
theorem cnt_near {ws : List Nat} (t : Nat) {i x : Nat} (hS : 0 < ws.sum) (hx : ws[i]? = some x) : x * t < (cnt ws t i + 2) * ws.sum := by
  obtain ⟨f1, f2⟩ := cntF_mul t i hS
  obtain ⟨e1, e2⟩ := cntE_mul t i hS
  have hp := pre_succ hx
  rw [hp, Nat.add_mul] at e1 e2
  unfold cnt
  rw [Nat.add_mul]
  rcases Nat.lt_or_ge (cntF ws t i) (cntE ws t i) with h | h
  · rw [Nat.sub_mul]; omega
  · rw [Nat.sub_eq_zero_of_le h, Nat.zero_mul]
    have := Nat.mul_le_mul_right ws.sum h
    omega

/-- How many of the first i weights are not 0. -/
def nzW (ws : List Nat) : Nat → Nat
  | 0 => 0
  | i + 1 => nzW ws i + (if ws.getD i 0 ≠ 0 then 1 else 0)
theorem nzW_le (ws : List Nat) : ∀ i, nzW ws i ≤ i
  | 0 => Nat.le_refl _
  | i + 1 => by have := nzW_le ws i; unfold nzW; split <;> omega
theorem pre_step (ws : List Nat) (i : Nat) : pre ws (i + 1) = pre ws i + ws.getD i 0 := by
  cases h : ws[i]? with
  | some x => rw [pre_succ h, List.getD_eq_getElem?_getD, h]; rfl
  | none =>
    have hl := List.getElem?_eq_none_iff.1 h
    rw [List.getD_eq_getElem?_getD, h]
    unfold pre
    rw [List.take_of_length_le hl, List.take_of_length_le (by omega)]
    rfl
theorem cnt_zero {ws : List Nat} (t : Nat) {i : Nat} (hS : 0 < ws.sum) (h : ws.getD i 0 = 0) : cnt ws t i = 0 := by
  obtain ⟨f1, f2⟩ := cntF_mul t i hS
  obtain ⟨e1, e2⟩ := cntE_mul t i hS
  rw [pre_step, h, Nat.add_zero] at e1 e2
  unfold cnt
  rcases Nat.lt_or_ge (cntF ws t i) (cntE ws t i) with h1 | h1
  · have := Nat.mul_le_mul_right ws.sum (show cntF ws t i + 1 ≤ cntE ws t i from h1)
    rw [Nat.add_mul, Nat.one_mul] at this
    omega
  · omega

theorem late_steps {ws : List Nat} (t : Nat) (hS : 0 < ws.sum) : ∀ i, (nzW ws i = 0 → pre ws i = 0 ∧ lwS ws t i = 0) ∧ (nzW ws i ≠ 0 → pre ws i * t / ws.sum + 1 ≤ lwS ws t i + nzW ws i)
  | 0 => ⟨fun _ => ⟨rfl, rfl⟩, fun h => absurd rfl h⟩
  | i + 1 => by
    obtain ⟨a1, a2⟩ := late_steps t hS i
    have hE : pre ws (i + 1) * t / ws.sum = cntE ws t i := rfl
    by_cases h0 : ws.getD i 0 = 0
    · have e1 : nzW ws (i + 1) = nzW ws i := by rw [nzW, if_neg (by simpa using h0)]; rfl
      have e2 : pre ws (i + 1) = pre ws i := by rw [pre_step, h0]; rfl
      have e3 : lwS ws t (i + 1) = lwS ws t i := by rw [lwS, cnt_zero t hS h0]; rfl
      rw [e1, e2, e3]
      exact ⟨a1, a2⟩
    · have e1 : nzW ws (i + 1) = nzW ws i + 1 := by rw [nzW, if_pos h0]
      refine ⟨fun h => by omega, fun _ => ?_⟩
      rw [e1, hE, lwS]
      by_cases h1 : nzW ws i = 0
      · obtain ⟨p0, l0⟩ := a1 h1
        have f0 : cntF ws t i = 0 := by unfold cntF; rw [p0]; simp
        unfold cnt
        rw [f0, l0, h1]
        omega
      · have b := a2 h1
        have f0 : cntF ws t i ≤ pre ws i * t / ws.sum + 1 := by unfold cntF; split <;> omega
        unfold cnt
        omega

/-- At most one cell less than there are weights that are not 0 is late. -/
theorem late_few {ws : List Nat} (t : Nat) (hS : 0 < ws.sum) : 0 < nzW ws ws.length ∧ t - lwS ws t ws.length ≤ nzW ws ws.length - 1 := by
  obtain ⟨a1, a2⟩ := late_steps t hS ws.length
  have hp : pre ws ws.length = ws.sum := pre_all (Nat.le_refl _)
  have h0 : nzW ws ws.length ≠ 0 := fun e => by
    have := (a1 e).1
    rw [hp] at this
    omega
  have h2 := a2 h0
  rw [hp, Nat.mul_div_cancel_left _ hS] at h2
  exact ⟨by omega, by omega⟩
end Go.Proofs.YtpehhgkghgbhiaaGreatDoor

/- Plain words: signs of rational numbers, their order. -/
namespace Go.Proofs.YtpehhgkghgbhiaaGreatDoor
open Go.RowKit
open Go.Lib (decDigits nDigits)
set_option linter.unusedVariables false

theorem op2_err {f : Rat → Rat → Rat} {s t : ByteArray} (h0 : ¬ (qE s = 0 ∧ qE t = 0)) : (if qE s = 0 then qE t else qE s) ≠ 0 ∧ op2B f s t = ⟨#[]⟩ ∧ op2E f s t = (if qE s = 0 then qE t else qE s) := by
  refine ⟨?_, by rw [op2B, if_neg h0], ?_⟩
  · split
    · rename_i h; exact fun e => h0 ⟨h, e⟩
    · rename_i h; exact h
  · rw [op2E]
    split
    · rename_i h; rw [if_neg (fun e => h0 ⟨h, e⟩)]
    · rfl

/-- The sign of a number, of a difference. -/
def sgnQ (q : Rat) : Int := if q.num = 0 then 0 else if q.num < 0 then -1 else 1
def ordQ (p q : Rat) : Int := sgnQ (p - q)
def sgB (s : ByteArray) : Int := if qE s = 0 then sgnQ (vQ s) else 0
def cmB (s t : ByteArray) : Int := if qE s = 0 ∧ qE t = 0 then ordQ (vQ s) (vQ t) else 0
def cmE (s t : ByteArray) : Int := if qE s = 0 then qE t else qE s

theorem limbs_none {n : Nat} : (limbs n).length = 0 ↔ n = 0 := by
  constructor
  · intro h
    have h2 : limbs n = limbs 0 := by rw [List.eq_nil_of_length_eq_zero h, limbs_zero]
    exact limbs_inj h2
  · rintro rfl; rw [limbs_zero]; rfl
end Go.Proofs.YtpehhgkghgbhiaaGreatDoor

/- Plain: fractions with a given denominator: their signs, order, sums; their texts. -/
namespace Go.Proofs.YtpehhgkghgbhiaaGreatDoor
open Go.RowKit
open Go.Lib (decDigits nDigits)
set_option linter.unusedVariables false

/-- The sign of an integer. -/
def sgnZ (z : Int) : Int := if z = 0 then 0 else if z < 0 then -1 else 1
theorem mk_num_zero {z : Int} {d : Nat} (hd : d ≠ 0) : (mkRat z d).num = 0 ↔ z = 0 := by
  rw [Rat.num_mkRat, if_neg hd]
  have hg : (0 : Int) < (Nat.gcd d z.natAbs : Nat) := by
    have := Nat.gcd_pos_of_pos_left z.natAbs (Nat.pos_of_ne_zero hd)
    omega
  have hdv : ((Nat.gcd d z.natAbs : Nat) : Int) ∣ z := Int.ofNat_dvd_left.2 (Nat.gcd_dvd_right _ _)
  constructor
  · intro h
    have := Int.ediv_mul_cancel hdv
    rw [h, Int.zero_mul] at this
    exact this.symm
  · rintro rfl; simp
theorem mk_num_neg {z : Int} {d : Nat} (hd : d ≠ 0) : (mkRat z d).num < 0 ↔ z < 0 := by
  rw [Rat.num_mkRat, if_neg hd]
  have hg : (0 : Int) < (Nat.gcd d z.natAbs : Nat) := by
    have := Nat.gcd_pos_of_pos_left z.natAbs (Nat.pos_of_ne_zero hd)
    omega
  constructor
  · intro h
    rcases Int.lt_or_le z 0 with h1 | h1
    · exact h1
    · have := Int.ediv_nonneg h1 (Int.le_of_lt hg)
      omega
  · intro h
    exact Int.ediv_neg_of_neg_of_pos h hg
theorem sgnQ_mk {z : Int} {d : Nat} (hd : d ≠ 0) : sgnQ (mkRat z d) = sgnZ z := by
  unfold sgnQ sgnZ
  by_cases h : z = 0
  · rw [if_pos ((mk_num_zero hd).2 h), if_pos h]
  · rw [if_neg (fun e => h ((mk_num_zero hd).1 e)), if_neg h]
    by_cases h2 : z < 0
    · rw [if_pos ((mk_num_neg hd).2 h2), if_pos h2]
    · rw [if_neg (fun e => h2 ((mk_num_neg hd).1 e)), if_neg h2]
theorem mk_sub {a c : Int} {b d : Nat} (hb : b ≠ 0) (hd : d ≠ 0) : mkRat a b - mkRat c d = mkRat (a * d - c * b) (b * d) := by
  rw [Rat.sub_eq_add_neg, Rat.neg_mkRat, Rat.mkRat_add_mkRat _ _ hb hd, Int.neg_mul, Int.sub_eq_add_neg]
theorem ordQ_mk {a c : Int} {b d : Nat} (hb : b ≠ 0) (hd : d ≠ 0) : ordQ (mkRat a b) (mkRat c d) = sgnZ (a * d - c * b) := by
  unfold ordQ
  rw [mk_sub hb hd, sgnQ_mk (Nat.mul_ne_zero hb hd)]
theorem mk_add_same {a c : Int} {b : Nat} (hb : b ≠ 0) : mkRat a b + mkRat c b = mkRat (a + c) b := by
  rw [Rat.mkRat_add_mkRat _ _ hb hb, ← Int.add_mul]
  exact Rat.mkRat_mul_right hb
theorem mk_half_pow : ∀ n : Nat, (mkRat 1 2 : Rat) ^ n = mkRat 1 (2 ^ n)
  | 0 => by rw [Rat.pow_zero]; rfl
  | n + 1 => by rw [Rat.pow_succ, mk_half_pow n, Rat.mkRat_mul_mkRat, Nat.pow_succ]; rfl
theorem qmk_nat (a b : Nat) : qmk false a b = mkRat (a : Int) b := by unfold qmk sgn; rfl

/-- A fraction of few digits. -/
theorem dig_frac {K : Nat} {z : Int} {d : Nat} (hd : d ≠ 0) (h1 : nDigits z.natAbs ≤ K) (h2 : nDigits d ≤ K) : Dig K (mkRat z d) :=
  dig_mk (Nat.pos_of_ne_zero hd) (Nat.lt_of_lt_of_le (Go.Lib.lt_pow_nDigits _) (Nat.pow_le_pow_right (by omega) h1)) (Nat.lt_of_lt_of_le (Go.Lib.lt_pow_nDigits _) (Nat.pow_le_pow_right (by omega) h2))
theorem shB_tx {a b : Nat} (hb : b ≠ 0) (h1 : nDigits a ≤ 4000) (h2 : nDigits b ≤ 4000) : shB a b = txQ (mkRat (a : Int) b) := by
  unfold shB
  rw [qmk_nat]
  exact outB_fits ((dig_frac hb (by simpa using h1) h2).fits (by omega) (by omega))
theorem numB_tx (k : Nat) : numB k = txQ (mkRat (k : Int) 1) := by
  have e : (mkRat (k : Int) 1 : Rat) = ((k : Int) : Rat) := by rw [Rat.mkRat_one]
  apply ba_ext
  rw [e, txQ, txB_list, numB_list]
  have : ¬ ((k : Int) < 0) := by omega
  simp [this]
theorem op2_txt {f : Rat → Rat → Rat} {p q : Rat} (hp : ¬ ovQ p) (hq : ¬ ovQ q) (h : ¬ ovQ (f p q)) : op2B f (txQ p) (txQ q) = txQ (f p q) ∧ op2E f (txQ p) (txQ q) = 0 := by
  have h1 := qE_txQ hp
  have h2 := qE_txQ hq
  refine ⟨?_, ?_⟩
  · rw [op2B, if_pos ⟨h1, h2⟩, vQ_txQ, vQ_txQ, outB_fits h]
  · rw [op2E, if_pos h1, if_pos h2, vQ_txQ, vQ_txQ, outE_fits h]
theorem sg_txt {q : Rat} (h : ¬ ovQ q) : sgB (txQ q) = sgnQ q ∧ qE (txQ q) = 0 := by
  have h1 := qE_txQ h
  exact ⟨by rw [sgB, if_pos h1, vQ_txQ], h1⟩
theorem cm_txt {p q : Rat} (hp : ¬ ovQ p) (hq : ¬ ovQ q) : cmB (txQ p) (txQ q) = ordQ p q ∧ cmE (txQ p) (txQ q) = 0 := by
  have h1 := qE_txQ hp
  have h2 := qE_txQ hq
  exact ⟨by rw [cmB, if_pos ⟨h1, h2⟩, vQ_txQ, vQ_txQ], by rw [cmE, if_pos h1, h2]⟩
theorem tx_size {q : Rat} (h : ¬ ovQ q) : (txQ q).size ≤ 10000 := by
  have := outB_size q
  rwa [outB_fits h] at this
end Go.Proofs.YtpehhgkghgbhiaaGreatDoor

/- Walks: law05.value; what it finds in the law and in the exact distribution. -/
namespace Go.Proofs.YtpehhgkghgbhiaaGreatDoor
open Go.RowKit Go.Shelf
open Go.Lib (decDigits nDigits)
set_option linter.unusedVariables false
set_option linter.unusedSimpArgs false

/-- The probability that stands at a key, or "0". -/
def valM (L : List (ByteArray × ByteArray)) (k : ByteArray) : ByteArray := ((L.find? fun p => decide (p.1 = k)).map (·.2)).getD ⟨#[48]⟩
theorem valM_none {L : List (ByteArray × ByteArray)} {k : ByteArray} (h : ∀ p ∈ L, p.1 ≠ k) : valM L k = ⟨#[48]⟩ := by
  unfold valM
  rw [List.find?_eq_none.2 (fun p hp => by simpa using h p hp)]
  rfl
theorem valM_some {L : List (ByteArray × ByteArray)} {k v : ByteArray} (hm : (k, v) ∈ L) (nd : (L.map keyL).Nodup) : valM L k = v := by
  unfold valM
  cases hf : L.find? (fun p => decide (p.1 = k)) with
  | none =>
    have := List.find?_eq_none.1 hf (k, v) hm
    simp at this
  | some p =>
    have h1 := List.mem_of_find?_eq_some hf
    have h2 : p.1 = k := by simpa using List.find?_some hf
    obtain ⟨i, hi, e1⟩ := List.getElem_of_mem h1
    obtain ⟨j, hj, e2⟩ := List.getElem_of_mem hm
    have e : i = j := by
      rcases Nat.lt_trichotomy i j with h | h | h
      · have := List.pairwise_iff_getElem.1 nd i j (by simpa using hi) (by simpa using hj) h
        simp only [List.getElem_map, e1, e2, keyL, h2, ne_eq, not_true_eq_false] at this
      · exact h
      · have := List.pairwise_iff_getElem.1 nd j i (by simpa using hj) (by simpa using hi) h
        simp only [List.getElem_map, e1, e2, keyL, h2, ne_eq, not_true_eq_false] at this
    subst e
    rw [e1] at e2
    subst e2
    rfl
theorem sortM_nd {L : List (ByteArray × ByteArray)} (nd : (L.map keyL).Nodup) : ((sortM L).map keyL).Nodup := (((List.mergeSort_perm L _).map keyL).nodup_iff).2 nd

theorem numB_inj {i j : Nat} (h : numB i = numB j) : i = j := by rw [← bN_num i, h, bN_num]

theorem val_law {ws : List Nat} {t N i : Nat} (hi : i < N) : valM (sortM (lawP ws t N)) (numB i) = shB (cnt ws t i) t := by
  by_cases h : cntF ws t i < cntE ws t i
  · refine valM_some (sortM_mem.2 ?_) (sortM_nd (reads_lawM (H := Unit) ws t N).nd)
    have : (numB i, shB (cnt ws t i) t) ∈ lawL ws t N := lawL_mem.2 ⟨i, hi, h, rfl⟩
    unfold lawP
    split
    · exact this
    · exact List.mem_append_left _ this
  · have e : cnt ws t i = 0 := by unfold cnt; omega
    rw [e, shB_zero]
    refine valM_none fun p hp e2 => ?_
    rw [sortM_mem] at hp
    unfold lawP at hp
    have h1 : p ∈ lawL ws t N → False := fun hp => by
      obtain ⟨j, -, h3, rfl⟩ := lawL_mem.1 hp
      have := numB_inj e2
      subst this
      exact h h3
    split at hp
    · exact h1 hp
    · rcases List.mem_append.1 hp with hp | hp
      · exact h1 hp
      · simp at hp
        subst hp
        exact numB_late i (congrArg (fun b => b.data.toList) e2.symm)
theorem val_late (ws : List Nat) (t N : Nat) : valM (sortM (lawP ws t N)) lateB = shB (t - lwS ws t N) t := by
  by_cases h : t - lwS ws t N = 0
  · rw [h, shB_zero]
    exact valM_none fun p hp => lawP_late.2 h p (sortM_mem.1 hp)
  · exact valM_some (sortM_mem.2 (lawP_late.1 h)) (sortM_nd (reads_lawM (H := Unit) ws t N).nd)
theorem val_exact {ws : List Nat} {S N i : Nat} (hi : i < N) : valM (sortM (exL ws S N)) (numB i) = shB (ws.getD i 0) S := by
  by_cases h : ws.getD i 0 = 0
  · rw [h, shB_zero]
    refine valM_none fun p hp e2 => ?_
    rw [sortM_mem] at hp
    obtain ⟨j, -, h3, rfl⟩ := exL_mem.1 hp
    have := numB_inj e2
    subst this
    exact h3 h
  · exact valM_some (sortM_mem.2 (exL_mem.2 ⟨i, hi, h, rfl⟩)) (sortM_nd (reads_exD (H := Unit) ws S N).nd)

set_option maxRecDepth 100000 in
set_option maxHeartbeats 1000000 in
theorem w_value (w : World) (v : Value) (L : List (ByteArray × ByteArray)) (k : ByteArray) (hv : MRow w v L) :
    Calls Tryz.prog 13 #[v, .string k] w fun e w' => e = .returned (.string (valM L k)) ∧ w = w' := by
  obtain ⟨a, c, rfl, h1, h2, h3⟩ := hv.ex
  obtain ⟨n, hn⟩ : ∃ n, L.length = n := ⟨_, rfl⟩
  rw [hn] at h1 ⊢
  have H3 := hid h3; have HN := hid hn
  clear hv h3 hn
  go_enter Tryz.func13, Tryz.ntmps13
  go_wp2_with fail
  go_loop [5] (fun ii => ∃ i : Nat, ii = .int .i64 (i : Nat) ∧ i ≤ n ∧ Hid (valM L k = valM (L.drop i) k)) (fun ii => n - (intOf ii).toNat)
  case atStart => exact ⟨0, rfl, Nat.zero_le _, rfl⟩
  case round =>
    obtain ⟨i, rfl, hi, hI⟩ := hrel
    by_cases hlt : i < n
    · obtain ⟨p, hp⟩ : ∃ x, L[i]? = some x := ⟨_, List.getElem?_eq_getElem (by rw [HN.out]; exact hlt)⟩
      obtain ⟨g, o, rfl, hg, m1, m2⟩ := H3.out i p hp
      have hd : L.drop i = p :: L.drop (i + 1) := by
        obtain ⟨h, rfl⟩ := List.getElem?_eq_some_iff.1 hp
        exact List.drop_eq_getElem_cons h
      obtain ⟨x1, x2⟩ := p
      dsimp only at m1 m2
      rw [Nat.mul_comm 2 i] at m1 m2
      have b1 : (0 : Int) ≤ (i : Int) := by omega
      have b2 : (i : Int) < (n : Int) := by omega
      have wi : IntKind.i64.wrap ((i : Int) + 1) = (i : Int) + 1 := by rw [IntWalk.i64_in _ ⟨by omega, by omega⟩]
      by_cases he : x1 = k
      · subst he
        have hR : valM L x1 = x2 := by rw [hI.out, hd, valM, List.find?_cons_of_pos (by simp)]; rfl
        have HR := hid hR
        clear hp hg hd hR
        go_wp2_with fail
        go_ret
        exact ⟨by rw [HR.out]; rfl, rfl⟩
      · have hR : Hid (valM L k = valM (L.drop (i + 1)) k) := by show valM L k = _; rw [hI.out, hd, valM, List.find?_cons_of_neg (by simpa using he)]; rfl
        have n1 : (x1.toList == k.toList) = false := by rw [beq_eq_false_iff_ne]; exact ne_tl he
        clear hp hg hd he
        go_wp2_with fail
        go_round
        case rel => exact ⟨i + 1, by go_num, by omega, hR⟩
        case measure => simp [intOf] <;> omega
    · obtain rfl : i = n := by omega
      have q1 : decide ((i : Int) < (i : Int)) = false := by simp
      have hR : valM L k = ⟨#[48]⟩ := by rw [hI.out, List.drop_of_length_le (by rw [HN.out]; exact Nat.le_refl _)]; rfl
      have HR := hid hR
      clear hlt hR
      go_wp2_with fail
      go_ret
      exact ⟨by rw [HR.out]; rfl, rfl⟩
end Go.Proofs.YtpehhgkghgbhiaaGreatDoor

/- Plain: the texts that the law PickNear meets. -/
namespace Go.Proofs.YtpehhgkghgbhiaaGreatDoor
open Go.RowKit
open Go.Lib (decDigits nDigits)
set_option linter.unusedVariables false

/-- The weights of the law: at most 64, of at most 300 digits, not all 0. -/
structure Few (ws : List Nat) : Prop where
  len : ws.length ≤ 64
  dig : ∀ x ∈ ws, nDigits x ≤ 300
  pos : 0 < ws.sum
theorem Few.sum {ws : List Nat} (h : Few ws) : nDigits ws.sum ≤ 302 := nd_sum h.dig (by have := h.len; omega)
theorem Few.pre {ws : List Nat} (h : Few ws) (i : Nat) : nDigits (pre ws i) ≤ 302 := nd_pre i h.sum
theorem Few.at {ws : List Nat} (h : Few ws) (i : Nat) : nDigits (ws.getD i 0) ≤ 300 := by
  cases hx : ws[i]? with
  | some x => rw [List.getD_eq_getElem?_getD, hx]; exact h.dig x (List.mem_of_getElem? hx)
  | none => rw [List.getD_eq_getElem?_getD, hx]; exact Nat.le_trans (by rw [show (none : Option Nat).getD 0 = 0 from rfl, nDigits_zero]; exact Nat.le_refl 1) (by omega)
theorem Few.cnt {ws : List Nat} (h : Few ws) {m : Nat} (hm : m ≤ 256) (i : Nat) : nDigits (cnt ws (2 ^ m) i) ≤ 300 := by
  have h1 := nDigits_mono (Nat.le_trans (cnt_le ws (2 ^ m) i h.pos) (Nat.sub_le _ _))
  have h2 := two_nd (u := m) (by omega)
  omega
theorem two_ne (m : Nat) : 2 ^ m ≠ 0 := Nat.ne_of_gt (Nat.pow_pos (by omega))

/-- A share of the exact distribution, one of the law, what lies between, what has been added up. -/
def exQ (ws : List Nat) (i : Nat) : Rat := mkRat (ws.getD i 0 : Nat) ws.sum
def lwQ (ws : List Nat) (t i : Nat) : Rat := mkRat (cnt ws t i : Nat) t
def gapQ (ws : List Nat) (t i : Nat) : Rat := exQ ws i - lwQ ws t i
def totQ (ws : List Nat) (i : Nat) : Rat := mkRat (pre ws i : Nat) ws.sum
def szQ (t : Nat) : Rat := mkRat 1 t
def twQ (t : Nat) : Rat := mkRat 2 t

theorem frac_fits {K : Nat} {z : Int} {d : Nat} (hd : d ≠ 0) (h1 : nDigits z.natAbs ≤ K) (h2 : nDigits d ≤ K) (hk : K ≤ 4000) : ¬ ovQ (mkRat z d) := by
  have h := dig_frac hd h1 h2
  refine h.fits ?_ hk
  have := nd_pos d
  omega

theorem tw_dig {m : Nat} (hm : m ≤ 256) : Dig 302 (twQ (2 ^ m)) := dig_frac (two_ne m) (by rw [show (2 : Int).natAbs = 2 from rfl, Go.Lib.nDigits_small (by omega)]; omega) (by have := two_nd (u := m) (by omega); omega)
theorem int_less {x c S T : Nat} (hT : 0 < T) (h : x * T < (c + 2) * S) : sgnZ (((x : Int) * (T : Int) - (c : Int) * (S : Int)) * (T : Int) - 2 * ((S * T : Nat) : Int)) = -1 := by
  have h2 : ((x * T : Nat) : Int) < (((c + 2) * S : Nat) : Int) := Int.ofNat_lt.2 h
  rw [Int.natCast_mul, Int.natCast_mul, Int.natCast_add, Int.add_mul] at h2
  have e : ∀ A B D : Int, A * D - 2 * (B * D) = (A - 2 * B) * D := fun A B D => by rw [Int.sub_mul, Int.mul_assoc]
  rw [Int.natCast_mul, e]
  have h3 : (x : Int) * (T : Int) - (c : Int) * (S : Int) - 2 * (S : Int) < 0 := by
    have : ((2 : Nat) : Int) = 2 := rfl
    rw [this] at h2
    omega
  have h4 := Int.mul_neg_of_neg_of_pos h3 (show (0 : Int) < (T : Int) by omega)
  unfold sgnZ
  rw [if_neg (by omega), if_pos h4]

section
variable {ws : List Nat} {m : Nat} (h : Few ws) (hm : m ≤ 256)
include h
theorem ex_dig (i : Nat) : Dig 302 (exQ ws i) := dig_frac (by have := h.pos; omega) (by have := h.at i; simpa using (by omega : nDigits (ws.getD i 0) ≤ 302)) h.sum
theorem tot_dig (i : Nat) : Dig 302 (totQ ws i) := dig_frac (by have := h.pos; omega) (by simpa using h.pre i) h.sum
theorem ex_tx (i : Nat) : shB (ws.getD i 0) ws.sum = txQ (exQ ws i) := shB_tx (by have := h.pos; omega) (by have := h.at i; omega) (by have := h.sum; omega)
theorem gap_mk {i : Nat} : gapQ ws (2 ^ m) i = mkRat ((ws.getD i 0 : Nat) * (2 ^ m : Nat) - (cnt ws (2 ^ m) i : Nat) * (ws.sum : Nat)) (ws.sum * 2 ^ m) := mk_sub (by have := h.pos; omega) (two_ne m)
include hm
theorem lw_dig (i : Nat) : Dig 302 (lwQ ws (2 ^ m) i) := dig_frac (two_ne m) (by have := h.cnt hm i; simpa using (by omega : nDigits (cnt ws (2 ^ m) i) ≤ 302)) (by have := two_nd (u := m) (by omega); omega)
theorem gap_dig (i : Nat) : Dig 605 (gapQ ws (2 ^ m) i) := dig_sub (ex_dig h i) (lw_dig h hm i)
theorem lw_tx (i : Nat) : shB (cnt ws (2 ^ m) i) (2 ^ m) = txQ (lwQ ws (2 ^ m) i) := shB_tx (two_ne m) (by have := h.cnt hm i; omega) (by have := two_nd (u := m) (by omega); omega)

theorem near_sub (i : Nat) : op2B (· - ·) (shB (ws.getD i 0) ws.sum) (shB (cnt ws (2 ^ m) i) (2 ^ m)) = txQ (gapQ ws (2 ^ m) i) ∧ op2E (· - ·) (shB (ws.getD i 0) ws.sum) (shB (cnt ws (2 ^ m) i) (2 ^ m)) = 0 := by
  rw [ex_tx h, lw_tx h hm]
  exact op2_txt ((ex_dig h i).fits (by omega) (by omega)) ((lw_dig h hm i).fits (by omega) (by omega)) ((gap_dig h hm i).fits (by omega) (by omega))
theorem near_sign {i : Nat} (hi : i < ws.length) : 0 ≤ sgB (txQ (gapQ ws (2 ^ m) i)) ∧ qE (txQ (gapQ ws (2 ^ m) i)) = 0 := by
  obtain ⟨e1, e2⟩ := sg_txt ((gap_dig h hm i).fits (by omega) (by omega))
  refine ⟨?_, e2⟩
  rw [e1, gap_mk h, sgnQ_mk (Nat.mul_ne_zero (by have := h.pos; omega) (two_ne m))]
  have hx : ws[i]? = some (ws.getD i 0) := by rw [List.getD_eq_getElem?_getD, List.getElem?_eq_getElem hi]; rfl
  have h1 := cnt_below (2 ^ m) h.pos hx
  have h2 : ((cnt ws (2 ^ m) i * ws.sum : Nat) : Int) ≤ ((ws.getD i 0 * 2 ^ m : Nat) : Int) := Int.ofNat_le.2 h1
  rw [Int.natCast_mul, Int.natCast_mul] at h2
  unfold sgnZ
  split
  · omega
  · split
    · omega
    · omega
theorem near_less {i : Nat} (hi : i < ws.length) : cmB (txQ (gapQ ws (2 ^ m) i)) (txQ (twQ (2 ^ m))) = -1 ∧ cmE (txQ (gapQ ws (2 ^ m) i)) (txQ (twQ (2 ^ m))) = 0 := by
  obtain ⟨e1, e2⟩ := cm_txt ((gap_dig h hm i).fits (by omega) (by omega)) ((tw_dig hm).fits (by omega) (by omega))
  refine ⟨?_, e2⟩
  rw [e1, gap_mk h]
  unfold twQ
  rw [ordQ_mk (Nat.mul_ne_zero (by have := h.pos; omega) (two_ne m)) (two_ne m)]
  have hx : ws[i]? = some (ws.getD i 0) := by rw [List.getD_eq_getElem?_getD, List.getElem?_eq_getElem hi]; rfl
  have h1 := cnt_near (2 ^ m) h.pos hx
  exact int_less (Nat.pow_pos (by omega)) h1
omit hm
theorem near_add {i : Nat} (hi : i < ws.length) : op2B (· + ·) (txQ (totQ ws i)) (shB (ws.getD i 0) ws.sum) = txQ (totQ ws (i + 1)) ∧ op2E (· + ·) (txQ (totQ ws i)) (shB (ws.getD i 0) ws.sum) = 0 := by
  have e : totQ ws i + exQ ws i = totQ ws (i + 1) := by
    unfold totQ exQ
    rw [mk_add_same (by have := h.pos; omega), pre_step, Int.natCast_add]
  rw [ex_tx h, ← e]
  exact op2_txt ((tot_dig h i).fits (by omega) (by omega)) ((ex_dig h i).fits (by omega) (by omega)) (by rw [e]; exact (tot_dig h (i + 1)).fits (by omega) (by omega))
theorem tot_end : txQ (totQ ws ws.length) = ⟨#[49]⟩ := by
  have e : totQ ws ws.length = mkRat ((1 : Nat) : Int) 1 := by
    unfold totQ
    rw [pre_all (Nat.le_refl _)]
    have := Rat.mkRat_mul_left (n := 1) (d := 1) (a := ws.sum) (by have := h.pos; omega)
    simpa using this
  rw [e, ← numB_tx, numB_one]
end

theorem tot_start (ws : List Nat) : txQ (totQ ws 0) = ⟨#[48]⟩ := by
  have e : totQ ws 0 = mkRat ((0 : Nat) : Int) 1 := by unfold totQ; rw [pre_zero]; simp
  rw [e, ← numB_tx, numB_zero]
theorem sz_dig {m : Nat} (hm : m ≤ 256) : Dig 302 (szQ (2 ^ m)) := dig_frac (two_ne m) (by rw [show (1 : Int).natAbs = 1 from rfl, nDigits_one]; omega) (by have := two_nd (u := m) (by omega); omega)
theorem half_tx : (⟨#[49, 47, 50]⟩ : ByteArray) = txQ (mkRat 1 2) := by
  apply ba_ext
  rw [txQ, txB_list]
  have e1 : (mkRat 1 2 : Rat).num = 1 := by decide +kernel
  have e2 : (mkRat 1 2 : Rat).den = 2 := by decide +kernel
  rw [e1, e2]
  simp [decDigits_small]
theorem half_fits : ¬ ovQ (mkRat 1 2) := frac_fits (K := 1) (by decide) (by rw [show (1 : Int).natAbs = 1 from rfl, nDigits_one]; omega) (by rw [Go.Lib.nDigits_small (by omega)]; omega) (by omega)
theorem half_ok : qE ⟨#[49, 47, 50]⟩ = 0 ∧ vQ ⟨#[49, 47, 50]⟩ = mkRat 1 2 ∧ 0 ≤ (mkRat 1 2 : Rat).num := by
  rw [half_tx]
  exact ⟨qE_txQ half_fits, vQ_txQ _, by decide +kernel⟩
theorem near_pow {m : Nat} (hm : m ≤ 256) : outB ((mkRat 1 2 : Rat) ^ m) = txQ (szQ (2 ^ m)) ∧ outE ((mkRat 1 2 : Rat) ^ m) = 0 := by
  rw [mk_half_pow]
  have f := (sz_dig hm).fits (by omega) (by omega)
  exact ⟨outB_fits f, outE_fits f⟩
theorem near_mul {m : Nat} (hm : m ≤ 256) {k : Nat} (hk : nDigits k ≤ 300) : op2B (· * ·) (numB k) (txQ (szQ (2 ^ m))) = txQ (mkRat (k : Nat) (2 ^ m)) ∧ op2E (· * ·) (numB k) (txQ (szQ (2 ^ m))) = 0 := by
  have e : (mkRat (k : Int) 1 : Rat) * szQ (2 ^ m) = mkRat (k : Nat) (2 ^ m) := by
    unfold szQ
    rw [Rat.mkRat_mul_mkRat, Int.mul_one, Nat.one_mul]
  have d1 : Dig 302 (mkRat (k : Int) 1) := dig_frac (by omega) (by simpa using (by omega : nDigits k ≤ 302)) (by rw [nDigits_one]; omega)
  rw [numB_tx, ← e]
  exact op2_txt (d1.fits (by omega) (by omega)) ((sz_dig hm).fits (by omega) (by omega)) ((dig_mul d1 (sz_dig hm)).fits (by omega) (by omega))
theorem near_late {m : Nat} (hm : m ≤ 256) {L k : Nat} (hL : L ≤ k) (hk : nDigits k ≤ 300) : cmB (shB L (2 ^ m)) (txQ (mkRat (k : Nat) (2 ^ m))) ≤ 0 ∧ cmE (shB L (2 ^ m)) (txQ (mkRat (k : Nat) (2 ^ m))) = 0 := by
  have nt := two_nd (u := m) (by omega)
  have hLd := nDigits_mono hL
  rw [shB_tx (two_ne m) (by omega) (by omega)]
  have f1 : ¬ ovQ (mkRat (L : Int) (2 ^ m)) := frac_fits (K := 302) (two_ne m) (by simpa using (by omega : nDigits L ≤ 302)) (by omega) (by omega)
  have f2 : ¬ ovQ (mkRat (k : Int) (2 ^ m)) := frac_fits (K := 302) (two_ne m) (by simpa using (by omega : nDigits k ≤ 302)) (by omega) (by omega)
  obtain ⟨e1, e2⟩ := cm_txt f1 f2
  refine ⟨?_, e2⟩
  rw [e1, ordQ_mk (two_ne m) (two_ne m)]
  have h1 : ((L * 2 ^ m : Nat) : Int) ≤ ((k * 2 ^ m : Nat) : Int) := Int.ofNat_le.2 (Nat.mul_le_mul_right _ hL)
  rw [Int.natCast_mul, Int.natCast_mul] at h1
  unfold sgnZ
  split
  · omega
  · split
    · omega
    · omega
end Go.Proofs.YtpehhgkghgbhiaaGreatDoor

/- Plain: probabilities of near utilities, compared as the law does it. -/
namespace Go.Proofs.YtpehhgkghgbhiaaGreatDoor
open Go.RowKit Go.Shelf
open Go.Lib (decDigits nDigits)
set_option linter.unusedVariables false

theorem sgnZ_le {z : Int} (h : z ≤ 0) : sgnZ z ≤ 0 := by
  unfold sgnZ
  split
  · omega
  · rw [if_pos (by omega)]; omega

theorem mk_pow (n d : Nat) : ∀ m : Nat, (mkRat (n : Int) d : Rat) ^ m = mkRat ((n ^ m : Nat) : Int) (d ^ m)
  | 0 => by rw [Rat.pow_zero, Nat.pow_zero, Nat.pow_zero]; rfl
  | m + 1 => by rw [Rat.pow_succ, mk_pow n d m, Rat.mkRat_mul_mkRat, Nat.pow_succ, Nat.pow_succ, Int.natCast_mul]

theorem cm_le {a b c d : Nat} (hb : b ≠ 0) (hd : d ≠ 0) (h : a * d ≤ c * b) : ordQ (mkRat (a : Int) b) (mkRat (c : Int) d) ≤ 0 := by
  rw [ordQ_mk hb hd]
  refine sgnZ_le ?_
  have := Int.ofNat_le.2 h
  rw [Int.natCast_mul, Int.natCast_mul] at this
  omega

/-- A probability against another one times a factor. -/
theorem pv_cmp {p q a S b T : Nat} (hq : q ≠ 0) (hS : S ≠ 0) (hT : T ≠ 0) (dp : nDigits p ≤ 1000) (dq : nDigits q ≤ 1000) (da : nDigits a ≤ 1000) (db : nDigits b ≤ 1000) (dS : nDigits S ≤ 1000) (dT : nDigits T ≤ 1000) (h : a * (q * T) ≤ p * b * S) :
    cmB (shB a S) (op2B (· * ·) (txQ (mkRat (p : Int) q)) (shB b T)) ≤ 0 ∧ (op2B (· * ·) (txQ (mkRat (p : Int) q)) (shB b T)).size ≤ 10000 := by
  have f1 : Dig 1000 (mkRat (p : Int) q) := dig_frac hq (by simpa using dp) dq
  have f2 : Dig 1000 (mkRat (b : Int) T) := dig_frac hT (by simpa using db) dT
  have f3 : Dig 1000 (mkRat (a : Int) S) := dig_frac hS (by simpa using da) dS
  have f4 := dig_mul f1 f2
  have e4 : (mkRat (p : Int) q : Rat) * mkRat (b : Int) T = mkRat ((p * b : Nat) : Int) (q * T) := by rw [Rat.mkRat_mul_mkRat, Int.natCast_mul]
  rw [shB_tx hS (by omega) (by omega), shB_tx hT (by omega) (by omega)]
  have o := op2_txt (f := (· * ·)) (f1.fits (by omega) (by omega)) (f2.fits (by omega) (by omega)) (f4.fits (by omega) (by omega))
  rw [o.1]
  have c := cm_txt (f3.fits (by omega) (by omega)) (f4.fits (by omega) (by omega))
  refine ⟨?_, tx_size (f4.fits (by omega) (by omega))⟩
  rw [c.1, e4]
  exact cm_le hS (Nat.mul_ne_zero hq hT) h

/-- Utilities that differ by at most S. -/
def NearU (S : Nat) (us vs : List Int) : Prop := ∀ (i : Nat) (u v : Int), us[i]? = some u → vs[i]? = some v → u ≤ v + S ∧ v ≤ u + S
/-- .. all in one direction. -/
def UpU (S : Nat) (us vs : List Int) : Prop := ∀ (i : Nat) (u v : Int), us[i]? = some u → vs[i]? = some v → u ≤ v ∧ v ≤ u + S

theorem near_any {n d B S : Nat} {us vs : List Int} (ok : ChOk n d B) (hl : us.length = vs.length) (hn : NearU S us vs) {i : Nat} {u v : Int} (hu : us[i]? = some u) (hv : vs[i]? = some v) :
    cwN n d B u * (d ^ (2 * S) * (cwL n d B vs).sum) ≤ n ^ (2 * S) * cwN n d B v * (cwL n d B us).sum := by
  have h1 := cw_near ok (hn i u v hu hv).1
  have h2 : (cwL n d B vs).sum * d ^ S ≤ (cwL n d B us).sum * n ^ S := sum_bound hl.symm fun j x y hx hy => cw_near ok (hn j y x hy hx).2
  have h3 := Nat.mul_le_mul h1 h2
  have e1 : d ^ (2 * S) = d ^ S * d ^ S := by rw [← Nat.pow_add]; congr 1; omega
  have e2 : n ^ (2 * S) = n ^ S * n ^ S := by rw [← Nat.pow_add]; congr 1; omega
  rw [e1, e2]
  calc cwN n d B u * (d ^ S * d ^ S * (cwL n d B vs).sum) = cwN n d B u * d ^ S * ((cwL n d B vs).sum * d ^ S) := by ac_rfl
    _ ≤ cwN n d B v * n ^ S * ((cwL n d B us).sum * n ^ S) := h3
    _ = n ^ S * n ^ S * cwN n d B v * (cwL n d B us).sum := by ac_rfl

theorem NearU.swap {S : Nat} {us vs : List Int} (h : NearU S us vs) : NearU S vs us := fun i u v hu hv => ⟨(h i v u hv hu).2, (h i v u hv hu).1⟩

theorem up_first {n d B S : Nat} {us vs : List Int} (ok : ChOk n d B) (hl : us.length = vs.length) (hn : UpU S us vs) {i : Nat} {u v : Int} (hu : us[i]? = some u) (hv : vs[i]? = some v) :
    cwN n d B u * (d ^ S * (cwL n d B vs).sum) ≤ n ^ S * cwN n d B v * (cwL n d B us).sum := by
  have h1 := cw_mono ok (hn i u v hu hv).1
  have h2 : (cwL n d B vs).sum * d ^ S ≤ (cwL n d B us).sum * n ^ S := sum_bound hl.symm fun j x y hx hy => cw_near ok (hn j y x hy hx).2
  have h3 := Nat.mul_le_mul h1 h2
  calc cwN n d B u * (d ^ S * (cwL n d B vs).sum) = cwN n d B u * ((cwL n d B vs).sum * d ^ S) := by ac_rfl
    _ ≤ cwN n d B v * ((cwL n d B us).sum * n ^ S) := h3
    _ = n ^ S * cwN n d B v * (cwL n d B us).sum := by ac_rfl
theorem up_second {n d B S : Nat} {us vs : List Int} (ok : ChOk n d B) (hl : us.length = vs.length) (hn : UpU S us vs) {i : Nat} {u v : Int} (hu : us[i]? = some u) (hv : vs[i]? = some v) :
    cwN n d B v * (d ^ S * (cwL n d B us).sum) ≤ n ^ S * cwN n d B u * (cwL n d B vs).sum := by
  have h1 := cw_near ok (hn i u v hu hv).2
  have h2 : (cwL n d B us).sum * 1 ≤ (cwL n d B vs).sum * 1 := sum_bound hl fun j x y hx hy => by rw [Nat.mul_one, Nat.mul_one]; exact cw_mono ok (hn j x y hx hy).1
  have h3 := Nat.mul_le_mul h1 h2
  calc cwN n d B v * (d ^ S * (cwL n d B us).sum) = cwN n d B v * d ^ S * ((cwL n d B us).sum * 1) := by ac_rfl
    _ ≤ cwN n d B u * n ^ S * ((cwL n d B vs).sum * 1) := h3
    _ = n ^ S * cwN n d B u * (cwL n d B vs).sum := by ac_rfl

theorem val_ex {ws : List Nat} {i : Nat} (hp : ∀ x ∈ ws, 0 < x) (hi : i < ws.length) : valM (sortM (exL ws ws.sum ws.length)) (numB i) = shB (ws.getD i 0) ws.sum := by
  refine valM_some (sortM_mem.2 ?_) (sortM_nd (reads_exD (H := Unit) ws ws.sum ws.length).nd)
  refine exL_mem.2 ⟨i, hi, ?_, rfl⟩
  rw [List.getD_eq_getElem?_getD, List.getElem?_eq_getElem hi]
  have := hp _ (List.getElem_mem hi)
  show ws[i] ≠ 0
  omega
theorem exL_all {ws : List Nat} {S : Nat} (hp : ∀ x ∈ ws, 0 < x) : ∀ N, N ≤ ws.length → (exL ws S N).length = N
  | 0, _ => rfl
  | N + 1, h => by
    have ih := exL_all (S := S) hp N (by omega)
    rw [exL, if_pos, List.length_append, ih]
    · rfl
    · rw [List.getD_eq_getElem?_getD, List.getElem?_eq_getElem (by omega)]
      have := hp _ (List.getElem_mem (show N < ws.length by omega))
      show ws[N] ≠ 0
      omega

/-- The exact distribution of good weights. -/
theorem ex_good {us : List Int} {s : ByteArray} {B : Int} (h : cwE us s B = 0) : exR (cwR us s B) = sortM (exL (cwV us s B) (cwV us s B).sum us.length) ∧ (exR (cwR us s B)).length = us.length ∧
    (∀ i u, us[i]? = some u → valM (exR (cwR us s B)) (numB i) = shB (cwN (vQ s).num.natAbs (vQ s).den B.toNat u) (cwV us s B).sum) ∧ nDigits (cwV us s B).sum ≤ 402 ∧ (cwV us s B).sum ≠ 0 := by
  obtain ⟨ok, -⟩ := cw_good h
  have e : exR (cwR us s B) = sortM (exL (cwV us s B) (cwV us s B).sum us.length) := by
    rw [cwR, if_pos h, exR, if_pos (wsE_cw ok), cwV_bN, cwT_len]
  have hp := cwV_pos ok
  have hl := cwV_len us s B
  refine ⟨e, ?_, fun i u hu => ?_, nd_sum (cwV_dig ok) (by rw [hl]; have := ok.hi; omega), ?_⟩
  · rw [e, sortM_length, exL_all hp _ (by rw [hl]; exact Nat.le_refl _)]
  · rw [e]
    have hi := (List.getElem?_eq_some_iff.1 hu).1
    have := val_ex hp (show i < (cwV us s B).length by rw [hl]; exact hi)
    rw [hl] at this
    rw [this, cwV_get hu]
  · have hw := wsE_pos (wsE_cw ok)
    rw [cwV_bN] at hw
    omega
theorem ex_bad {us : List Int} {s : ByteArray} {B : Int} (h : cwE us s B ≠ 0) : exR (cwR us s B) = [] := by rw [cwR, if_neg h, exR_nil]

theorem nd_pow6 {n m k : Nat} (h : nDigits n ≤ 10) (hk : m ≤ k) (hm : m ≤ 6) : nDigits (n ^ m) ≤ 60 := by
  rcases Nat.eq_zero_or_pos m with rfl | h0
  · rw [Nat.pow_zero, nDigits_one]; omega
  · exact Nat.le_trans (nd_pow h (by omega)) (by omega)
theorem shB_size10 (a b : Nat) : (shB a b).size ≤ 10000 := outB_size _
end Go.Proofs.YtpehhgkghgbhiaaGreatDoor

/- Walks: kit.Pick. -/
namespace Go.Proofs.YtpehhgkghgbhiaaGreatDoor
open Go.RowKit Go.Shelf
open Go.Lib (decDigits nDigits)
set_option linter.unusedVariables false
set_option linter.unusedSimpArgs false

theorem k_Pick (w : World) (x : Int) (n : Nat) (h0 : 0 < n) (hn : n ≤ 1000000) (h1 : -9223372036854775808 ≤ x) (h2 : x ≤ 9223372036854775807) :
    ∃ i : Nat, i < n ∧ Calls Tryz.prog 9 #[.int .i64 x, .int .i64 (n : Nat)] w fun e w' => e = .returned (.int .i64 (i : Nat)) ∧ w = w' := by
  have r1 := Int.tmod_lt_of_pos x (show (0 : Int) < n by omega)
  have r2 := Int.lt_tmod_of_pos x (show (0 : Int) < n by omega)
  obtain ⟨r, hr⟩ : ∃ r, x.tmod (n : Int) = r := ⟨_, rfl⟩
  rw [hr] at r1 r2
  have e0 : IntKind.i64.wrap r = r := by rw [IntWalk.i64_in _ ⟨by omega, by omega⟩]
  have hz : ((n : Int) == 0) = false := by rw [beq_eq_false_iff_ne]; omega
  by_cases hneg : r < 0
  · have q0 : decide (r < 0) = true := by simp; omega
    obtain ⟨i, hi⟩ : ∃ i : Nat, r + (n : Int) = i := ⟨(r + n).toNat, by omega⟩
    have e1 : IntKind.i64.wrap (r + (n : Int)) = r + (n : Int) := by rw [IntWalk.i64_in _ ⟨by omega, by omega⟩]
    refine ⟨i, by omega, ?_⟩
    rw [← hi]
    clear hi hneg
    go_enter Tryz.func9, Tryz.ntmps9
    go_wp2_with fail
    go_ret
    exact ⟨rfl, rfl⟩
  · have q0 : decide (r < 0) = false := by simp; omega
    obtain ⟨i, hi⟩ : ∃ i : Nat, r = i := ⟨r.toNat, by omega⟩
    refine ⟨i, by omega, ?_⟩
    rw [← hi]
    clear hi hneg
    go_enter Tryz.func9, Tryz.ntmps9
    go_wp2_with fail
    go_ret
    exact ⟨rfl, rfl⟩
end Go.Proofs.YtpehhgkghgbhiaaGreatDoor
