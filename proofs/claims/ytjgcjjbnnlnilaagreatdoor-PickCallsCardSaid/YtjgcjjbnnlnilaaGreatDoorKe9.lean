/- The shelf's contracts of slices.Sorted(maps.Keys(m)) laid at this program (as lay-iter prints them, the numbers by name). -/
import Derived.Test.YtjgcjjbnnlnilaaGreatDoorKe8
import Derived.Maps.StringElems
import Derived.WalkLawsBesides
namespace Go.Proofs
open Go.RowKit Go.Maps Go.Sort Go.Shelf


theorem Tryz.sortsK (m : Nat) : AnyZ.SortsIn Tryz.prog Tryz.sortedK_ren Fence.wide m :=
  ⟨fun blk off cap ss W hH hblk hsz => callsIn_wide.2 (AnyM.slices_Sort_string Tryz.sortK blk off cap ss W hH hblk hsz),
   fun p cap W => callsIn_wide.2 (AnyM.slices_Sort_string_none Tryz.sortK p cap W)⟩

theorem Tryz.maps_keys (mb : Option Nat) (W : World) : CallsIn Fence.wide 5 Tryz.prog 111 #[.map mb] W fun e w' => e = .returned (.func (.func 155) #[] #[.pointer (some ⟨W.heap.size, 0, none⟩)]) ∧ w' = W.alloc (.cells #[.map mb] 80) :=
  AnyZ.keys_in Tryz.keysK Fence.wide 5 trivial rfl mb W

set_option maxHeartbeats 1000000 in
theorem Tryz.sorted_keys {H : Type} (b nn : Nat) (D0 : DataW H) (R : Value → Option (DataW H × List MemPlace)) (w : World) (hown : w.ownsMap Tryz.prog 9 R b nn D0) (hmax : Maps.size D0 ≤ maxLen) (hbytes : Maps.size D0 * 16 ≤ 140737488355328) :
    CallsIn Fence.wide 5 Tryz.prog 110 #[.func (.func 155) #[] #[.pointer (some ⟨w.heap.size, 0, none⟩)]] (w.alloc (.cells #[.map (some b)] 80)) fun e w' => ∃ (v : Value) (ss : List (List UInt8)), e = .returned v ∧ ss.Perm (strKeys D0) ∧
      w'.ownsRow (w.alloc (.cells #[.map (some b)] 80)).heap.size 9 1 v ss.length ((ss.mergeSort (fun x y => decide (x ≤ y))).map encStr) ∧ (v = .slice none 0 0 ↔ ss = []) ∧ Below (w.alloc (.cells #[.map (some b)] 80)).heap.size (w.alloc (.cells #[.map (some b)] 80)) w' := by
  have hbl := hown.lt
  have hseq : SeqGives Fence.wide 2 Tryz.prog 155 #[.pointer (some ⟨w.heap.size, 0, none⟩)] encStr (fun ss => ss.Perm (strKeys D0)) (Maps.size D0) (w.alloc (.cells #[.map (some b)] 80)) :=
    AnyZ.keys_gives (ρ := Tryz.keysK_ren) { Tryz.keysK with } Fence.wide _ trivial rfl (by omega) w.heap.size b nn D0 _ (by simp) (by simp) (by
      obtain ⟨es, clock, hb, Ft, hs, hD⟩ := hown
      exact ⟨es, clock, (Below.heap_alloc _ _ b hbl).trans hb, Ft, hs, hD⟩)
  exact AnyZ.sorted_in Tryz.sortedK Fence.wide 5 trivial trivial trivial trivial rfl (by omega) (Tryz.sortsK _) (enters_of Tryz.func154 (by kernel_rfl) rfl) 155 #[.pointer (some ⟨w.heap.size, 0, none⟩)] trivial (enters_of Tryz.func155 (by kernel_rfl) rfl) _ _ hmax hbytes _ hseq

set_option maxHeartbeats 1000000 in
theorem Tryz.sorted_keys_nil (w : World) :
    CallsIn Fence.wide 5 Tryz.prog 110 #[.func (.func 155) #[] #[.pointer (some ⟨w.heap.size, 0, none⟩)]] (w.alloc (.cells #[.map none] 80)) fun e w' => ∃ (v : Value) (ss : List (List UInt8)), e = .returned v ∧ ss = [] ∧
      w'.ownsRow (w.alloc (.cells #[.map none] 80)).heap.size 9 1 v ss.length ((ss.mergeSort (fun x y => decide (x ≤ y))).map encStr) ∧ (v = .slice none 0 0 ↔ ss = []) ∧ Below (w.alloc (.cells #[.map none] 80)).heap.size (w.alloc (.cells #[.map none] 80)) w' := by
  have hseq : SeqGives Fence.wide 2 Tryz.prog 155 #[.pointer (some ⟨w.heap.size, 0, none⟩)] encStr (fun ss : List (List UInt8) => ss = []) 0 (w.alloc (.cells #[.map none] 80)) :=
    AnyZ.keys_gives_nil (ρ := Tryz.keysK_ren) { Tryz.keysK with } Fence.wide _ trivial rfl w.heap.size _ (by simp) (by simp)
  exact AnyZ.sorted_in Tryz.sortedK Fence.wide 5 trivial trivial trivial trivial rfl (by omega) (Tryz.sortsK _) (enters_of Tryz.func154 (by kernel_rfl) rfl) 155 #[.pointer (some ⟨w.heap.size, 0, none⟩)] trivial (enters_of Tryz.func155 (by kernel_rfl) rfl) _ 0 (Nat.zero_le _) (by omega) _ hseq

end Go.Proofs

/- Walks: pick.listed: a map's pairs in the order of their keys. -/
namespace Go.Proofs.YtjgcjjbnnlnilaaGreatDoor
open Go.RowKit Go.Shelf Go.Maps
open Go.Lib (decDigits nDigits)
set_option linter.unusedVariables false
set_option linter.unusedSimpArgs false

theorem info_mass : (Tryz.prog.info? 43).map (fun i => (i.zero, i.size, i.bytes)) = some (some (.agg #[.string ⟨#[]⟩, .string ⟨#[]⟩]), 2, 32) := by kernel_rfl
theorem zero_num (w : World) : (zeroValue 23).run Tryz.prog w = .ok (.string ⟨#[]⟩) w := by kernel_rfl

theorem encStr_at {l : List (List UInt8)} {i : Nat} {k : List UInt8} (h : l[i]? = some k) : (l.map encStr)[i]? = some (.string ⟨k.toArray⟩) := by
  rw [List.getElem?_map, h]; rfl

theorem look_run {H : Type} {w : World} {B nn : Nat} {D : DataW H} {L : List (ByteArray × ByteArray)} (hown : w.ownsMap Tryz.prog 9 (plainElem Tryz.prog 23) B nn D) (hR : Reads D L) {p : ByteArray × ByteArray} (hp : p ∈ L) (hk : (keyL p).length ≤ maxLen) :
    (Instr.lookup 80 (.map (some B)) (.string p.1) false).run Tryz.prog w = .ok (.string p.2) w := by
  have hk2 : keyOf Tryz.prog 9 (.string p.1) = some (.string p.1.data.toList) := by
    have := Go.WideMaps.keyOf_string_mk Tryz.underlying9 (s := p.1) (by simpa [keyL] using hk)
    simpa using this
  obtain ⟨v, ps, h1, h2⟩ := hown.lookup lawKeyed Tryz.underlying80 (zero_num w) (plainElem_string Tryz.underlying23 (s := ⟨#[]⟩) (Nat.zero_le _)) hk2
  rw [show D.atKey (.string p.1.data.toList) (.lit (.string (⟨#[]⟩ : ByteArray).data.toList)) = .lit (.string p.2.data.toList) from hR.look p hp _] at h2
  obtain ⟨s, rfl, h3, -⟩ := plainElem_string_inv Tryz.underlying23 h2
  simp only [Prod.mk.injEq, DataW.lit.injEq, Lit.string.injEq] at h3
  rw [h1, ba_ext h3.1]

set_option maxRecDepth 100000 in
set_option maxHeartbeats 2000000 in
theorem p_listed {H : Type} (w : World) (B nn : Nat) (D : DataW H) (L : List (ByteArray × ByteArray)) (hown : w.ownsMap Tryz.prog 9 (plainElem Tryz.prog 23) B nn D) (hR : Reads D L) (hl : L.length ≤ 1000) (hkl : ∀ p ∈ L, (keyL p).length ≤ 1000) :
    Calls Tryz.prog 57 #[.map (some B)] w fun e w' => (∃ v, e = .returned v ∧ MRow w' v (sortM L)) ∧ Below w.heap.size w w' := by
  have hsz := hR.size hown lawKeyed Tryz.underlying9
  have HK := hid (callsIn_wide.1 (Tryz.maps_keys (some B) w))
  have HS := hid (callsIn_wide.1 (Tryz.sorted_keys B nn D _ w hown (by rw [hsz]; unfold maxLen; omega) (by rw [hsz]; omega)))
  have HKEYS := hid (fun ss => hR.keys (ss := ss) hown lawKeyed Tryz.underlying9)
  have HOWN := hid hown; have HR := hid hR; have HL := hid hl; have HKL := hid hkl
  obtain ⟨i0, hi, hz0, hz1, hz2⟩ := info_parts info_mass
  clear hown hR hl hkl hsz
  go_enter Tryz.func57, Tryz.ntmps57
  go_wp2_with fail
  refine HK.out.mono ?_; rintro e w1 ⟨rfl, rfl⟩
  go_wp2_with fail
  refine HS.out.mono ?_; rintro e w2 ⟨v, ss, rfl, hp, hown2, -, hb⟩
  rw [HKEYS.out ss hp] at hown2
  have hlen : ss.length = (sortM L).length := by
    have h := congrArg List.length (HKEYS.out ss hp)
    rw [List.length_mergeSort, List.length_map] at h
    exact h
  rw [hlen] at hown2
  obtain ⟨n, hn⟩ : ∃ n, (sortM L).length = n := ⟨_, rfl⟩
  have hn2 : n ≤ 1000 := by rw [← hn, sortM_length]; exact HL.out
  rw [hn] at hown2
  obtain ⟨a, c, rfl⟩ := owns_ex hown2
  have hrow := Row.of_owns hown2
  have HROW := hid hrow
  have HN := hid hn
  have hcap := hrow.len.2
  have hB : Below w.heap.size w w2 := ((Below.refl _ _).alloc (Nat.le_refl _) _).trans (hb.mono (by simp))
  have HB := hid hB
  have hBL := HOWN.out.lt
  unfold maxLen at hcap
  clear hlen hn hown2 hrow hb hB hp
  go_wp2_with fail
  go_loopw [3, 10] (fun s3 s10 wr => ∃ i : Nat, s10 = .int .i64 (i : Nat) ∧ i ≤ n ∧ Hid (wr.ownsRow w2.heap.size 43 2 s3 i (massC ((sortM L).take i))) ∧ Hid (Below w2.heap.size w2 wr)) (fun s3 s10 wr => n - (intOf s10).toNat)
  case atStart => exact ⟨0, rfl, Nat.zero_le _, ⟨rfl, .inl ⟨rfl, rfl⟩⟩, Below.refl _ _⟩
  case round =>
    obtain ⟨i, rfl, hi2, hO, hB⟩ := hrel
    by_cases hlt : i < n
    · obtain ⟨p, hp⟩ : ∃ x, (sortM L)[i]? = some x := ⟨_, List.getElem?_eq_getElem (by rw [HN.out]; exact hlt)⟩
      have hpm : p ∈ L := sortM_mem.1 (List.mem_of_getElem? hp)
      obtain ⟨g, o, rfl, hg, hc⟩ := HROW.out.at (encStr_at (show ((sortM L).map keyL)[i]? = some (keyL p) by rw [List.getElem?_map, hp]; rfl))
      have hc2 := (hB.out.cell (p := ⟨g, o + i, none⟩) hg).trans hc
      have e1 : (⟨(keyL p).toArray⟩ : ByteArray) = p.1 := by simp [keyL]
      rw [e1] at hc2
      have hb2 : Below w.heap.size w _ := HB.out.trans (hB.out.mono HB.out.size)
      have hrun := look_run (HOWN.out.kept (row := none) ⟨hb2.os, hb2.tape, hb2.output, hb2.size, fun k hk _ => hb2.block k hk⟩ (by simp)) HR.out hpm (by have := HKL.out p hpm; unfold maxLen; omega)
      obtain ⟨pk, pv⟩ := p
      dsimp only at hrun hc2
      have HP := hid hp
      have b1 : (0 : Int) ≤ (i : Int) := by omega
      have b2 : (i : Int) < (n : Int) := by omega
      clear hp hpm hc e1 hg hb2
      have hbs := HB.out.size
      go_wp2_with (at_builtin; refine wpList_append_own _ rfl _ _ 38 rfl w2.heap.size 43 i0 (.agg #[.string ⟨#[]⟩, .string ⟨#[]⟩]) 2 32 Tryz.underlying38 hi hz0 hz1 hz2 rfl (by decide) _ i _ rfl (hO.out.alloc _) ⟨wr.heap.size, 0, none⟩ 1 1 [.string pk, .string pv] rfl rfl (cell_two_new wr (.string pk) (.string pv) 43) (by simp [Value.oneCell']) (by unfold maxLen; omega) (by omega) (by have := hB.out.size; simp; omega) ?_; intro v' w3 hown3 hgrow3 _)
      have hO3 := hid (show w3.ownsRow w2.heap.size 43 2 v' (i + 1) (massC ((sortM L).take (i + 1))) by
        rw [List.take_add_one, HP.out, Option.toList_some, massC_append]; exact hown3)
      have hB3 : Hid (Below w2.heap.size w2 w3) := by
        refine (hB.out.alloc hB.out.size _).trans ⟨hgrow3.os, hgrow3.tape, hgrow3.output, hgrow3.size, fun k hk => hgrow3.block k (by have := hB.out.size; simp; omega) (fun e => ?_)⟩
        have := (hO.out.lt k e.symm).1
        omega
      clear hown3 hgrow3
      go_wp2_with fail
      go_roundw
      case rel => exact ⟨i + 1, by go_num, by omega, hO3, hB3⟩
      case measure => simp [intOf] <;> omega
    · obtain rfl : i = n := by omega
      have q1 : decide ((i : Int) < (i : Int)) = false := by simp
      have h := hO.out
      rw [List.take_of_length_le (by rw [HN.out]; exact Nat.le_refl _)] at h
      have hM := MRow.of_owns h
      have HM := hid hM
      have hB2 := hid (HB.out.trans (hB.out.mono HB.out.size))
      clear hlt hM h
      go_wp2_with fail
      go_ret
      exact ⟨⟨_, rfl, HM.out⟩, hB2.out⟩
end Go.Proofs.YtjgcjjbnnlnilaaGreatDoor

/- Walks: pick.law's errors, pick.Law, pick.Late. -/
namespace Go.Proofs.YtjgcjjbnnlnilaaGreatDoor
open Go.RowKit Go.Shelf Go.Maps
open Go.Lib (decDigits nDigits)
set_option linter.unusedVariables false
set_option linter.unusedSimpArgs false

/-- The error of a law. -/
def lawE (l : List ByteArray) (n : Int) : Int := if wsE l ≠ 0 then wsE l else if n < 0 ∨ 256 < n then 2 else 0

set_option maxRecDepth 100000 in
set_option maxHeartbeats 1000000 in
theorem p_lawE (w : World) (v : Value) (l : List ByteArray) (n : Int) (hv : Row w v (strs l)) (hl : ∀ x ∈ l, x.size ≤ 1000000) (he : lawE l n ≠ 0) :
    Calls Tryz.prog 56 #[v, .int .i64 n] w fun e w' => e = .returned (.tuple #[.map none, .int .i64 (lawE l n)]) ∧ Below w.heap.size w w' := by
  have PC := hid (p_check w v l hv hl)
  obtain ⟨a, c, rfl, q1, q2, -⟩ := hv.openS
  obtain ⟨N, hN⟩ : ∃ N, l.length = N := ⟨_, rfl⟩
  rw [hN] at PC q1 ⊢
  clear hv hl hN
  by_cases h1 : wsE l ≠ 0
  · have e1 : lawE l n = wsE l := by rw [lawE, if_pos h1]
    rw [e1]
    obtain ⟨z, hz⟩ : ∃ z, wsE l = z := ⟨_, rfl⟩
    rw [hz] at PC h1 ⊢
    have q0 : (z != 0) = true := by simpa using h1
    clear e1 he hz h1
    go_enter Tryz.func56, Tryz.ntmps56
    go_wp2_with fail
    refine PC.out.mono ?_; rintro e w1 ⟨rfl, hb1⟩
    go_wp2_with fail
    go_ret2
    exact ⟨rfl, hb1⟩
  · have h2 : wsE l = 0 := by simpa using h1
    have h3 : n < 0 ∨ 256 < n := by
      by_cases h3 : n < 0 ∨ 256 < n
      · exact h3
      · exact absurd (show lawE l n = 0 by rw [lawE, if_neg h1, if_neg h3]) he
    have e1 : lawE l n = 2 := by rw [lawE, if_neg h1, if_pos h3]
    rw [e1]
    rw [h2] at PC
    clear e1 he h1 h2
    by_cases h4 : n < 0
    · have q0 : decide (n < 0) = true := by simpa using h4
      clear h3 h4
      go_enter Tryz.func56, Tryz.ntmps56
      go_wp2_with fail
      refine PC.out.mono ?_; rintro e w1 ⟨rfl, hb1⟩
      go_wp2_with fail
      go_ret2
      exact ⟨rfl, hb1⟩
    · have q0 : decide (n < 0) = false := by simpa using h4
      have q1 : decide (256 < n) = true := by simp; omega
      clear h3 h4
      go_enter Tryz.func56, Tryz.ntmps56
      go_wp2_with fail
      refine PC.out.mono ?_; rintro e w1 ⟨rfl, hb1⟩
      go_wp2_with fail
      go_ret2
      exact ⟨rfl, hb1⟩

set_option maxRecDepth 100000 in
set_option maxHeartbeats 1000000 in
theorem p_listed_nil (w : World) :
    Calls Tryz.prog 57 #[.map none] w fun e w' => e = .returned (.slice none 0 0) ∧ Below w.heap.size w w' := by
  have HK := hid (callsIn_wide.1 (Tryz.maps_keys none w))
  have HS := hid (callsIn_wide.1 (Tryz.sorted_keys_nil w))
  go_enter Tryz.func57, Tryz.ntmps57
  go_wp2_with fail
  refine HK.out.mono ?_; rintro e w1 ⟨rfl, rfl⟩
  go_wp2_with fail
  refine HS.out.mono ?_; rintro e w2 ⟨v, ss, rfl, rfl, hown2, hnil, hb⟩
  obtain rfl := hnil.2 rfl
  have hB : Below w.heap.size w w2 := ((Below.refl _ _).alloc (Nat.le_refl _) _).trans (hb.mono (by simp))
  have HB := hid hB
  clear hown2 hnil hb hB
  go_wp2_with fail
  refine wp_loop_rounds 1 ?_; rw [rounds_succ]
  go_wp2_with fail
  go_ret
  exact ⟨rfl, HB.out⟩

/-- The law's distribution. -/
def lawR (l : List ByteArray) (n : Int) : List (ByteArray × ByteArray) := if lawE l n = 0 then sortM (lawP (l.map bN) (2 ^ n.toNat) l.length) else []

theorem lawE_ok {l : List ByteArray} {n : Int} (h : lawE l n = 0) : wsE l = 0 ∧ 0 ≤ n ∧ n ≤ 256 := by
  unfold lawE at h
  split at h
  · rename_i h1; exact absurd h h1
  · rename_i h1
    split at h
    · exact absurd h (by decide)
    · rename_i h2; exact ⟨by simpa using h1, by omega, by omega⟩

theorem lawP_keys {ws : List Nat} {t N : Nat} (hN : N ≤ 64) : ∀ p ∈ lawP ws t N, (keyL p).length ≤ 1000 := by
  intro p hp
  have h1 : ∀ p ∈ lawL ws t N, (keyL p).length ≤ 1000 := fun p hp => by
    obtain ⟨i, h1, -, rfl⟩ := lawL_mem.1 hp
    have := nDigits_le (n := i) (k := 2) (by omega) (by omega)
    simp only [keyL, numB_list, Lib.decDigits_length]
    omega
  unfold lawP at hp
  split at hp
  · exact h1 p hp
  · rcases List.mem_append.1 hp with hp | hp
    · exact h1 p hp
    · simp at hp
      subst hp
      have this : lateB.data.toList.length ≤ 1000 := by decide
      exact this

set_option maxRecDepth 100000 in
set_option maxHeartbeats 1000000 in
theorem p_Law (w : World) (v : Value) (l : List ByteArray) (n : Int) (hv : Row w v (strs l)) (hl : ∀ x ∈ l, x.size ≤ 1000000) (hL : Lay w) :
    Calls Tryz.prog 15 #[v, .int .i64 n] w fun e w' => (∃ u, e = .returned (.tuple #[u, .int .i64 (lawE l n)]) ∧ MRow w' u (lawR l n)) ∧ Below w.heap.size w w' := by
  by_cases he : lawE l n = 0
  · obtain ⟨h1, h2, h3⟩ := lawE_ok he
    obtain ⟨m, rfl⟩ : ∃ m : Nat, n = (m : Nat) := ⟨n.toNat, by omega⟩
    have P := hid (p_law (H := Unit) w v l m hv hl h1 (by omega) hL)
    have hlen := (wsE_ok h1).2.1.len
    rw [List.length_map] at hlen
    have er : lawR l (m : Nat) = sortM (lawP (l.map bN) (2 ^ m) l.length) := by rw [lawR, if_pos he, Int.toNat_natCast]
    rw [er, he]
    obtain ⟨ws, hws⟩ : ∃ ws, l.map bN = ws := ⟨_, rfl⟩
    obtain ⟨N, hN⟩ : ∃ N, l.length = N := ⟨_, rfl⟩
    rw [hws, hN] at P ⊢
    have hN64 : N ≤ 64 := by omega
    obtain ⟨a, c, rfl, -⟩ := hv.openS
    have K := hid (lawP_keys (ws := ws) (t := 2 ^ m) hN64)
    clear hv hl hL h1 h2 h3 hlen er he hws hN
    go_enter Tryz.func15, Tryz.ntmps15
    go_wp2_with fail
    refine P.out.mono ?_; rintro e w1 ⟨⟨B, rfl, hown⟩, hb1⟩
    have y1 := hid hb1
    have Q := hid (p_listed w1 B _ _ _ hown (reads_lawM ws (2 ^ m) N) (by have := lawP_length ws (2 ^ m) N; omega) K.out)
    clear hown hb1
    go_wp2_with fail
    refine Q.out.mono ?_; rintro e w2 ⟨⟨u, rfl, hu⟩, hb2⟩
    have hu2 := hid hu
    have y2 := hid (bnext y1.out hb2)
    clear hu hb2
    go_wp2_with fail
    go_ret2
    exact ⟨⟨_, rfl, hu2.out⟩, y2.out⟩
  · have P := hid (p_lawE w v l n hv hl he)
    have er : lawR l n = [] := by rw [lawR, if_neg he]
    rw [er]
    obtain ⟨a, c, rfl, -⟩ := hv.openS
    generalize lawE l n = z at *
    clear hv hl hL er he
    go_enter Tryz.func15, Tryz.ntmps15
    go_wp2_with fail
    refine P.out.mono ?_; rintro e w1 ⟨rfl, hb1⟩
    have y1 := hid hb1
    have Q := hid (p_listed_nil w1)
    clear hb1
    go_wp2_with fail
    refine Q.out.mono ?_; rintro e w2 ⟨rfl, hb2⟩
    have y2 := hid (bnext y1.out hb2)
    clear hb2
    go_wp2_with fail
    go_ret2
    exact ⟨⟨_, rfl, MRow.nil _⟩, y2.out⟩

/-- The probability of being late. -/
def lateR (l : List ByteArray) (n : Int) : ByteArray := if lawE l n = 0 then shB (2 ^ n.toNat - lwS (l.map bN) (2 ^ n.toNat) l.length) (2 ^ n.toNat) else ⟨#[]⟩

theorem shB_zero (t : Nat) : shB 0 t = ⟨#[48]⟩ := by
  have e : qmk false 0 t = 0 := by unfold qmk sgn; simp
  have h1 : ¬ ovQ 0 := by
    have : nDigits 0 ≤ 4000 := by rw [nDigits_zero]; omega
    have : nDigits 1 ≤ 4000 := by rw [nDigits_one]; omega
    unfold ovQ
    rw [show (0 : Rat).num.natAbs = 0 from rfl, show (0 : Rat).den = 1 from rfl]
    omega
  unfold shB
  rw [e]
  unfold outB
  rw [if_neg h1]
  apply ba_ext
  rw [txQ, txB_list, show (0 : Rat).num.natAbs = 0 from rfl, show (0 : Rat).den = 1 from rfl, show decide ((0 : Rat).num < 0) = false from rfl, dec_zero]
  rfl

theorem lookok_run {H : Type} {w : World} {B nn : Nat} {D : DataW H} {L : List (ByteArray × ByteArray)} (hown : w.ownsMap Tryz.prog 9 (plainElem Tryz.prog 23) B nn D) (hR : Reads D L) (k : ByteArray) (hk : k.size ≤ maxLen) :
    (∀ p ∈ L, p.1 = k → (Instr.lookup 80 (.map (some B)) (.string k) true).run Tryz.prog w = .ok (.tuple #[.string p.2, .bool true]) w) ∧
    ((∀ p ∈ L, p.1 ≠ k) → (Instr.lookup 80 (.map (some B)) (.string k) true).run Tryz.prog w = .ok (.tuple #[.string ⟨#[]⟩, .bool false]) w) := by
  have hk2 : keyOf Tryz.prog 9 (.string k) = some (.string k.data.toList) := by
    have := Go.WideMaps.keyOf_string_mk Tryz.underlying9 (s := k) (by simpa using hk)
    simpa using this
  obtain ⟨v, ps, h1, h2⟩ := hown.look_ok lawKeyed Tryz.underlying80 (zero_num w) (plainElem_string Tryz.underlying23 (s := ⟨#[]⟩) (Nat.zero_le _)) hk2
  constructor
  · rintro p hp rfl
    rw [show D.atKey (.string p.1.data.toList) (.lit (.string (⟨#[]⟩ : ByteArray).data.toList)) = .lit (.string p.2.data.toList) from hR.look p hp _] at h2
    obtain ⟨s, rfl, h3, -⟩ := plainElem_string_inv Tryz.underlying23 h2
    simp only [Prod.mk.injEq, DataW.lit.injEq, Lit.string.injEq] at h3
    rw [h1, ba_ext h3.1, (hR.has p.1.data.toList).2 (List.mem_map_of_mem (f := keyL) hp)]
  · intro hn
    have hh : Maps.has D (.string k.data.toList) = false := by
      cases hc : Maps.has D (.string k.data.toList)
      · rfl
      · obtain ⟨p, hp, e⟩ := List.mem_map.1 ((hR.has _).1 hc)
        exact absurd (ba_ext e) (hn p hp)
    rw [atKey_of_not_has hh] at h2
    obtain ⟨s, rfl, h3, -⟩ := plainElem_string_inv Tryz.underlying23 h2
    simp only [Prod.mk.injEq, DataW.lit.injEq, Lit.string.injEq] at h3
    rw [h1, hh, ← ba_ext (a := ⟨#[]⟩) (b := s) h3.1]

theorem lawP_late {ws : List Nat} {t N : Nat} : (t - lwS ws t N ≠ 0 → (lateB, shB (t - lwS ws t N) t) ∈ lawP ws t N) ∧ (t - lwS ws t N = 0 → ∀ p ∈ lawP ws t N, p.1 ≠ lateB) := by
  constructor
  · intro h
    rw [lawP, if_neg h]
    simp
  · intro h p hp e
    rw [lawP, if_pos h] at hp
    obtain ⟨i, -, -, rfl⟩ := lawL_mem.1 hp
    exact numB_late i (congrArg (fun b => b.data.toList) e)

set_option maxRecDepth 100000 in
set_option maxHeartbeats 1000000 in
theorem p_Late (w : World) (v : Value) (l : List ByteArray) (n : Int) (hv : Row w v (strs l)) (hl : ∀ x ∈ l, x.size ≤ 1000000) (hL : Lay w) :
    Calls Tryz.prog 17 #[v, .int .i64 n] w fun e w' => e = .returned (.tuple #[.string (lateR l n), .int .i64 (lawE l n)]) ∧ Below w.heap.size w w' := by
  by_cases he : lawE l n = 0
  · obtain ⟨h1, h2, h3⟩ := lawE_ok he
    obtain ⟨m, rfl⟩ : ∃ m : Nat, n = (m : Nat) := ⟨n.toNat, by omega⟩
    have P := hid (p_law (H := Unit) w v l m hv hl h1 (by omega) hL)
    have er : lateR l (m : Nat) = shB (2 ^ m - lwS (l.map bN) (2 ^ m) l.length) (2 ^ m) := by rw [lateR, if_pos he, Int.toNat_natCast]
    rw [er, he]
    obtain ⟨ws, hws⟩ : ∃ ws, l.map bN = ws := ⟨_, rfl⟩
    obtain ⟨N, hN⟩ : ∃ N, l.length = N := ⟨_, rfl⟩
    rw [hws, hN] at P ⊢
    obtain ⟨a, c, rfl, -⟩ := hv.openS
    obtain ⟨k1, k2⟩ := lawP_late (ws := ws) (t := 2 ^ m) (N := N)
    have K1 := hid k1; have K2 := hid k2
    clear hv hl hL h1 h2 h3 er he hws hN k1 k2
    by_cases hz : 2 ^ m - lwS ws (2 ^ m) N = 0
    · rw [hz, shB_zero]
      go_enter Tryz.func17, Tryz.ntmps17
      go_wp2_with fail
      refine P.out.mono ?_; rintro e w1 ⟨⟨B, rfl, hown⟩, hb1⟩
      have y1 := hid hb1
      obtain ⟨c1, c2⟩ := lookok_run hown (reads_lawM ws (2 ^ m) N) lateB (by unfold maxLen; decide)
      have hrun := c2 (K2.out hz)
      unfold lateB at hrun
      clear c1 c2 hown hb1 hz
      go_wp2_with fail
      go_ret2
      exact ⟨rfl, y1.out⟩
    · obtain ⟨S, hS⟩ : ∃ S, shB (2 ^ m - lwS ws (2 ^ m) N) (2 ^ m) = S := ⟨_, rfl⟩
      have k3 := K1.out hz
      rw [hS] at k3 ⊢
      have K3 := hid k3
      clear k3 hS
      go_enter Tryz.func17, Tryz.ntmps17
      go_wp2_with fail
      refine P.out.mono ?_; rintro e w1 ⟨⟨B, rfl, hown⟩, hb1⟩
      have y1 := hid hb1
      obtain ⟨c1, c2⟩ := lookok_run hown (reads_lawM ws (2 ^ m) N) lateB (by unfold maxLen; decide)
      have hrun := c1 _ K3.out rfl
      unfold lateB at hrun
      dsimp only at hrun
      clear c1 c2 hown hb1 hz
      go_wp2_with fail
      go_ret2
      exact ⟨rfl, y1.out⟩
  · have P := hid (p_lawE w v l n hv hl he)
    have er : lateR l n = ⟨#[]⟩ := by rw [lateR, if_neg he]
    rw [er]
    obtain ⟨a, c, rfl, -⟩ := hv.openS
    obtain ⟨z, hz⟩ : ∃ z, lawE l n = z := ⟨_, rfl⟩
    rw [hz] at P he ⊢
    have q0 : (z != 0) = true := by simpa using he
    clear hv hl hL er he hz
    go_enter Tryz.func17, Tryz.ntmps17
    go_wp2_with fail
    refine P.out.mono ?_; rintro e w1 ⟨rfl, hb1⟩
    have y1 := hid hb1
    clear hb1
    go_wp2_with fail
    go_ret2
    exact ⟨rfl, y1.out⟩
end Go.Proofs.YtjgcjjbnnlnilaaGreatDoor

/- Walks: ref05.late, ref03.Share, ref05.Late. -/
namespace Go.Proofs.YtjgcjjbnnlnilaaGreatDoor
open Go.RowKit Go.Shelf
open Go.Lib (decDigits nDigits)
set_option linter.unusedVariables false
set_option linter.unusedSimpArgs false

set_option maxRecDepth 100000 in
set_option maxHeartbeats 2000000 in
theorem r5_late (w : World) (v : Value) (ws : List Nat) (n : Nat) (hS : 0 < ws.sum) (hn : n ≤ 256) (hN64 : ws.length ≤ 64) (hv : NRow w v ws.length (cnt ws (2 ^ n))) :
    Calls Tryz.prog 86 #[v, .int .i64 (n : Nat)] w fun e w' => RetN .i64 (2 ^ n - lwS ws (2 ^ n) ws.length) e w' ∧ Below w.heap.size w w' := by
  have RT := fun V => hid (r3_Two V n (by omega))
  obtain ⟨a, c, rfl, r1, r2, r3⟩ := hv.open
  obtain ⟨N, hN⟩ : ∃ N, ws.length = N := ⟨_, rfl⟩
  rw [hN] at r1 r3 hN64 ⊢
  obtain ⟨t, ht⟩ : ∃ t, 2 ^ n = t := ⟨_, rfl⟩
  rw [ht] at RT r3 ⊢
  have tle : t ≤ 2 ^ 256 := by rw [← ht]; exact Nat.pow_le_pow_right (by omega) (by omega)
  have LT : Hid (∀ x, (limbs (t - x)).length ≤ 1000000) := fun x => num_limbs (Nat.le_trans (nDigits_le (k := 78) (by omega) (Nat.lt_of_le_of_lt (Nat.le_trans (Nat.sub_le t x) tle) (by decide))) (by omega))
  have HLE : Hid (∀ i, cnt ws t i ≤ t - lwS ws t i) := fun i => cnt_le ws t i hS
  have HNX : Hid (∀ i, t - lwS ws t i - cnt ws t i = t - lwS ws t (i + 1)) := fun i => by
    show _ = t - (lwS ws t i + cnt ws t i)
    omega
  have R3 := hid r3
  clear hv r3 ht hN tle hS
  go_enter Tryz.func86, Tryz.ntmps86
  go_wp2_with fail
  refine (RT _).out.mono ?_; rintro e w1 ⟨⟨v1, rfl, hv1⟩, hb1⟩
  have V1 := hid hv1; have B1 := hid hb1; clear hv1 hb1
  go_wp2_with fail
  go_loopw [5, 6] (fun oo ii wr => ∃ i : Nat, ii = .int .i64 i ∧ i ≤ N ∧ Hid (IsN .i64 wr oo (t - lwS ws t i)) ∧ Hid (Below w.heap.size w wr)) (fun oo ii wr => N - (intOf ii).toNat)
  case atStart => exact ⟨0, rfl, Nat.zero_le _, V1, B1⟩
  case round =>
    obtain ⟨i, rfl, hi, hO, hB⟩ := hrel
    by_cases hlt : i < N
    · obtain ⟨g, o, y, rfl, hg, hc, hy⟩ := R3.out i hlt
      have hcw := (hB.out.cell (p := ⟨g, o + i, none⟩) hg).trans hc
      have HY := hid hy
      have c1 : (0 : Int) ≤ (i : Int) := by omega
      have c2 : (i : Int) < (N : Int) := by omega
      have wi : IntKind.i64.wrap ((i : Int) + 1) = ((i + 1 : Nat) : Int) := by rw [IntWalk.i64_in _ ⟨by omega, by omega⟩]; omega
      clear hc hy
      go_wp2_with fail
      refine (r1_Minus _ _ _ _ _ hO.out (HY.out.call hB.out) (HLE.out i) (LT.out _)).mono ?_; rintro e w2 ⟨⟨v2, rfl, hv2⟩, hb2⟩
      have V2 := hid (hv2.cast (HNX.out i)); have B2 := hid (bnext hB.out hb2); clear hv2 hb2
      go_wp2_with fail
      go_roundw
      case rel => exact ⟨i + 1, by go_num, by omega, V2, B2⟩
      case measure => simp [intOf] <;> omega
    · obtain rfl : i = N := by omega
      go_wp2_with fail
      go_ret
      exact ⟨⟨_, rfl, hO.out⟩, hB.out⟩

set_option maxRecDepth 100000 in
set_option maxHeartbeats 1000000 in
theorem r3_Share (w : World) (v : Value) (m n : Nat) (hv : IsN .i64 w v m) (hn : n ≤ 256) (hm : m ≤ 2 ^ 256) :
    Calls Tryz.prog 85 #[v, .int .i64 (n : Nat)] w fun e w' => e = .returned (.string (shB m (2 ^ n))) ∧ Below w.heap.size w w' := by
  have RT := fun V => hid (r3_Two V n (by omega))
  obtain ⟨t, ht⟩ : ∃ t, 2 ^ n = t := ⟨_, rfl⟩
  rw [ht] at RT ⊢
  have tle : t ≤ 2 ^ 256 := by rw [← ht]; exact Nat.pow_le_pow_right (by omega) (by omega)
  have tpos : t ≠ 0 := by rw [← ht]; exact Nat.ne_of_gt (Nat.pow_pos (by omega))
  have big : ∀ x, x ≤ 2 ^ 256 → nDigits x ≤ 78 := fun x hx => nDigits_le (by omega) (Nat.lt_of_le_of_lt hx (by decide))
  have dm := big m hm; have dt := big t tle
  have LM : Hid ((limbs m).length ≤ 1000000) := num_limbs (by omega)
  have LT : Hid ((limbs t).length ≤ 1000000) := num_limbs (by omega)
  have RM := fun V => hid (r2_Make_num V m t (by omega) (by omega) tpos)
  have V0 := hid hv
  clear hv ht tle tpos big hm dm dt
  go_enter Tryz.func85, Tryz.ntmps85
  go_wp2_with fail
  refine (r1_Write _ _ _ V0.out LM.out).mono ?_; rintro e w1 ⟨rfl, hb1⟩
  have B1 := hid hb1; clear hb1
  go_wp2_with fail
  refine (RT _).out.mono ?_; rintro e w2 ⟨⟨v2, rfl, hv2⟩, hb2⟩
  have V2 := hid hv2; have B2 := hid (bnext B1.out hb2); clear hv2 hb2
  go_wp2_with fail
  refine (r1_Write _ _ _ V2.out LT.out).mono ?_; rintro e w3 ⟨rfl, hb3⟩
  have B3 := hid (bnext B2.out hb3); clear hb3
  go_wp2_with fail
  refine (RM _).out.mono ?_; rintro e w4 ⟨rfl, hb4⟩
  have B4 := hid (bnext B3.out hb4); clear hb4
  go_wp2_with fail
  go_ret
  exact ⟨rfl, B4.out⟩

/-- The sum of the cells as the program tells it. -/
theorem late_ok {l : List ByteArray} (h : wsE l = 0) (n : Nat) (hn : n ≤ 256) : 2 ^ n - lwS (l.map bN) (2 ^ n) l.length ≤ 2 ^ 256 := Nat.le_trans (Nat.sub_le _ _) (Nat.pow_le_pow_right (by omega) hn)

set_option maxRecDepth 100000 in
set_option maxHeartbeats 2000000 in
theorem r5_Late (w : World) (v : Value) (l : List ByteArray) (n : Int) (hv : Row w v (strs l)) (hl : ∀ x ∈ l, x.size ≤ 1000000) :
    Calls Tryz.prog 34 #[v, .int .i64 n] w fun e w' => e = .returned (.tuple #[.string (lateR l n), .int .i64 (lawE l n)]) ∧ Below w.heap.size w w' := by
  have PC := hid ((r5_Check w v l hv hl).mono fun e w' (h : e = .returned (.int .i64 (wsE l)) ∧ w = w') => (⟨h.1, h.2 ▸ Below.refl _ _⟩ : e = .returned (.int .i64 (wsE l)) ∧ Below w.heap.size w w'))
  have HV := hid hv
  obtain ⟨a, c, rfl, q1, q2, -⟩ := hv.openS
  by_cases he : wsE l = 0
  · by_cases hr : n < 0 ∨ 256 < n
    · have e1 : lawE l n = 2 := by rw [lawE, if_neg (by simpa using he), if_pos hr]
      have e2 : lateR l n = ⟨#[]⟩ := by unfold lateR; rw [if_neg (by rw [e1]; decide)]
      rw [e1, e2]
      rw [he] at PC
      obtain ⟨N, hN⟩ : ∃ N, l.length = N := ⟨_, rfl⟩
      rw [hN] at PC q1 ⊢
      clear hv hl hN HV e1 e2 he
      by_cases h4 : n < 0
      · have q0 : decide (n < 0) = true := by simpa using h4
        clear hr h4
        go_enter Tryz.func34, Tryz.ntmps34
        go_wp2_with fail
        refine PC.out.mono ?_; rintro e w1 ⟨rfl, hb1⟩
        go_wp2_with fail
        go_ret2
        exact ⟨rfl, hb1⟩
      · have q0 : decide (n < 0) = false := by simpa using h4
        have q1' : decide (256 < n) = true := by simp; omega
        clear hr h4
        go_enter Tryz.func34, Tryz.ntmps34
        go_wp2_with fail
        refine PC.out.mono ?_; rintro e w1 ⟨rfl, hb1⟩
        go_wp2_with fail
        go_ret2
        exact ⟨rfl, hb1⟩
    · obtain ⟨m, rfl⟩ : ∃ m : Nat, n = m := ⟨n.toNat, by omega⟩
      have hm : m ≤ 256 := by omega
      have e1 : lawE l (m : Int) = 0 := by rw [lawE, if_neg (by simpa using he), if_neg hr]
      have e2 : lateR l (m : Int) = shB (2 ^ m - lwS (l.map bN) (2 ^ m) l.length) (2 ^ m) := by unfold lateR; rw [if_pos e1]; simp
      obtain ⟨D1, D2, D3⟩ := wsE_ok he
      have hS := wsE_pos he
      have hlen : (l.map bN).length = l.length := by simp
      have RC := hid fun V (hV : Row V (.slice a l.length c) (strs l)) => r5_counts V (.slice a l.length c) (l.map bN) m D2 hS (by rw [← D1]; exact hV) hm
      have RL := hid fun V u (hu : NRow V u (l.map bN).length (cnt (l.map bN) (2 ^ m))) => r5_late V u (l.map bN) m hS hm D2.len hu
      have RS := hid fun V u (hu : IsN .i64 V u (2 ^ m - lwS (l.map bN) (2 ^ m) l.length)) => r3_Share V u _ m hu hm (late_ok he m hm)
      rw [hlen] at RL RC
      rw [e1, e2]
      rw [he] at PC
      have q0 : decide ((m : Int) < 0) = false := by simp
      have q1' : decide ((256 : Int) < (m : Int)) = false := by simp; omega
      obtain ⟨N, hN⟩ : ∃ N, l.length = N := ⟨_, rfl⟩
      rw [hN] at PC q1 RL RS RC HV ⊢
      obtain ⟨X, hX⟩ : ∃ X, shB (2 ^ m - lwS (l.map bN) (2 ^ m) N) (2 ^ m) = X := ⟨_, rfl⟩
      rw [hX] at RS ⊢
      obtain ⟨Y, hY⟩ : ∃ Y, 2 ^ m - lwS (l.map bN) (2 ^ m) N = Y := ⟨_, rfl⟩
      rw [hY] at RS RL
      obtain ⟨f, hf⟩ : ∃ f, cnt (l.map bN) (2 ^ m) = f := ⟨_, rfl⟩
      rw [hf] at RL RC
      clear hv hl hN e1 e2 he hr D1 D2 D3 hS hlen hX hY hf
      go_enter Tryz.func34, Tryz.ntmps34
      go_wp2_with fail
      refine PC.out.mono ?_; rintro e w1 ⟨rfl, hb1⟩
      have B1 := hid hb1; clear hb1
      go_wp2_with fail
      refine (RC.out _ (HV.out.call B1.out)).mono ?_; rintro e w2 ⟨⟨u2, rfl, hu2⟩, hb2⟩
      have U2 := hid hu2; have B2 := hid (bnext B1.out hb2); clear hu2 hb2
      go_wp2_with fail
      refine (RL.out _ _ U2.out).mono ?_; rintro e w3 ⟨⟨u3, rfl, hu3⟩, hb3⟩
      have U3 := hid hu3; have B3 := hid (bnext B2.out hb3); clear hu3 hb3
      go_wp2_with fail
      refine (RS.out _ _ U3.out).mono ?_; rintro e w4 ⟨rfl, hb4⟩
      have B4 := hid (bnext B3.out hb4); clear hb4
      go_wp2_with fail
      go_ret2
      exact ⟨rfl, B4.out⟩
  · have e1 : lawE l n = wsE l := by rw [lawE, if_pos he]
    have e2 : lateR l n = ⟨#[]⟩ := by unfold lateR; rw [if_neg (by rw [e1]; exact he)]
    rw [e1, e2]
    obtain ⟨N, hN⟩ : ∃ N, l.length = N := ⟨_, rfl⟩
    obtain ⟨z, hz⟩ : ∃ z, wsE l = z := ⟨_, rfl⟩
    rw [hN, hz] at PC
    rw [hN, hz]
    rw [hN] at q1
    rw [hz] at he
    have q0 : (z != 0) = true := by simpa using he
    clear hv hl hN HV e1 e2 he hz
    go_enter Tryz.func34, Tryz.ntmps34
    go_wp2_with fail
    refine PC.out.mono ?_; rintro e w1 ⟨rfl, hb1⟩
    go_wp2_with fail
    go_ret2
    exact ⟨rfl, hb1⟩
end Go.Proofs.YtjgcjjbnnlnilaaGreatDoor

/- Walks: law05.share, kit.Has at masses, ref03.All. -/
namespace Go.Proofs.YtjgcjjbnnlnilaaGreatDoor
open Go.RowKit Go.Shelf
open Go.Lib (decDigits nDigits)
set_option linter.unusedVariables false
set_option linter.unusedSimpArgs false

set_option maxRecDepth 100000 in
set_option maxHeartbeats 1000000 in
theorem w_share (w : World) (k n : Nat) (hk : k ≤ 1000000) (hn : n ≤ 12) :
    Calls Tryz.prog 21 #[.int .i64 (k : Nat), .int .i64 (n : Nat)] w fun e w' => e = .returned (.string (shB k (2 ^ n))) ∧ Below w.heap.size w w' := by
  have hp : 2 ^ n ≤ 4096 := Nat.le_trans (Nat.pow_le_pow_right (by omega) hn) (by decide)
  have hp0 : 0 < 2 ^ n := Nat.pow_pos (by omega)
  have H1 := fun V => hid (r2_Int V k (by omega))
  have H2 := fun V => hid (r2_Int V (2 ^ n) (by omega))
  have HM := fun V => hid (r2_Make_num V k (2 ^ n) (Nat.le_trans (nDigits_le (k := 7) (by omega) (by omega)) (by omega)) (Nat.le_trans (nDigits_le (k := 4) (by omega) (by omega)) (by omega)) (by omega))
  have ws : IntKind.i64.wrap ((2 : Int) ^ n) = ((2 ^ n : Nat) : Int) := by
    have e : ((2 ^ n : Nat) : Int) = (2 : Int) ^ n := by simp
    rw [← e]
    rw [IntWalk.i64_in _ ⟨by omega, by omega⟩]
  have b1 : (0 : Int) ≤ (n : Int) := by omega
  have b2 : (n : Int) ≤ 64 := by omega
  obtain ⟨oE, hE⟩ : ∃ x, outE (qmk false k (2 ^ n)) = x := ⟨_, rfl⟩
  rw [hE, show outB (qmk false k (2 ^ n)) = shB k (2 ^ n) from rfl] at HM
  generalize shB k (2 ^ n) = B at *
  generalize numB k = A1 at *
  generalize numB (2 ^ n) = A2 at *
  clear hE
  go_enter Tryz.func21, Tryz.ntmps21
  go_wp2_with fail
  refine held_plain [0, 2, 3] 8 (fun _ => True) (by kernel_rfl) (by kernel_rfl) (by kernel_rfl) (by kernel_rfl) trivial ?_
  iterate 3
    refine ⟨_, rfl, ?_⟩
    apply Exists.intro
    refine ⟨.inl ⟨by rfl, ?_⟩, ?_⟩
    · (intro W' hW'; clear hW'; go_simp; try (with_reducible rfl))
    (dsimp only [Act.put]; try simp only [List.setIfInBounds_toArray, List.set_cons_zero, List.set_cons_succ])
  refine held_one (i := 1) (by kernel_rfl) (by rfl) (by rfl) ?_
  go_wp2_with fail
  refine (H1 _).out.mono ?_; rintro e w1 ⟨rfl, rfl⟩
  go_wp2_with fail
  refine ⟨trivial, ?_⟩
  refine held_one (i := 4) (by kernel_rfl) (by rfl) (by rfl) ?_
  go_wp2_with fail
  refine (H2 _).out.mono ?_; rintro e w1 ⟨rfl, rfl⟩
  go_wp2_with fail
  refine ⟨trivial, ?_⟩
  refine held_one (i := 5) (by kernel_rfl) (by rfl) (by rfl) ?_
  go_wp2_with fail
  refine (HM _).out.mono ?_; rintro e w1 ⟨rfl, hb1⟩
  have y1 := hid (show Below w.heap.size w w1 from (Below.refl _ _).drew.trans hb1); clear hb1
  go_wp2_with fail
  refine ⟨trivial, ?_⟩
  refine held_more (is := [6, 7, 8, 9, 10]) (g := 0) (by kernel_rfl) rfl trivial (by kernel_rfl) ?_
  iterate 5
    refine ⟨_, rfl, ?_⟩
    apply Exists.intro
    refine ⟨.inl ⟨by rfl, ?_⟩, ?_⟩
    · (intro W' hW'; clear hW'; go_simp; try (with_reducible rfl))
    (dsimp only [Act.put]; try simp only [List.setIfInBounds_toArray, List.set_cons_zero, List.set_cons_succ])
  refine wpAnyH_done (by kernel_rfl) ?_ _
  simp only [Only]
  go_wp2_with fail
  go_ret
  exact ⟨rfl, y1.out⟩

/-- Whether a list holds a pair. -/
def hasM (L : List (ByteArray × ByteArray)) (x : ByteArray × ByteArray) : Bool := L.any (fun y => decide (y = x))
theorem hasM_iff {L : List (ByteArray × ByteArray)} {x : ByteArray × ByteArray} : hasM L x = true ↔ x ∈ L := by
  unfold hasM
  rw [List.any_eq_true]
  exact ⟨fun ⟨y, hy, e⟩ => by rw [decide_eq_true_eq] at e; exact e ▸ hy, fun h => ⟨x, h, by simp⟩⟩

set_option maxRecDepth 100000 in
set_option maxHeartbeats 2000000 in
theorem k_HasM (w : World) (v : Value) (L : List (ByteArray × ByteArray)) (x1 x2 : ByteArray) (hv : MRow w v L) :
    Calls Tryz.prog 19 #[v, .agg #[.string x1, .string x2]] w fun e w' => e = .returned (.bool (hasM L (x1, x2))) ∧ Below w.heap.size w w' := by
  obtain ⟨a, c, rfl, h1, h2, h3⟩ := hv.ex
  obtain ⟨n, hn⟩ : ∃ n, L.length = n := ⟨_, rfl⟩
  rw [hn] at h1 ⊢
  have H3 := hid h3; have HN := hid hn
  have X := hid (Blk.new w #[.string x1, .string x2] 43)
  have B := hid ((Below.refl w.heap.size w).alloc (Nat.le_refl _) (.cells #[.string x1, .string x2] 43))
  clear hv h3 hn
  go_enter Tryz.func19, Tryz.ntmps19
  go_wp2_with fail
  go_loopw [5] (fun ii wr => ∃ i : Nat, ii = .int .i64 (i : Nat) ∧ i ≤ n ∧ Hid (∀ j, j < i → L[j]? ≠ some (x1, x2)) ∧ Hid (Blk wr w.heap.size #[.string x1, .string x2] 43) ∧ Hid (Below w.heap.size w wr)) (fun ii wr => n - (intOf ii).toNat)
  case atStart => exact ⟨0, rfl, Nat.zero_le _, fun j hj => absurd hj (by omega), X, B⟩
  case round =>
    obtain ⟨i, rfl, hi, hI, hX, hB⟩ := hrel
    by_cases hlt : i < n
    · obtain ⟨y, hy⟩ : ∃ x, L[i]? = some x := ⟨_, List.getElem?_eq_getElem (by rw [HN.out]; exact hlt)⟩
      obtain ⟨g, o, rfl, hg, k1, k2⟩ := H3.out i y hy
      obtain ⟨y1, y2⟩ := y
      have HY := hid hy
      have m1 := (hB.out.cell (p := ⟨g, o + 2 * i, none⟩) hg).trans k1
      have m2 := (hB.out.cell (p := ⟨g, o + 2 * i + 1, none⟩) hg).trans k2
      have m3 := hX.out.cell 0
      have m4 := hX.out.cell 1
      simp at m3 m4
      dsimp only at m1 m2
      rw [Nat.mul_comm 2 i] at m1 m2
      have b1 : (0 : Int) ≤ (i : Int) := by omega
      have b2 : (i : Int) < (n : Int) := by omega
      have wi : IntKind.i64.wrap ((i : Int) + 1) = (i : Int) + 1 := by rw [IntWalk.i64_in _ ⟨by omega, by omega⟩]
      clear k1 k2 hy hg
      by_cases he : y1 = x1 ∧ y2 = x2
      · obtain ⟨rfl, rfl⟩ := he
        have hmem : (y1, y2) ∈ L := List.mem_of_getElem? HY.out
        have HM := hid hmem
        clear hmem
        go_wp2_with fail
        refine held_plain [0, 1, 2, 3, 4, 5] 0 (fun w' => w'.cell? ⟨g, o + i * 2, none⟩ = some (.string y1) ∧ w'.cell? ⟨g, o + i * 2 + 1, none⟩ = some (.string y2) ∧ w'.cell? ⟨w.heap.size, 0, none⟩ = some (.string y1) ∧ w'.cell? ⟨w.heap.size, 1, none⟩ = some (.string y2)) (by kernel_rfl) (by kernel_rfl) (by kernel_rfl) (by kernel_rfl) ⟨m1, m2, m3, m4⟩ ?_
        iterate 6
          refine ⟨_, rfl, ?_⟩
          apply Exists.intro
          refine ⟨.inl ⟨by rfl, ?_⟩, ?_⟩
          · (intro W' hW'; obtain ⟨q1, q2, q3, q4⟩ := hW'; go_simp; try (with_reducible rfl))
          (dsimp only [Act.put]; try simp only [List.setIfInBounds_toArray, List.set_cons_zero, List.set_cons_succ])
        refine wpAnyH_done (by kernel_rfl) ?_ _
        simp only [Only]
        go_wp2_with fail
        go_ret
        exact ⟨by rw [hasM_iff.2 HM.out]; rfl, hB.out.drew⟩
      · have hne : ¬ ((y1, y2) : ByteArray × ByteArray) = (x1, x2) := by simpa using he
        have HNE := hid hne
        have hb : (decide (y1 = x1) && decide (y2 = x2)) = false := by
          rw [Bool.and_eq_false_iff, decide_eq_false_iff_not, decide_eq_false_iff_not]
          by_cases h : y1 = x1
          · exact .inr fun h' => he ⟨h, h'⟩
          · exact .inl h
        have fin : Hid (∀ j, j < i + 1 → L[j]? ≠ some (x1, x2)) := fun j hj => by
          rcases Nat.lt_or_ge j i with h | h
          · exact hI.out j h
          · obtain rfl : j = i := by omega
            rw [HY.out]; exact fun e => HNE.out (Option.some.inj e)
        clear he hne hb
        by_cases h1 : y1 = x1
        · subst h1
          have n2 := ne_tl (show ¬ y2 = x2 from fun e => HNE.out (by rw [e]))
          go_wp2_with fail
          refine held_plain [0, 1, 2, 3, 4, 5] 0 (fun w' => w'.cell? ⟨g, o + i * 2, none⟩ = some (.string y1) ∧ w'.cell? ⟨g, o + i * 2 + 1, none⟩ = some (.string y2) ∧ w'.cell? ⟨w.heap.size, 0, none⟩ = some (.string y1) ∧ w'.cell? ⟨w.heap.size, 1, none⟩ = some (.string x2)) (by kernel_rfl) (by kernel_rfl) (by kernel_rfl) (by kernel_rfl) ⟨m1, m2, m3, m4⟩ ?_
          iterate 6
            refine ⟨_, rfl, ?_⟩
            apply Exists.intro
            refine ⟨.inl ⟨by rfl, ?_⟩, ?_⟩
            · (intro W' hW'; obtain ⟨q1, q2, q3, q4⟩ := hW'; go_simp; try (with_reducible rfl))
            (dsimp only [Act.put]; try simp only [List.setIfInBounds_toArray, List.set_cons_zero, List.set_cons_succ])
          refine wpAnyH_done (by kernel_rfl) ?_ _
          simp only [Only]
          go_wp2_with fail
          go_roundw
          case rel => exact ⟨i + 1, rfl, by omega, fin, hX.out.drew, hB.out.drew⟩
          case measure => simp [intOf] <;> omega
        · have n1 := ne_tl h1
          clear h1
          go_wp2_with fail
          refine held_plain [0, 1, 2, 3, 4, 5] 0 (fun w' => w'.cell? ⟨g, o + i * 2, none⟩ = some (.string y1) ∧ w'.cell? ⟨g, o + i * 2 + 1, none⟩ = some (.string y2) ∧ w'.cell? ⟨w.heap.size, 0, none⟩ = some (.string x1) ∧ w'.cell? ⟨w.heap.size, 1, none⟩ = some (.string x2)) (by kernel_rfl) (by kernel_rfl) (by kernel_rfl) (by kernel_rfl) ⟨m1, m2, m3, m4⟩ ?_
          iterate 6
            refine ⟨_, rfl, ?_⟩
            apply Exists.intro
            refine ⟨.inl ⟨by rfl, ?_⟩, ?_⟩
            · (intro W' hW'; obtain ⟨q1, q2, q3, q4⟩ := hW'; go_simp; try (with_reducible rfl))
            (dsimp only [Act.put]; try simp only [List.setIfInBounds_toArray, List.set_cons_zero, List.set_cons_succ])
          refine wpAnyH_done (by kernel_rfl) ?_ _
          simp only [Only]
          go_wp2_with fail
          go_roundw
          case rel => exact ⟨i + 1, rfl, by omega, fin, hX.out.drew, hB.out.drew⟩
          case measure => simp [intOf] <;> omega
    · obtain rfl : i = n := by omega
      have hE : hasM L (x1, x2) = false := by
        rw [Bool.eq_false_iff]
        intro hm
        rw [hasM_iff] at hm
        obtain ⟨j, hj⟩ := List.getElem?_of_mem hm
        exact hI.out j (by have := (List.getElem?_eq_some_iff.1 hj).1; rw [HN.out] at this; exact this) hj
      have HE := hid hE
      have q1 : decide ((i : Int) < (i : Int)) = false := by simp
      clear hlt hE
      go_wp2_with fail
      go_ret
      exact ⟨by rw [HE.out]; rfl, hB.out⟩
end Go.Proofs.YtjgcjjbnnlnilaaGreatDoor

/- Walks: ref03.All. -/
namespace Go.Proofs.YtjgcjjbnnlnilaaGreatDoor
open Go.RowKit Go.Shelf
open Go.Lib (decDigits nDigits)
set_option linter.unusedVariables false
set_option linter.unusedSimpArgs false

theorem info_bits : (Tryz.prog.info? 24).map (fun i => (i.zero, i.size, i.bytes)) = some (some (.string ⟨#[]⟩), 1, 16) := by kernel_rfl

/-- A word as a text. -/
def tb (l : List UInt8) : ByteArray := ⟨l.toArray⟩
theorem tb_size (l : List UInt8) : (tb l).size = l.length := by simp [tb, ByteArray.size]
theorem tb_snoc (l : List UInt8) (b : UInt8) : tb l ++ (⟨#[b]⟩ : ByteArray) = tb (l ++ [b]) := by
  apply ba_ext
  simp [tb]
/-- The words behind some words. -/
def nextW (L : List (List UInt8)) : List (List UInt8) := L.flatMap fun l => [l ++ [48], l ++ [49]]
theorem nextW_len (L : List (List UInt8)) : (nextW L).length = 2 * L.length := by
  unfold nextW
  induction L with
  | nil => rfl
  | cons a r ih => rw [List.flatMap_cons, List.length_append, ih, List.length_cons]; simp; omega
theorem nextW_snoc (L : List (List UInt8)) (l : List UInt8) : nextW (L ++ [l]) = nextW L ++ [l ++ [48], l ++ [49]] := by simp [nextW]

set_option maxRecDepth 100000 in
set_option maxHeartbeats 4000000 in
theorem r3_All (w : World) (n : Nat) (hn : n ≤ 12) :
    Calls Tryz.prog 18 #[.int .i64 (n : Nat)] w fun e w' => (∃ v, e = .returned (.tuple #[v, .int .i64 0]) ∧ Row w' v (strs ((allW n).map tb))) ∧ Below w.heap.size w w' := by
  obtain ⟨i0, hi, hz0, hz1, hz2⟩ := info_parts info_bits
  have t1 : decide ((n : Int) < 0) = false := by simp
  have t2 : decide ((12 : Int) < (n : Int)) = false := by simp; omega
  have R0 : Row (w.alloc (.cells #[.string ⟨#[]⟩] 24)) (.slice (some ⟨w.heap.size, 0, none⟩) 1 1) (strs ((allW 0).map tb)) :=
    Row.of_blk (n := 1) (Blk.new w _ _) rfl (by decide) (fun i x h => by
      rcases i with _ | i
      · simp [allW, strs, tb] at h ⊢; exact h
      · simp [allW, strs, tb] at h) (Nat.le_refl 1) (by decide)
  have HR0 := hid R0
  have B0 := hid ((Below.refl w.heap.size w).alloc (Nat.le_refl _) (.cells #[.string ⟨#[]⟩] 24))
  clear R0
  go_enter Tryz.func18, Tryz.ntmps18
  go_wp2_with fail
  go_loopw [0, 4] (fun s0 s4 wr => ∃ j : Nat, j ≤ n ∧ s0 = .int .i64 ((n - j : Nat) : Int) ∧ Hid (Row wr s4 (strs ((allW j).map tb))) ∧ Hid (Below w.heap.size w wr)) (fun s0 s4 wr => (intOf s0).toNat)
  case atStart => exact ⟨0, Nat.zero_le _, rfl, HR0, B0⟩
  case round =>
    obtain ⟨j, hj, rfl, hR, hB⟩ := hrel
    by_cases hlt : j < n
    · have q1 : decide (0 < n - j) = true := by simp; omega
      have hp : 2 ^ j ≤ 4096 := Nat.le_trans (Nat.pow_le_pow_right (by omega) (show j ≤ 12 by omega)) (by decide)
      have hlen : ((allW j).map tb).length = 2 ^ j := by rw [List.length_map, allW_length]
      obtain ⟨m, hm⟩ : ∃ m, 2 ^ j = m := ⟨_, rfl⟩
      rw [hm] at hp hlen
      obtain ⟨a, c, rfl, c1, c2, -⟩ := hR.out.openS
      rw [hlen] at hR c1 ⊢
      have HLN := hid hlen
      have q2 : (0 : Int) < ((n - j : Nat) : Int) := by omega
      have wn : IntKind.i64.wrap (((n - j : Nat) : Int) - 1) = ((n - (j + 1) : Nat) : Int) := by rw [IntWalk.i64_in _ ⟨by omega, by omega⟩]; omega
      have HWN := hid wn
      obtain ⟨wo, hwo⟩ : ∃ wo : World, wo = wr := ⟨_, rfl⟩
      subst hwo
      have HBO := hid hB.out.size
      clear hlen hm wn
      go_wp2_with fail
      clear q1
      go_loopw [5, 6] (fun s5 s6 wr => ∃ i : Nat, i ≤ m ∧ s6 = .int .i64 (i : Nat) ∧ Hid (wr.ownsRow wo.heap.size 24 1 s5 (2 * i) (strs ((nextW ((allW j).take i)).map tb))) ∧ Hid (Below wo.heap.size wo wr)) (fun s5 s6 wr => m - (intOf s6).toNat)
      case atStart => exact ⟨0, Nat.zero_le _, rfl, ⟨rfl, .inl ⟨rfl, rfl⟩⟩, Below.refl _ _⟩
      case round =>
        obtain ⟨i, hi2, rfl, hO, hB2⟩ := hrel
        by_cases hlt2 : i < m
        · obtain ⟨l, hl⟩ : ∃ l, (allW j)[i]? = some l := ⟨_, List.getElem?_eq_getElem (by have := HLN.out; rw [List.length_map] at this; omega)⟩
          have hll := allW_len (List.mem_of_getElem? hl)
          obtain ⟨g, o, rfl, hg, hc⟩ := hR.out.at (strs_get (show ((allW j).map tb)[i]? = some (tb l) by rw [List.getElem?_map, hl]; rfl))
          have hc2 := (hB2.out.cell (p := ⟨g, o + i, none⟩) hg).trans hc
          have hsz : ¬ 9223372036854775807 < (tb l).size + 1 := by rw [tb_size]; omega
          have HX : Hid ((allW j).take (i + 1) = (allW j).take i ++ [l]) := by show (allW j).take (i + 1) = _; rw [List.take_add_one, hl]; rfl
          have b1 : (0 : Int) ≤ (i : Int) := by omega
          have b2 : (i : Int) < (m : Int) := by omega
          have wi : IntKind.i64.wrap ((i : Int) + 1) = ((i + 1 : Nat) : Int) := by rw [IntWalk.i64_in _ ⟨by omega, by omega⟩]; omega
          have e1 := hid (tb_snoc l 48)
          have e2 := hid (tb_snoc l 49)
          have KK : Hid (∀ w', Below wr.heap.size wr w' → w'.cell? ⟨g, o + i, none⟩ = some (.string (tb l))) := fun w' hb => (hb.cell (p := ⟨g, o + i, none⟩) (Nat.lt_of_lt_of_le hg hB2.out.size)).trans hc2
          obtain ⟨X, hX⟩ : ∃ X, tb l = X := ⟨_, rfl⟩
          rw [hX] at hc2 hsz e1 e2 KK
          clear hl hll hc hX
          go_wp2_with fail
          refine held_plain [0, 1, 2, 3, 4, 5, 6, 7, 8, 9, 10] 3 (fun w' => w'.cell? ⟨g, o + i, none⟩ = some (.string X)) (by kernel_rfl) (by kernel_rfl) (by kernel_rfl) (by kernel_rfl) (KK.out _ (Below.refl _ _).drew) ?_
          iterate 11
            refine ⟨_, rfl, ?_⟩
            apply Exists.intro
            refine ⟨.inl ⟨by rfl, ?_⟩, ?_⟩
            · (intro W' hW'; obtain q1 := hW'; go_simp; try (with_reducible rfl))
            (dsimp only [Act.put]; try simp only [List.setIfInBounds_toArray, List.set_cons_zero, List.set_cons_succ])
          refine held_one (i := 11) (by kernel_rfl) (by rfl) (by rfl) ?_
          go_wp2_with fail
          refine ⟨KK.out _ ((Below.refl _ _).drew.alloc (Nat.le_refl _) _), ?_⟩
          refine held_one (i := 12) (by kernel_rfl) (by rfl) (by rfl) ?_
          have cells : ∀ j u, [Value.string (X ++ ⟨#[48]⟩), .string (X ++ ⟨#[49]⟩)][j]? = some u → (wr.alloc (.cells #[.string (X ++ ⟨#[48]⟩), .string (X ++ ⟨#[49]⟩)] 24)).drew.cell? ((⟨wr.heap.size, 0, none⟩ : Addr).add j) = some u := cell_two_new wr _ _ 24
          refine wpList_append_own _ rfl _ _ 46 rfl wo.heap.size 24 i0 (.string ⟨#[]⟩) 1 16 Tryz.underlying46 hi hz0 hz1 hz2 rfl (by decide) _ (2 * i) _ rfl (hO.out.alloc _) ⟨wr.heap.size, 0, none⟩ 2 2 [.string (X ++ ⟨#[48]⟩), .string (X ++ ⟨#[49]⟩)] rfl rfl cells (by simp [Value.oneCell']) (by unfold maxLen; omega) (by omega) (by have := hB2.out.size; simp; omega) ?_
          intro v' w3 hown3 hgrow3 _
          have hO3 := hid (show w3.ownsRow wo.heap.size 24 1 v' (2 * (i + 1)) (strs ((nextW ((allW j).take (i + 1))).map tb)) by
            rw [HX.out, nextW_snoc, List.map_append, strs_append]
            have h2 : strs ([l ++ [48], l ++ [49]].map tb) = [.string (X ++ ⟨#[48]⟩), .string (X ++ ⟨#[49]⟩)] := by
              rw [e1.out, e2.out]; rfl
            rw [h2]
            exact hown3)
          have hB3 : Hid (Below wo.heap.size wo w3) := by
            refine ((hB2.out.alloc hB2.out.size _).drew).trans ⟨hgrow3.os, hgrow3.tape, hgrow3.output, hgrow3.size, fun k hk => hgrow3.block k (by have := hB2.out.size; simp; omega) (fun e => ?_)⟩
            have := (hO.out.lt k e.symm).1
            omega
          have m0 : w3.cell? ⟨g, o + i, none⟩ = some (.string X) := (hB3.out.cell (p := ⟨g, o + i, none⟩) hg).trans ((hB2.out.cell (p := ⟨g, o + i, none⟩) hg).symm.trans hc2)
          clear hown3 hgrow3 cells
          go_wp2_with fail
          refine ⟨m0, ?_⟩
          refine held_more (is := [13]) (g := 0) (by kernel_rfl) rfl m0 (by kernel_rfl) ?_
          iterate 1
            refine ⟨_, rfl, ?_⟩
            apply Exists.intro
            refine ⟨.inl ⟨by rfl, ?_⟩, ?_⟩
            · (intro W' hW'; obtain q1 := hW'; go_simp; try (with_reducible rfl))
            (dsimp only [Act.put]; try simp only [List.setIfInBounds_toArray, List.set_cons_zero, List.set_cons_succ])
          refine wpAnyH_done (by kernel_rfl) ?_ _
          simp only [Only]
          go_wp2_with fail
          go_roundw
          case rel => exact ⟨i + 1, by omega, by go_num, hO3, hB3⟩
          case measure => simp [intOf] <;> omega
        · obtain rfl : i = m := by omega
          have q1 : decide ((i : Int) < (i : Int)) = false := by simp
          have h := hO.out
          rw [List.take_of_length_le (by have := HLN.out; rw [List.length_map] at this; omega)] at h
          have hrow := hid (show Row _ _ (strs ((allW (j + 1)).map tb)) from Row.of_owns h)
          have hB3 := hid (hB.out.trans (hB2.out.mono HBO.out))
          have wn := HWN.out
          clear hlt2 h
          go_wp2_with fail
          go_roundw
          case rel => exact ⟨j + 1, by omega, rfl, hrow, hB3⟩
          case measure => simp [intOf] <;> omega
    · obtain rfl : j = n := by omega
      have q1 : decide (((j - j : Nat) : Int) > 0) = false := by simp
      have q2 : ((j - j : Nat) : Int) = 0 := by simp
      obtain ⟨a, c, rfl, -⟩ := hR.out.openS
      clear hlt
      go_wp2_with fail
      go_ret2
      exact ⟨⟨_, rfl, hR.out⟩, hB.out⟩
end Go.Proofs.YtjgcjjbnnlnilaaGreatDoor

/- Plain: what the law PickCounts counts. -/
namespace Go.Proofs.YtjgcjjbnnlnilaaGreatDoor
open Go.RowKit Go.Maps
open Go.Lib (decDigits nDigits)
set_option linter.unusedVariables false

/-- How often each index was drawn. -/
def cntL (f : Nat → Nat → Nat × Bool) (N : Nat) (W : List (List UInt8)) : List Nat := (List.range N).map fun i => W.countP (drawsI f i)
theorem cntL_len (f : Nat → Nat → Nat × Bool) (N : Nat) (W : List (List UInt8)) : (cntL f N W).length = N := by simp [cntL]
theorem cntL_nil (f : Nat → Nat → Nat × Bool) (N : Nat) : cntL f N [] = List.replicate N 0 := by
  unfold cntL
  apply List.ext_getElem?
  intro i
  by_cases h : i < N <;> simp [h]
theorem cntL_get {f : Nat → Nat → Nat × Bool} {N : Nat} {W : List (List UInt8)} {i : Nat} (h : i < N) : (cntL f N W)[i]? = some (W.countP (drawsI f i)) := by
  unfold cntL
  simp [h]
theorem cntL_done {f : Nat → Nat → Nat × Bool} {N : Nat} {W : List (List UInt8)} {l : List UInt8} {v u : Nat} (h : pdr f 0 1 l = (true, v, u)) (hv : v < N) : cntL f N (W ++ [l]) = (cntL f N W).set v (W.countP (drawsI f v) + 1) := by
  apply List.ext_getElem?
  intro i
  by_cases hi : i < N
  · rw [cntL_get hi, List.countP_append]
    by_cases e : i = v
    · subst e
      rw [List.getElem?_set_self (by rw [cntL_len]; exact hi)]
      simp [drawsI, h]
    · rw [List.getElem?_set_ne (fun h => e h.symm), cntL_get hi]
      have : drawsI f i l = false := by simp [drawsI, h]; exact fun h => e h.symm
      simp [this]
  · rw [List.getElem?_eq_none (by rw [cntL_len]; omega), List.getElem?_eq_none (by rw [List.length_set, cntL_len]; omega)]
theorem cntL_late {f : Nat → Nat → Nat × Bool} {N : Nat} {W : List (List UInt8)} {l : List UInt8} (h : (pdr f 0 1 l).1 = false) : cntL f N (W ++ [l]) = cntL f N W := by
  apply List.ext_getElem?
  intro i
  by_cases hi : i < N
  · rw [cntL_get hi, cntL_get hi, List.countP_append]
    have : drawsI f i l = false := by simp [drawsI, h]
    simp [this]
  · rw [List.getElem?_eq_none (by rw [cntL_len]; omega), List.getElem?_eq_none (by rw [cntL_len]; omega)]
/-- How many were late. -/
def noneL (f : Nat → Nat → Nat × Bool) (W : List (List UInt8)) : Nat := W.countP fun l => !(pdr f 0 1 l).1
theorem noneL_done {f : Nat → Nat → Nat × Bool} {W : List (List UInt8)} {l : List UInt8} (h : (pdr f 0 1 l).1 = true) : noneL f (W ++ [l]) = noneL f W := by
  unfold noneL; rw [List.countP_append]; simp [h]
theorem noneL_late {f : Nat → Nat → Nat × Bool} {W : List (List UInt8)} {l : List UInt8} (h : (pdr f 0 1 l).1 = false) : noneL f (W ++ [l]) = noneL f W + 1 := by
  unfold noneL; rw [List.countP_append]; simp [h]
theorem noneL_le (f : Nat → Nat → Nat × Bool) (W : List (List UInt8)) : noneL f W ≤ W.length := List.countP_le_length

theorem cntL_all {ws : List Nat} (hS : 0 < ws.sum) (n : Nat) {i : Nat} (hi : i < ws.length) : (cntL (pkF ws) ws.length (allW n))[i]? = some (cnt ws (2 ^ n) i) := by
  rw [cntL_get hi, pick_count hS n hi]
theorem noneL_all {ws : List Nat} (hS : 0 < ws.sum) (n : Nat) : noneL (pkF ws) (allW n) = 2 ^ n - lwS ws (2 ^ n) ws.length := pick_late hS n

theorem draw_fit {ws : List Nat} (hS : 0 < ws.sum) (l : List UInt8) : ((pdr (pkF ws) 0 1 l).1 = true → (pdr (pkF ws) 0 1 l).2.1 < ws.length) ∧ ((pdr (pkF ws) 0 1 l).1 = false → (pdr (pkF ws) 0 1 l).2.1 = 0) := by
  obtain ⟨h1, h2, h3⟩ := pdr_end (pkF_nest hS) l 0 1 (by omega)
  refine ⟨fun hd => ?_, h3⟩
  rw [h2 hd]
  have e : pkF ws (bvL l 0) (1 * 2 ^ l.length) = ((pkF ws (bvL l 0) (1 * 2 ^ l.length)).1, true) := by rw [← hd, h1]
  exact ((pkF_iff hS).1 e).1

theorem lawL_step (ws : List Nat) (t i : Nat) : (cnt ws t i = 0 → lawL ws t (i + 1) = lawL ws t i) ∧ (cnt ws t i ≠ 0 → lawL ws t (i + 1) = lawL ws t i ++ [(numB i, shB (cnt ws t i) t)]) := by
  unfold cnt
  constructor
  · intro h
    rw [lawL, if_neg (by omega)]
  · intro h
    rw [lawL, if_pos (by omega)]
    rfl
theorem lawP_has {ws : List Nat} {t N i : Nat} (hi : i < N) (h : cnt ws t i ≠ 0) : hasM (sortM (lawP ws t N)) (numB i, shB (cnt ws t i) t) = true := by
  rw [hasM_iff, sortM_mem]
  have : (numB i, shB (cnt ws t i) t) ∈ lawL ws t N := lawL_mem.2 ⟨i, hi, by unfold cnt at h; omega, rfl⟩
  unfold lawP
  split
  · exact this
  · exact List.mem_append_left _ this
theorem lawP_last {ws : List Nat} {t N : Nat} (h : t - lwS ws t N ≠ 0) : hasM (sortM (lawP ws t N)) (lateB, shB (t - lwS ws t N) t) = true ∧ (lawP ws t N).length = (lawL ws t N).length + 1 := by
  refine ⟨?_, ?_⟩
  · rw [hasM_iff, sortM_mem]
    exact lawP_late.1 h
  · rw [lawP, if_neg h]; simp

theorem sortM_strict {L : List (ByteArray × ByteArray)} (nd : (L.map keyL).Nodup) {i : Nat} {p q : ByteArray × ByteArray} (hp : (sortM L)[i]? = some p) (hq : (sortM L)[i + 1]? = some q) : ¬ keyL q ≤ keyL p := by
  intro hle
  have hs := sortM_sorted L
  obtain ⟨h1, rfl⟩ := List.getElem?_eq_some_iff.1 hp
  obtain ⟨h2, rfl⟩ := List.getElem?_eq_some_iff.1 hq
  have h3 := List.pairwise_iff_getElem.1 hs i (i + 1) h1 h2 (by omega)
  simp only [leB, decide_eq_true_eq] at h3
  have e := List.le_antisymm h3 hle
  have nd2 : ((sortM L).map keyL).Nodup := (((List.mergeSort_perm L _).map keyL).nodup_iff).2 nd
  have h4 := List.pairwise_iff_getElem.1 nd2 i (i + 1) (by simpa using h1) (by simpa using h2) (by omega)
  simp only [List.getElem_map] at h4
  exact h4 e
theorem lawP_strict {ws : List Nat} {t N i : Nat} {p q : ByteArray × ByteArray} (hp : (sortM (lawP ws t N))[i]? = some p) (hq : (sortM (lawP ws t N))[i + 1]? = some q) : ¬ keyL q ≤ keyL p :=
  sortM_strict (reads_lawM (H := Unit) ws t N).nd hp hq
end Go.Proofs.YtjgcjjbnnlnilaaGreatDoor

/- Walks: the examples of the chapter of pick. -/
namespace Go.Proofs.YtjgcjjbnnlnilaaGreatDoor
open Go.RowKit Go.Shelf
open Go.Lib (decDigits nDigits)
set_option linter.unusedVariables false
set_option linter.unusedSimpArgs false

theorem ne_zero_num {n : Nat} (h : n ≠ 0) : decide (numB n ≠ (⟨#[48]⟩ : ByteArray)) = true := by
  rw [← numB_zero]
  exact decide_eq_true (numB_ne h)

theorem nd_lt10 {n : Nat} (h : n < 10) : nDigits n = 1 := Lib.nDigits_small h
theorem numB_two' : numB 2 = ⟨#[50]⟩ := by unfold numB; rw [decDigits_small (by omega)]; rfl

theorem ex_ws : wsE [⟨#[49]⟩, ⟨#[50]⟩, ⟨#[49]⟩] = 0 := by
  rw [← numB_one, ← numB_two']
  have e1 : errN (numB 1).data.toList = 0 := errN_numB (by rw [nd_lt10 (by omega)]; omega)
  have e2 : errN (numB 2).data.toList = 0 := errN_numB (by rw [nd_lt10 (by omega)]; omega)
  have s1 : (numB 1).size = 1 := by rw [numB_size, nd_lt10 (by omega)]
  have s2 : (numB 2).size = 1 := by rw [numB_size, nd_lt10 (by omega)]
  have hw : wtE [numB 1, numB 2, numB 1] = 0 := by
    simp [wtE, e1, e2, s1, s2]
  unfold wsE
  rw [if_neg (by simp), if_neg (by rw [hw]; simp), if_pos]
  simp only [List.any_cons, ne_zero_num (show 1 ≠ 0 by omega), Bool.true_or]

theorem ex_bN : [(⟨#[49]⟩ : ByteArray), ⟨#[50]⟩, ⟨#[49]⟩].map bN = [1, 2, 1] := by
  rw [← numB_one, ← numB_two']
  simp only [List.map_cons, List.map_nil, bN_num]

theorem ex_draw : dr3 [⟨#[49]⟩, ⟨#[50]⟩, ⟨#[49]⟩] ⟨#[48, 49]⟩ = (true, 1, 2) ∧ drE [⟨#[49]⟩, ⟨#[50]⟩, ⟨#[49]⟩] ⟨#[48, 49]⟩ = 0 := by
  have hE : drE [⟨#[49]⟩, ⟨#[50]⟩, ⟨#[49]⟩] ⟨#[48, 49]⟩ = 0 := by
    unfold drE
    rw [ex_ws]
    decide
  refine ⟨?_, hE⟩
  unfold dr3
  rw [if_pos hE, ex_bN]
  show pdr (pkF [1, 2, 1]) 0 1 [48, 49] = _
  rw [pdr_next (by decide), pdr_next (by decide), pdr_done (by decide)]
  decide

theorem ex_below : bw3 6 ⟨#[49, 49, 49, 49]⟩ = (true, 5, 3) ∧ bwE 6 ⟨#[49, 49, 49, 49]⟩ = 0 := by
  have hE : bwE 6 ⟨#[49, 49, 49, 49]⟩ = 0 := by decide
  refine ⟨?_, hE⟩
  unfold bw3
  rw [if_pos hE]
  show pdr (bwF 6) 0 1 [49, 49, 49, 49] = _
  rw [pdr_next (by decide), pdr_next (by decide), pdr_next (by decide), pdr_done (by decide)]
  decide

set_option maxRecDepth 100000 in
set_option maxHeartbeats 4000000 in
theorem w_lives (w : World) (hL : Lay w) :
    Calls Tryz.prog 8 #[] w fun e w' => e = .returned (.bool true) ∧ Below w.heap.size w w' := by
  have A0 := hid ((Below.refl w.heap.size w).alloc (Nat.le_refl _) (.cells #[.string ⟨#[49]⟩, .string ⟨#[50]⟩, .string ⟨#[49]⟩] 23))
  have X0 := Blk.new w #[.string ⟨#[49]⟩, .string ⟨#[50]⟩, .string ⟨#[49]⟩] 23
  have R0 := hid (Row.of_blk (n := 3) (xs := strs [⟨#[49]⟩, ⟨#[50]⟩, ⟨#[49]⟩]) X0 rfl (by decide) (fun i x h => by
    rcases i with _ | _ | _ | i <;> simp [strs] at h ⊢ <;> exact h) (Nat.le_refl 3) (by decide))
  have HL := hid hL
  have PD := fun V hV hLV => hid (p_Draw V (.slice (some ⟨w.heap.size, 0, none⟩) 3 3) [⟨#[49]⟩, ⟨#[50]⟩, ⟨#[49]⟩] ⟨#[48, 49]⟩ hV (by intro x hx; simp at hx; rcases hx with rfl | rfl | rfl <;> decide) (by decide) hLV)
  have PB := fun V hLV => hid (p_Below V 6 ⟨#[49, 49, 49, 49]⟩ (by decide) hLV)
  rw [ex_draw.1, ex_draw.2] at PD
  rw [ex_below.1, ex_below.2] at PB
  simp only [dw3] at PD PB
  clear hL X0
  go_enter Tryz.func8, Tryz.ntmps8
  go_wp2_with fail
  refine (PD _ R0.out (HL.out.call A0.out)).out.mono ?_; rintro e w1 ⟨rfl, hb1⟩
  have y1 := hid (A0.out.trans (hb1.mono A0.out.size)); clear hb1
  go_wp2_with fail
  have X1 := hid (Blk.new w1 #[.bool true, .int .i64 1, .int .i64 2] 29)
  have z1 := hid ((Below.refl w1.heap.size w1).alloc (Nat.le_refl _) (.cells #[.bool true, .int .i64 1, .int .i64 2] 29))
  refine (PB _ ((HL.out.call y1.out).call z1.out)).out.mono ?_; rintro e w2 ⟨rfl, hb2⟩
  have y2 := hid (bnext y1.out (z1.out.trans (hb2.mono z1.out.size)))
  have X2 := hid ((X1.out.call hb2).alloc (.cells #[.bool true, .int .i64 5, .int .i64 3] 29))
  have r0 := X2.out.cell 0
  have r1 := X2.out.cell 1
  have r2 := X2.out.cell 2
  simp at r0 r1 r2
  clear hb2
  go_wp2_with fail
  go_ret
  exact ⟨rfl, y2.out.alloc y2.out.size _⟩
end Go.Proofs.YtjgcjjbnnlnilaaGreatDoor

/- Walks: law05.long, kit.Pick. -/
namespace Go.Proofs.YtjgcjjbnnlnilaaGreatDoor
open Go.RowKit Go.Shelf
open Go.Lib (decDigits nDigits)
set_option linter.unusedVariables false
set_option linter.unusedSimpArgs false

/-- What long reports. -/
def longB (l : List ByteArray) : Bool := l.any (fun b => decide (300 < b.size)) || decide (70 < l.length)

set_option maxRecDepth 100000 in
set_option maxHeartbeats 1000000 in
theorem p_long (w : World) (v : Value) (l : List ByteArray) (h : Row w v (strs l)) :
    Calls Tryz.prog 9 #[v] w fun e w' => e = .returned (.bool (longB l)) ∧ w = w' := by
  obtain ⟨a, c, rfl, h1, h2, h3⟩ := h.openS
  obtain ⟨n, hn⟩ : ∃ n, l.length = n := ⟨_, rfl⟩
  rw [hn] at h1 ⊢
  have H3 := hid h3; have HN := hid hn
  clear h h3 hn
  go_enter Tryz.func9, Tryz.ntmps9
  go_wp2_with fail
  go_loop [3] (fun ii => ∃ i : Nat, ii = .int .i64 i ∧ i ≤ n ∧ Hid (∀ (j : Nat) (b : ByteArray), j < i → l[j]? = some b → ¬ 300 < b.size)) (fun ii => n - (intOf ii).toNat)
  case atStart => exact ⟨0, rfl, Nat.zero_le _, fun j b hj => absurd hj (by omega)⟩
  case round =>
    obtain ⟨i, rfl, hi, hI⟩ := hrel
    by_cases hlt : i < n
    · obtain ⟨x, hx⟩ : ∃ x, l[i]? = some x := ⟨_, List.getElem?_eq_getElem (by rw [HN.out]; exact hlt)⟩
      obtain ⟨g, o, rfl, hg, hc⟩ := H3.out i x hx
      have HX := hid hx
      have b1 : (0 : Int) ≤ (i : Int) := by omega
      have b2 : (i : Int) < (n : Int) := by omega
      have wi : IntKind.i64.wrap ((i : Int) + 1) = (i : Int) + 1 := by rw [IntWalk.i64_in _ ⟨by omega, by omega⟩]
      by_cases hb : 300 < x.size
      · have q0 : decide ((300 : Int) < (x.size : Int)) = true := by simp; omega
        have HB := hid hb
        have hL : longB l = true := by
          unfold longB
          rw [Bool.or_eq_true]
          exact .inl (List.any_eq_true.2 ⟨x, List.mem_of_getElem? hx, by simpa using hb⟩)
        have HLB := hid hL
        clear hb hx hL
        go_wp2_with fail
        go_ret
        exact ⟨by rw [HLB.out]; rfl, rfl⟩
      · have q0 : decide ((300 : Int) < (x.size : Int)) = false := by simp; omega
        have HB := hid hb
        clear hb hx
        go_wp2_with fail
        go_round
        case rel => exact ⟨i + 1, rfl, by omega, fun j b hj he => by
          rcases Nat.lt_or_ge j i with h | h
          · exact hI.out j b h he
          · obtain rfl : j = i := by omega
            rw [HX.out] at he; cases he; exact HB.out⟩
        case measure => simp [intOf] <;> omega
    · obtain rfl : i = n := by omega
      have hL : longB l = decide ((70 : Int) < (i : Int)) := by
        unfold longB
        have : l.any (fun b => decide (300 < b.size)) = false := by
          rw [List.any_eq_false]
          intro x hx
          obtain ⟨j, hj, rfl⟩ := List.getElem_of_mem hx
          simpa using hI.out j l[j] (by rw [HN.out] at hj; exact hj) (List.getElem?_eq_getElem hj)
        rw [this, HN.out, Bool.false_or, decide_eq_decide]
        omega
      have HLB := hid hL
      clear hlt hL
      have q1 : decide ((i : Int) < (i : Int)) = false := by simp
      go_wp2_with fail
      go_ret
      exact ⟨by rw [HLB.out]; rfl, rfl⟩

/-- What Pick selects. -/
theorem k_Pick (w : World) (x : Int) (n : Nat) (h0 : 0 < n) (hn : n ≤ 1000000) (h1 : -9223372036854775808 ≤ x) (h2 : x ≤ 9223372036854775807) :
    ∃ i : Nat, i < n ∧ Calls Tryz.prog 10 #[.int .i64 x, .int .i64 (n : Nat)] w fun e w' => e = .returned (.int .i64 (i : Nat)) ∧ w = w' := by
  have r1 := Int.tmod_lt_of_pos x (show (0 : Int) < n by omega)
  have r2 := Int.lt_tmod_of_pos x (show (0 : Int) < n by omega)
  obtain ⟨r, hr⟩ : ∃ r, x.tmod (n : Int) = r := ⟨_, rfl⟩
  rw [hr] at r1 r2
  have e0 : IntKind.i64.wrap r = r := by rw [IntWalk.i64_in _ ⟨by omega, by omega⟩]
  have hz : ((n : Int) == 0) = false := by rw [beq_eq_false_iff_ne]; omega
  by_cases hneg : r < 0
  · have q0 : decide (r < 0) = true := by simp; omega
    obtain ⟨i, hi⟩ : ∃ i : Nat, r + (n : Int) = i := ⟨(r + n).toNat, by omega⟩
    have e1 : IntKind.i64.wrap (r + (n : Int)) = r + (n : Int) := by rw [IntWalk.i64_in _ ⟨by omega, by omega⟩]
    refine ⟨i, by omega, ?_⟩
    rw [← hi]
    clear hi hneg
    go_enter Tryz.func10, Tryz.ntmps10
    go_wp2_with fail
    go_ret
    exact ⟨rfl, rfl⟩
  · have q0 : decide (r < 0) = false := by simp; omega
    obtain ⟨i, hi⟩ : ∃ i : Nat, r = i := ⟨r.toNat, by omega⟩
    refine ⟨i, by omega, ?_⟩
    rw [← hi]
    clear hi hneg
    go_enter Tryz.func10, Tryz.ntmps10
    go_wp2_with fail
    go_ret
    exact ⟨rfl, rfl⟩
end Go.Proofs.YtjgcjjbnnlnilaaGreatDoor

/- Plain: what a factor changes in weights: nothing; equal weights draw what Below draws. -/
namespace Go.Proofs.YtjgcjjbnnlnilaaGreatDoor
open Go.RowKit
open Go.Lib (decDigits nDigits)
set_option linter.unusedVariables false

theorem wtE_nums : ∀ (ws : List Nat), (∀ x ∈ ws, nDigits x ≤ 3800) → wtE (ws.map numB) = 0
  | [], _ => rfl
  | x :: r, h => by
    have h1 := h x (List.mem_cons_self ..)
    rw [List.map_cons, wtE, if_neg (by rw [errN_numB (by omega)]; simp), if_neg (by rw [numB_size]; omega)]
    exact wtE_nums r (fun y hy => h y (List.mem_cons_of_mem _ hy))

theorem any_nums (ws : List Nat) : (ws.map numB).any (fun b => decide (b ≠ ⟨#[48]⟩)) = ws.any (fun x => decide (x ≠ 0)) := by
  rw [List.any_map]
  congr 1
  funext x
  simp only [Function.comp]
  rw [decide_eq_decide]
  constructor
  · intro h e; exact h (by rw [e, numB_zero])
  · intro h e
    rw [← numB_zero] at e
    exact numB_ne h e

theorem wsE_nums {ws : List Nat} (h : ∀ x ∈ ws, nDigits x ≤ 3800) : wsE (ws.map numB) = if ws.length = 0 ∨ 64 < ws.length then 2 else if ws.any (fun x => decide (x ≠ 0)) = true then 0 else 6 := by
  unfold wsE
  rw [List.length_map, wtE_nums ws h, any_nums]
  simp only [ne_eq, not_true_eq_false, if_false]

theorem nums_bN (ws : List Nat) : (ws.map numB).map bN = ws := by
  rw [List.map_map]
  conv => rhs; rw [← List.map_id ws]
  exact List.map_congr_left fun x _ => bN_num x

/-- Equal weights. -/
def onesL (k : Nat) : List ByteArray := (List.replicate k 1).map numB
theorem ones_wsE {k : Nat} (h1 : 1 ≤ k) (h2 : k ≤ 64) : wsE (onesL k) = 0 := by
  unfold onesL
  rw [wsE_nums (fun x hx => by rw [List.eq_of_mem_replicate hx, nDigits_one]; omega), List.length_replicate, if_neg (by omega), if_pos]
  rw [List.any_eq_true]
  exact ⟨1, List.mem_replicate.2 ⟨by omega, rfl⟩, by decide⟩
theorem ones_draw {k : Nat} (h1 : 1 ≤ k) (h2 : k ≤ 64) (b : ByteArray) : drE (onesL k) b = bwE k b ∧ dr3 (onesL k) b = bw3 k b := by
  have e1 : drE (onesL k) b = chkE b := by rw [drE, if_neg (by rw [ones_wsE h1 h2]; simp)]
  have e2 : bwE k b = chkE b := by rw [bwE, if_neg (by omega)]
  refine ⟨by rw [e1, e2], ?_⟩
  rw [dr3, bw3, e1, e2]
  split
  · unfold onesL
    rw [nums_bN, Int.toNat_natCast]
    exact pdr_congr (fun x t hx => pkF_ones (by omega) hx) _ _ _ (by omega)
  · rfl

theorem cnt_scl' {c : Nat} (hc : 0 < c) (ws : List Nat) (t : Nat) : cnt (scl c ws) t = cnt ws t := by
  funext i
  unfold cnt
  rw [(cnt_scl hc ws t i).1, (cnt_scl hc ws t i).2]
theorem lwS_scl {c : Nat} (hc : 0 < c) (ws : List Nat) (t : Nat) : ∀ i, lwS (scl c ws) t i = lwS ws t i
  | 0 => rfl
  | i + 1 => by unfold lwS; rw [lwS_scl hc ws t i, cnt_scl' hc]
theorem lawL_scl {c : Nat} (hc : 0 < c) (ws : List Nat) (t : Nat) : ∀ i, lawL (scl c ws) t i = lawL ws t i
  | 0 => rfl
  | i + 1 => by unfold lawL; rw [lawL_scl hc ws t i, (cnt_scl hc ws t i).1, (cnt_scl hc ws t i).2, cnt_scl' hc]
theorem lawP_scl {c : Nat} (hc : 0 < c) (ws : List Nat) (t N : Nat) : lawP (scl c ws) t N = lawP ws t N := by
  unfold lawP
  rw [lwS_scl hc, lawL_scl hc]

theorem scl_all {ws : List Nat} {c : Nat} (hc : 0 < c) (h1 : ∀ x ∈ ws, nDigits x ≤ 3800) (h2 : ∀ x ∈ ws, nDigits (x * c) ≤ 3800) (b : ByteArray) (n : Int) :
    drE ((scl c ws).map numB) b = drE (ws.map numB) b ∧ dr3 ((scl c ws).map numB) b = dr3 (ws.map numB) b ∧ lawE ((scl c ws).map numB) n = lawE (ws.map numB) n ∧ lawR ((scl c ws).map numB) n = lawR (ws.map numB) n := by
  have ew : wsE ((scl c ws).map numB) = wsE (ws.map numB) := by
    rw [wsE_nums h1, wsE_nums (fun x hx => by obtain ⟨y, hy, rfl⟩ := List.mem_map.1 hx; exact h2 y hy), scl_len]
    congr 2
    unfold scl
    rw [List.any_map]
    congr 2
    funext x
    simp only [Function.comp]
    rw [decide_eq_decide]
    have : x * c ≠ 0 ↔ x ≠ 0 := ⟨fun h e => h (by rw [e, Nat.zero_mul]), fun h => Nat.mul_ne_zero h (by omega)⟩
    exact this
  have e1 : drE ((scl c ws).map numB) b = drE (ws.map numB) b := by unfold drE; rw [ew]
  have e2 : lawE ((scl c ws).map numB) n = lawE (ws.map numB) n := by unfold lawE; rw [ew]
  refine ⟨e1, ?_, e2, ?_⟩
  · unfold dr3
    rw [e1, nums_bN, nums_bN, pkF_scl hc]
  · unfold lawR
    rw [e2, nums_bN, nums_bN, lawP_scl hc, List.length_map, List.length_map, scl_len]
end Go.Proofs.YtjgcjjbnnlnilaaGreatDoor

/- Walks: the reference's both. -/
namespace Go.Proofs.YtjgcjjbnnlnilaaGreatDoor
open Go.RowKit
open Go.Lib (decDigits nDigits)
set_option linter.unusedVariables false

theorem r1_both (w : World) (s t : ByteArray) (hs : s.size ≤ 9223372036854775807) (ht : t.size ≤ 9223372036854775807) : Calls Tryz.prog 52 #[.string s, .string t] w fun e w' =>
    e = .returned (.int .i64 (if errN s.data.toList = 0 then errN t.data.toList else errN s.data.toList)) ∧ w = w' := by
  obtain ⟨x, hx⟩ : ∃ x, errN s.data.toList = x := ⟨_, rfl⟩
  obtain ⟨y, hy⟩ : ∃ y, errN t.data.toList = y := ⟨_, rfl⟩
  have HX := hid hx; have HY := hid hy
  rw [hx, hy]
  clear hx hy
  by_cases h0 : x = 0
  · subst h0
    go_enter Tryz.func52, Tryz.ntmps52
    go_wp2_with fail
    refine (r1_Check _ s hs).mono ?_; rintro e w1 ⟨rfl, rfl⟩
    rw [HX.out]
    go_wp2_with fail
    refine (r1_Check _ t ht).mono ?_; rintro e w1 ⟨rfl, rfl⟩
    rw [HY.out]
    go_wp2_with fail
    go_ret
    exact ⟨ret_int (by simp), rfl⟩
  · have q0 : (x != 0) = true := by simp; omega
    have H0 := hid h0; clear h0
    go_enter Tryz.func52, Tryz.ntmps52
    go_wp2_with fail
    refine (r1_Check _ s hs).mono ?_; rintro e w1 ⟨rfl, rfl⟩
    rw [HX.out]
    go_wp2_with fail
    go_ret
    exact ⟨ret_int (by first | rfl | rw [if_neg H0.out]), rfl⟩
end Go.Proofs.YtjgcjjbnnlnilaaGreatDoor

/- Walks: the reference's number, Mul, Cmp. -/
namespace Go.Proofs.YtjgcjjbnnlnilaaGreatDoor
open Go.RowKit
open Go.Lib (decDigits nDigits)
set_option linter.unusedVariables false

set_option maxHeartbeats 1000000 in
theorem r1_number (w : World) (v : Value) (n : Nat) (h : IsN .i64 w v n) (hl : (limbs n).length ≤ 1000000) : Calls Tryz.prog 53 #[v] w fun e w' => e = .returned (.tuple #[resS n, .int .i64 (resE n)]) ∧ Below w.heap.size w w' := by
  have H := hid h; have HL := hid hl
  have hsz := hid (numB_size n)
  have hbd := nDigits_bound hl (by omega)
  obtain ⟨B, hB⟩ : ∃ B, numB n = B := ⟨_, rfl⟩
  have HB := hid hB
  obtain ⟨a, c, rfl, _⟩ := h.openI
  clear h hl hB
  have hBs := hid (show B.size = nDigits n from by rw [← HB.out]; exact hsz.out)
  by_cases hlong : 4000 < nDigits n
  · have HR := hid (And.intro (resS_long hlong) (resE_long hlong))
    have q0 : decide ((4000 : Int) < (B.size : Int)) = true := by rw [hBs.out]; simp; omega
    clear hlong
    go_enter Tryz.func53, Tryz.ntmps53
    go_wp2_with fail
    refine (r1_Write _ _ n H.out HL.out).mono ?_; rintro e w1 ⟨rfl, hb1⟩
    rw [numV_eq, HB.out]
    go_wp2_with fail
    go_ret2
    exact ⟨ret_pair HR.out.1.symm HR.out.2.symm, hb1⟩
  · have HR := hid (And.intro (resS_ok hlong) (resE_ok hlong))
    have q0 : decide ((4000 : Int) < (B.size : Int)) = false := by rw [hBs.out]; simp; omega
    clear hlong
    go_enter Tryz.func53, Tryz.ntmps53
    go_wp2_with fail
    refine (r1_Write _ _ n H.out HL.out).mono ?_; rintro e w1 ⟨rfl, hb1⟩
    rw [numV_eq, HB.out]
    go_wp2_with fail
    go_ret2
    exact ⟨ret_pair (by rw [HR.out.1, numV_eq, HB.out]; rfl) HR.out.2.symm, hb1⟩

set_option maxHeartbeats 1000000 in
theorem r1_Mul (w : World) (s t : ByteArray) (hs : s.size ≤ 9223372036854775807) (ht : t.size ≤ 9223372036854775807) : Calls Tryz.prog 14 #[.string s, .string t] w fun e w' =>
    e = .returned (.tuple #[opS (· * ·) s.data.toList t.data.toList, .int .i64 (opE (· * ·) s.data.toList t.data.toList)]) ∧ Below w.heap.size w w' := by
  by_cases h : errN s.data.toList = 0 ∧ errN t.data.toList = 0
  · obtain ⟨a, rfl, ha⟩ := errN_read h.1
    obtain ⟨b, rfl, hb⟩ := errN_read h.2
    have HE := hid h
    have hS := hid (show opS (· * ·) (numB a).data.toList (numB b).data.toList = resS (a * b) from by rw [opS, if_pos h, numB_list, numB_list, dv_dec, dv_dec])
    have hE := hid (show opE (· * ·) (numB a).data.toList (numB b).data.toList = resE (a * b) from by rw [opE, if_pos h.1, if_pos h.2, numB_list, numB_list, dv_dec, dv_dec])
    have HA := hid ha; have HB := hid hb
    rw [hS.out, hE.out]
    clear ha hb h hS hE
    go_enter Tryz.func14, Tryz.ntmps14
    go_wp2_with fail
    refine (r1_both _ _ _ hs ht).mono ?_; rintro e w1 ⟨rfl, rfl⟩
    rw [HE.out.1, HE.out.2]
    go_wp2_with fail
    refine (r1_Read_num _ a (by have := HA.out; omega)).mono ?_; rintro e w1 ⟨⟨v1, rfl, hv1⟩, hb1⟩
    have V1 := hid hv1; have B1 := hid hb1; clear hv1 hb1
    go_wp2_with fail
    refine (r1_Read_num _ b (by have := HB.out; omega)).mono ?_; rintro e w2 ⟨⟨v2, rfl, hv2⟩, hb2⟩
    have V2 := hid hv2; have B2 := hid (bnext B1.out hb2); have V1' := hid (V1.out.call hb2); clear hv2 hb2
    go_wp2_with fail
    refine (r1_Times _ v1 v2 a b V1'.out V2.out (by have := limbs_of_digits HA.out; omega) (by have := limbs_of_digits HB.out; omega)).mono ?_; rintro e w3 ⟨⟨v3, rfl, hv3⟩, hb3⟩
    have V3 := hid hv3; have B3 := hid (bnext B2.out hb3); clear hv3 hb3
    go_wp2_with fail
    refine (r1_number _ v3 (a * b) V3.out (by have := limbs_mul (limbs_of_digits HA.out) (limbs_of_digits HB.out); omega)).mono ?_; rintro e w4 ⟨rfl, hb4⟩
    have B4 := hid (bnext B3.out hb4); clear hb4
    go_wp2_with fail
    go_ret2
    exact ⟨rfl, B4.out⟩
  · have hS := hid (show opS (· * ·) s.data.toList t.data.toList = .string ⟨#[]⟩ from by rw [opS, if_neg h])
    obtain ⟨x, hx⟩ : ∃ x, (if errN s.data.toList = 0 then errN t.data.toList else errN s.data.toList) = x := ⟨_, rfl⟩
    have hE := hid (show opE (· * ·) s.data.toList t.data.toList = x from by
      rw [← hx, opE]
      split
      · split
        · rename_i h1 h2; exact absurd ⟨h1, h2⟩ h
        · rfl
      · rfl)
    have hx0 : x ≠ 0 := fun e => by
      rw [e] at hx
      split at hx
      · rename_i h1; exact h ⟨h1, hx⟩
      · rename_i h1; exact h1 hx
    have q0 : (x != 0) = true := by simp; omega
    have HX := hid hx
    rw [hS.out, hE.out]
    clear hx hx0 h hS hE
    go_enter Tryz.func14, Tryz.ntmps14
    go_wp2_with fail
    refine (r1_both _ _ _ hs ht).mono ?_; rintro e w1 ⟨rfl, rfl⟩
    rw [HX.out]
    go_wp2_with fail
    go_ret2
    exact ⟨rfl, Below.refl _ _⟩

set_option maxHeartbeats 1000000 in
theorem r1_Cmp (w : World) (s t : ByteArray) (hs : s.size ≤ 9223372036854775807) (ht : t.size ≤ 9223372036854775807) : Calls Tryz.prog 127 #[.string s, .string t] w fun e w' =>
    e = .returned (.int .i64 (cmpN s.data.toList t.data.toList)) ∧ Below w.heap.size w w' := by
  by_cases h : errN s.data.toList = 0 ∧ errN t.data.toList = 0
  · obtain ⟨a, rfl, ha⟩ := errN_read h.1
    obtain ⟨b, rfl, hb⟩ := errN_read h.2
    have HE := hid h
    have hC := hid (show cmpN (numB a).data.toList (numB b).data.toList = ordN a b from by rw [cmpN, if_pos h, numB_list, numB_list, dv_dec, dv_dec])
    have HA := hid ha; have HB := hid hb
    rw [hC.out]
    clear ha hb h hC
    go_enter Tryz.func127, Tryz.ntmps127
    go_wp2_with fail
    refine (r1_both _ _ _ hs ht).mono ?_; rintro e w1 ⟨rfl, rfl⟩
    rw [HE.out.1, HE.out.2]
    go_wp2_with fail
    refine (r1_Read_num _ a (by have := HA.out; omega)).mono ?_; rintro e w1 ⟨⟨v1, rfl, hv1⟩, hb1⟩
    have V1 := hid hv1; have B1 := hid hb1; clear hv1 hb1
    go_wp2_with fail
    refine (r1_Read_num _ b (by have := HB.out; omega)).mono ?_; rintro e w2 ⟨⟨v2, rfl, hv2⟩, hb2⟩
    have V2 := hid hv2; have B2 := hid (bnext B1.out hb2); have V1' := hid (V1.out.call hb2); clear hv2 hb2
    go_wp2_with fail
    refine (r1_Order _ v1 v2 a b V1'.out V2.out).mono ?_; rintro e w3 ⟨rfl, hb3⟩
    have B3 := hid (bnext B2.out hb3); clear hb3
    go_wp2_with fail
    go_ret
    exact ⟨rfl, B3.out⟩
  · have hC := hid (show cmpN s.data.toList t.data.toList = 0 from by rw [cmpN, if_neg h])
    obtain ⟨x, hx⟩ : ∃ x, (if errN s.data.toList = 0 then errN t.data.toList else errN s.data.toList) = x := ⟨_, rfl⟩
    have hx0 : x ≠ 0 := fun e => by
      rw [e] at hx
      split at hx
      · rename_i h1; exact h ⟨h1, hx⟩
      · rename_i h1; exact h1 hx
    have q0 : (x != 0) = true := by simp; omega
    have HX := hid hx
    rw [hC.out]
    clear hx hx0 h hC
    go_enter Tryz.func127, Tryz.ntmps127
    go_wp2_with fail
    refine (r1_both _ _ _ hs ht).mono ?_; rintro e w1 ⟨rfl, rfl⟩
    rw [HX.out]
    go_wp2_with fail
    go_ret
    exact ⟨rfl, Below.refl _ _⟩
end Go.Proofs.YtjgcjjbnnlnilaaGreatDoor

/- Walks: law05.PickScaled. -/
namespace Go.Proofs.YtjgcjjbnnlnilaaGreatDoor
open Go.RowKit Go.Shelf
open Go.Lib (decDigits nDigits)
set_option linter.unusedVariables false
set_option linter.unusedSimpArgs false

theorem make_nums (n : Nat) (hn : n ≤ 3000000) (W : World) : (Instr.makeSlice 22 (.int .i64 (n : Int)) (.int .i64 (n : Int))).run Tryz.prog W = .ok (.slice (some ⟨W.heap.size, 0, none⟩) n n) (W.alloc (.cells (madeCells #[.string ⟨#[]⟩] n) 23)) :=
  run_make_row' (P := Tryz.prog) 22 23 (.string ⟨#[]⟩) 16 Tryz.underlying22 (by kernel_rfl) rfl .i64 .i64 n (by omega) (by omega) W

/-- Some ones, then empty texts. -/
def fillA (j m : Nat) : Array Value := ((List.range m).map (fun x => if x < j then Value.string ⟨#[49]⟩ else .string ⟨#[]⟩)).toArray
theorem fillA_zero (m : Nat) : madeCells #[.string ⟨#[]⟩] m = fillA 0 m := by
  apply Array.ext_getElem?
  intro i
  unfold madeCells fillA
  by_cases hi : i < m <;> simp [hi, Nat.mod_one]
theorem fillA_set {j m : Nat} (h : j < m) : (fillA j m).setIfInBounds j (.string ⟨#[49]⟩) = fillA (j + 1) m := by
  unfold fillA
  rw [List.setIfInBounds_toArray]
  congr 1
  apply List.ext_getElem?
  intro i
  by_cases hi : i < m
  · by_cases e : i = j
    · subst e; simp [hi]
    · rw [List.getElem?_set_ne (fun h => e h.symm)]
      simp only [List.getElem?_map, List.getElem?_range hi, Option.map_some]
      by_cases h1 : i < j
      · rw [if_pos h1, if_pos (by omega)]
      · rw [if_neg h1, if_neg (by omega)]
  · rw [List.getElem?_eq_none (by simp; omega), List.getElem?_eq_none (by simp; omega)]
theorem fillA_row {w : World} {g m : Nat} (h : Blk w g (fillA m m) 23) (hm : m ≤ 1000) : Row w (.slice (some ⟨g, 0, none⟩) m m) (strs (onesL m)) := by
  refine Row.of_blk h (by simp [onesL]) (by unfold maxLen; omega) (fun i x hx => ?_) (Nat.le_refl _) (by unfold maxLen; omega)
  have hi := (List.getElem?_eq_some_iff.1 hx).1
  simp [onesL] at hi
  rw [← hx]
  unfold fillA strs onesL
  simp [hi, numB_one]

/-- The weights by a factor, as far as they have come. -/
def ScI (l : List ByteArray) (c : Nat) (i : Nat) : Prop := ∀ j, j < i → ∃ x, l[j]? = some x ∧ errN x.data.toList = 0 ∧ nDigits (bN x * c) ≤ 4000
def scB (l : List ByteArray) (c : Nat) : List ByteArray := l.map (fun x => numB (bN x * c))

theorem longB_no {l : List ByteArray} (h : ¬ longB l = true) : (∀ x ∈ l, x.size ≤ 300) ∧ l.length ≤ 70 := by
  unfold longB at h
  simp only [Bool.or_eq_true, List.any_eq_true, decide_eq_true_eq, not_or, not_exists, not_and] at h
  exact ⟨fun x hx => by have := h.1 x hx; omega, by omega⟩

theorem scB_all {l : List ByteArray} {c : Nat} (hl : ¬ longB l = true) (hs : ScI l c l.length) (h0 : 0 < c) (hc : nDigits c ≤ 100) (b : ByteArray) (n : Int) :
    drE (scB l c) b = drE l b ∧ dr3 (scB l c) b = dr3 l b ∧ lawE (scB l c) n = lawE l n ∧ lawR (scB l c) n = lawR l n ∧ ∀ x ∈ scB l c, x.size ≤ 1000000 := by
  obtain ⟨h1, h2⟩ := longB_no hl
  have hx : ∀ x ∈ l, x = numB (bN x) := fun x hx => by
    obtain ⟨i, hi⟩ := List.getElem?_of_mem hx
    obtain ⟨y, hy, he, -⟩ := hs i (List.getElem?_eq_some_iff.1 hi).1
    rw [hi] at hy
    obtain rfl := Option.some.inj hy
    obtain ⟨a, rfl, -⟩ := errN_read he
    rw [bN_num]
  have e1 : l = (l.map bN).map numB := by
    rw [List.map_map]
    conv => lhs; rw [← List.map_id l]
    exact List.map_congr_left fun x h => hx x h
  have e2 : scB l c = (scl c (l.map bN)).map numB := by unfold scB scl; rw [List.map_map, List.map_map]; rfl
  have d1 : ∀ x ∈ l.map bN, nDigits x ≤ 300 := fun x h => by
    obtain ⟨y, hy, rfl⟩ := List.mem_map.1 h
    have := h1 y hy
    rw [hx y hy, numB_size] at this
    exact this
  have d2 : ∀ x ∈ l.map bN, nDigits (x * c) ≤ 400 := fun x h => nd_mul (d1 x h) hc (by omega)
  obtain ⟨k1, k2, k3, k4⟩ := scl_all h0 (fun x h => by have := d1 x h; omega) (fun x h => by have := d2 x h; omega) b n
  rw [← e1, ← e2] at k1 k2 k3 k4
  refine ⟨k1, k2, k3, k4, fun x h => ?_⟩
  obtain ⟨y, hy, rfl⟩ := List.mem_map.1 h
  rw [numB_size]
  have := d2 (bN y) (List.mem_map_of_mem hy)
  omega

theorem opE_zero {s t : ByteArray} (ht : errN t.data.toList = 0) (h : opE (· * ·) s.data.toList t.data.toList = 0) : errN s.data.toList = 0 ∧ nDigits (bN s * bN t) ≤ 4000 ∧ opS (· * ·) s.data.toList t.data.toList = .string (numB (bN s * bN t)) := by
  unfold opE at h
  by_cases hs : errN s.data.toList = 0
  · rw [if_pos hs, if_pos ht] at h
    unfold resE at h
    by_cases hd : 4000 < nDigits (dv s.data.toList * dv t.data.toList)
    · rw [if_pos hd] at h; exact absurd h (by decide)
    · refine ⟨hs, by unfold bN; omega, ?_⟩
      rw [opS, if_pos ⟨hs, ht⟩, resS, if_neg hd]
      rfl
  · rw [if_neg hs] at h; exact absurd h hs

set_option maxRecDepth 100000 in
set_option maxHeartbeats 8000000 in
theorem w_PickScaled (w : World) (v : Value) (l : List ByteArray) (f b : ByteArray) (n many : Int) (hv : Row w v (strs l)) (hf : f.size ≤ 9223372036854775807) (hb : b.size ≤ 9223372036854775807)
    (hn1 : -9223372036854775808 ≤ n) (hn2 : n ≤ 9223372036854775807) (hm1 : -9223372036854775808 ≤ many) (hm2 : many ≤ 9223372036854775807) (hL : Lay w) :
    Calls Tryz.prog 3 #[v, .string f, .string b, .int .i64 n, .int .i64 many] w fun e w' => e = .returned (.bool true) ∧ Below w.heap.size w w' := by
  have HLV := hid (w_lives w hL)
  have HLG := fun V hV => hid (p_long V v l hV)
  have HV := hid hv; have HL := hid hL
  obtain ⟨a, c, rfl, c1, c2, -⟩ := hv.openS
  obtain ⟨N, hN⟩ : ∃ N, l.length = N := ⟨_, rfl⟩
  have HN := hid hN
  rw [hN] at HLG HV c1 ⊢
  clear hL hv hN
  by_cases g0 : longB l = true
  · rw [g0] at HLG
    clear g0
    go_enter Tryz.func3, Tryz.ntmps3
    go_wp2_with fail
    refine HLV.out.mono ?_; rintro e w1 ⟨rfl, hb1⟩
    have y1 := hid hb1; clear hb1
    go_wp2_with fail
    refine (HLG _ (HV.out.call y1.out)).out.mono ?_; rintro e w2 ⟨rfl, rfl⟩
    go_wp2_with fail
    go_ret
    exact ⟨rfl, y1.out⟩
  have HG0 := hid g0
  rw [Bool.not_eq_true] at g0
  rw [g0] at HLG
  clear g0
  by_cases g1 : (100 < f.size ∨ 100 < b.size) ∨ (n < 0 ∨ 40 < n)
  · have ex : ∃ b1 b2 b3 b4 : Bool, decide ((100 : Int) < (f.size : Int)) = b1 ∧ decide ((100 : Int) < (b.size : Int)) = b2 ∧ decide (n < 0) = b3 ∧ decide (40 < n) = b4 ∧ (b1 || b2 || b3 || b4) = true := by
      refine ⟨_, _, _, _, rfl, rfl, rfl, rfl, ?_⟩
      simp only [Bool.or_eq_true, decide_eq_true_eq]
      omega
    obtain ⟨b1, b2, b3, b4, k1, k2, k3, k4, k5⟩ := ex
    clear g1
    cases b1
    · cases b2
      · cases b3
        · obtain rfl : b4 = true := by simpa using k5
          go_enter Tryz.func3, Tryz.ntmps3
          go_wp2_with fail
          refine HLV.out.mono ?_; rintro e w1 ⟨rfl, hb1⟩
          have y1 := hid hb1; clear hb1
          go_wp2_with fail
          refine (HLG _ (HV.out.call y1.out)).out.mono ?_; rintro e w2 ⟨rfl, rfl⟩
          go_wp2_with fail
          go_ret
          exact ⟨rfl, y1.out⟩
        · clear k4 k5
          go_enter Tryz.func3, Tryz.ntmps3
          go_wp2_with fail
          refine HLV.out.mono ?_; rintro e w1 ⟨rfl, hb1⟩
          have y1 := hid hb1; clear hb1
          go_wp2_with fail
          refine (HLG _ (HV.out.call y1.out)).out.mono ?_; rintro e w2 ⟨rfl, rfl⟩
          go_wp2_with fail
          go_ret
          exact ⟨rfl, y1.out⟩
      · clear k3 k4 k5
        go_enter Tryz.func3, Tryz.ntmps3
        go_wp2_with fail
        refine HLV.out.mono ?_; rintro e w1 ⟨rfl, hb1⟩
        have y1 := hid hb1; clear hb1
        go_wp2_with fail
        refine (HLG _ (HV.out.call y1.out)).out.mono ?_; rintro e w2 ⟨rfl, rfl⟩
        go_wp2_with fail
        go_ret
        exact ⟨rfl, y1.out⟩
    · clear k2 k3 k4 k5
      go_enter Tryz.func3, Tryz.ntmps3
      go_wp2_with fail
      refine HLV.out.mono ?_; rintro e w1 ⟨rfl, hb1⟩
      have y1 := hid hb1; clear hb1
      go_wp2_with fail
      refine (HLG _ (HV.out.call y1.out)).out.mono ?_; rintro e w2 ⟨rfl, rfl⟩
      go_wp2_with fail
      go_ret
      exact ⟨rfl, y1.out⟩
  have t1 : decide ((100 : Int) < (f.size : Int)) = false := by simp; omega
  have t2 : decide ((100 : Int) < (b.size : Int)) = false := by simp; omega
  have t3 : decide (n < 0) = false := by simp; omega
  have t4 : decide (40 < n) = false := by simp; omega
  have HF : Hid (f.size ≤ 100) := hid (by omega)
  have HBZ : Hid (b.size ≤ 100) := hid (by omega)
  obtain ⟨k, hk, hP⟩ := k_Pick w many 64 (by omega) (by omega) hm1 hm2
  have HP := fun V => (k_Pick V many 64 (by omega) (by omega) hm1 hm2)
  clear hP hk k
  have HN40 : Hid (0 ≤ n ∧ n ≤ 40) := hid (by omega)
  clear g1 hf hb hn1 hn2 hm1 hm2
  go_enter Tryz.func3, Tryz.ntmps3
  go_wp2_with fail
  refine HLV.out.mono ?_; rintro e w1 ⟨rfl, hb1⟩
  have y1 := hid hb1; clear hb1
  go_wp2_with fail
  refine (HLG _ (HV.out.call y1.out)).out.mono ?_; rintro e w2 ⟨rfl, rfl⟩
  go_wp2_with fail
  obtain ⟨k, hk, hP⟩ := HP w1
  refine hP.mono ?_; rintro e w2 ⟨rfl, rfl⟩
  have hmk : ∀ W, (Instr.makeSlice 22 (.int .i64 (1 + (k : Int))) (.int .i64 (1 + (k : Int)))).run Tryz.prog W = .ok (.slice (some ⟨W.heap.size, 0, none⟩) (k + 1) (k + 1)) (W.alloc (.cells (madeCells #[.string ⟨#[]⟩] (k + 1)) 23)) := fun W => by
    have := make_nums (k + 1) (by omega) W
    rw [show ((k + 1 : Nat) : Int) = 1 + (k : Int) by omega] at this
    exact this
  clear hP HP
  go_wp2_with fail
  have X1 := hid (Blk.new w1 (madeCells #[.string ⟨#[]⟩] (k + 1)) 23)
  rw [fillA_zero] at X1
  have B1 := hid ((Below.refl w1.heap.size w1).alloc (Nat.le_refl _) (.cells (madeCells #[.string ⟨#[]⟩] (k + 1)) 23))
  obtain ⟨W0, hW0⟩ : ∃ W0, w1.alloc (.cells (fillA 0 (k + 1)) 23) = W0 := ⟨_, rfl⟩
  rw [fillA_zero] at B1 ⊢
  rw [hW0] at X1 B1 ⊢
  obtain ⟨g, hg⟩ : ∃ g, w1.heap.size = g := ⟨_, rfl⟩
  rw [hg] at X1 ⊢
  have GE : Hid (w.heap.size ≤ g) := by rw [← hg]; exact y1.out.size
  have B0 := hid (bnext y1.out B1.out)
  clear hW0 hg B1
  go_loopw [12] (fun s12 wr => ∃ j : Nat, s12 = .int .i64 (j : Nat) ∧ j ≤ k + 1 ∧ Hid (Blk wr g (fillA j (k + 1)) 23) ∧ Hid (Below w.heap.size w wr)) (fun s12 wr => k + 1 - (intOf s12).toNat)
  case atStart => exact ⟨0, rfl, Nat.zero_le _, X1, B0⟩
  case round =>
    obtain ⟨j, rfl, hj, hX, hB⟩ := hrel
    by_cases hlt : j < k + 1
    · have e0 := hX.out.free j
      obtain ⟨x, hx⟩ : ∃ x, wr.cell? ⟨g, j, none⟩ = some x := by
        rw [hX.out.cell]
        exact ⟨_, Array.getElem?_eq_getElem (by simp [fillA]; omega)⟩
      have wi : IntKind.i64.wrap ((j : Int) + 1) = ((j + 1 : Nat) : Int) := by rw [IntWalk.i64_in _ ⟨by omega, by omega⟩]; omega
      have b1 : (0 : Int) ≤ (j : Int) := by omega
      have b2 : (j : Int) < (k : Int) + 1 := by omega
      have z1 := hid (hX.out.set j (.string ⟨#[49]⟩))
      rw [fillA_set hlt] at z1
      have z2 := hid (below_set hB.out (i := j) GE.out (.string ⟨#[49]⟩))
      go_wp2_with fail
      go_roundw
      case rel => exact ⟨j + 1, rfl, by omega, z1, z2⟩
      case measure => simp [intOf] <;> omega
    · obtain rfl : j = k + 1 := by omega
      have q1 : decide (((k + 1 : Nat) : Int) < ((k + 1 : Nat) : Int)) = false := by simp
      have RS := hid (fillA_row hX.out (by omega))
      have onz : ∀ x ∈ onesL (k + 1), x.size ≤ 1000000 := fun x hx => by
        obtain ⟨y, hy, rfl⟩ := List.mem_map.1 hx
        rw [List.eq_of_mem_replicate hy, numB_size, nDigits_one]; omega
      have hbz : b.size ≤ 100000000 := by have := HBZ.out; omega
      have P1 := hid (p_Draw _ _ _ b RS.out onz hbz (HL.out.call hB.out))
      have P2 := fun V hV => hid (p_Below V ((k + 1 : Nat) : Int) b hbz hV)
      obtain ⟨o1, o2⟩ := ones_draw (k := k + 1) (by omega) (by omega) b
      rw [o1, o2] at P1
      generalize bwE ((k + 1 : Nat) : Int) b = oe at *
      generalize bw3 ((k + 1 : Nat) : Int) b = od at *
      obtain ⟨d1, d2, d3⟩ := od
      simp only [dw3] at P1 P2
      rw [show ((k + 1 : Nat) : Int) = (k : Int) + 1 by omega] at P2
      clear hlt onz hbz o1 o2
      go_wp2_with fail
      refine P1.out.mono ?_; rintro e w3 ⟨rfl, hb3⟩
      have B3 := hid (bnext hB.out hb3)
      have X3 := hid (Blk.new w3 #[.bool d1, .int .i64 (d2 : Nat), .int .i64 (d3 : Nat)] 29)
      have B4 := hid (B3.out.alloc B3.out.size (.cells #[.bool d1, .int .i64 (d2 : Nat), .int .i64 (d3 : Nat)] 29))
      clear hb3
      go_wp2_with fail
      refine (P2 _ (HL.out.call B4.out)).out.mono ?_; rintro e w5 ⟨rfl, hb5⟩
      have B5 := hid (bnext B4.out hb5)
      have X5 := hid (X3.out.call hb5)
      have X6 := hid (X5.out.alloc (.cells #[.bool d1, .int .i64 (d2 : Nat), .int .i64 (d3 : Nat)] 29))
      have B6 := hid (B5.out.alloc B5.out.size (.cells #[.bool d1, .int .i64 (d2 : Nat), .int .i64 (d3 : Nat)] 29))
      have r0 := X6.out.cell 0
      have r1 := X6.out.cell 1
      have r2 := X6.out.cell 2
      simp at r0 r1 r2
      have PCk := fun V => hid (r1_Check V f (by have := HF.out; omega))
      clear hb5 P1 P2
      by_cases hf0 : errN f.data.toList = 0
      · rw [hf0] at PCk
        have HF0 := hid hf0
        clear hf0
        by_cases hfz : f = ⟨#[48]⟩
        · subst hfz
          go_wp2_with fail
          refine (PCk _).out.mono ?_; rintro e w7 ⟨rfl, rfl⟩
          go_wp2_with fail
          go_ret
          exact ⟨rfl, B6.out⟩
        · have hfz2 := ne_lit hfz
          have HFZ := hid hfz
          clear hfz
          go_wp2_with fail
          refine (PCk _).out.mono ?_; rintro e w7 ⟨rfl, rfl⟩
          go_wp2_with fail
          obtain ⟨fc, hfe, hfd⟩ := errN_read HF0.out
          have hfc : 0 < fc := by
            rcases Nat.eq_zero_or_pos fc with e | e
            · exact absurd (by rw [hfe, e, numB_zero]) HFZ.out
            · exact e
          have hfb : bN f = fc := by rw [hfe, bN_num]
          have hf100 : nDigits fc ≤ 100 := by have := HF.out; rw [hfe, numB_size] at this; exact this
          have HFC := hid hfc; have HFB := hid hfb; have HF100 := hid hf100
          obtain ⟨i0, hi, hz0, hz1, hz2⟩ := info_parts info_num
          clear hfe hfd hfc hfb hf100 hfz2 r0 r1 r2
          go_loopw [17, 18] (fun s17 s18 wr => ∃ i : Nat, s18 = .int .i64 (i : Nat) ∧ i ≤ N ∧ Hid (ScI l fc i) ∧ Hid (wr.ownsRow w.heap.size 23 1 s17 i (strs ((scB l fc).take i))) ∧ Hid (Below w.heap.size w wr)) (fun s17 s18 wr => N - (intOf s18).toNat)
          case atStart => exact ⟨0, rfl, Nat.zero_le _, fun j hj => absurd hj (by omega), ⟨rfl, .inl ⟨rfl, rfl⟩⟩, B6.out⟩
          case round =>
            obtain ⟨i, rfl, hi2, hS, hO, hB⟩ := hrel
            by_cases hlt : i < N
            · obtain ⟨x, hx⟩ : ∃ x, l[i]? = some x := ⟨_, List.getElem?_eq_getElem (by rw [HN.out]; exact hlt)⟩
              have hxs := (longB_no HG0.out).1 x (List.mem_of_getElem? hx)
              obtain ⟨g', o, rfl, hg', hc⟩ := HV.out.at (strs_get hx)
              have hc2 := (hB.out.cell (p := ⟨g', o + i, none⟩) hg').trans hc
              have HX := hid hx
              have hN70 := (longB_no HG0.out).2
              rw [HN.out] at hN70
              have b1 : (0 : Int) ≤ (i : Int) := by omega
              have b2 : (i : Int) < (N : Int) := by omega
              have wi : IntKind.i64.wrap ((i : Int) + 1) = ((i + 1 : Nat) : Int) := by rw [IntWalk.i64_in _ ⟨by omega, by omega⟩]; omega
              have PM := fun V => hid (r1_Mul V x f (by omega) (by have := HF.out; omega))
              by_cases he : opE (· * ·) x.data.toList f.data.toList = 0
              · obtain ⟨k1, k2, k3⟩ := opE_zero HF0.out he
                rw [HFB.out] at k2 k3
                rw [he, k3] at PM
                have hS2 : Hid (ScI l fc (i + 1)) := fun j hj => by
                  rcases Nat.lt_or_ge j i with h | h
                  · exact hS.out j h
                  · obtain rfl : j = i := by omega
                    exact ⟨x, HX.out, k1, k2⟩
                have hR : (scB l fc)[i]? = some (numB (bN x * fc)) := by unfold scB; rw [List.getElem?_map, HX.out]; rfl
                obtain ⟨R, hR2⟩ : ∃ R, numB (bN x * fc) = R := ⟨_, rfl⟩
                rw [hR2] at PM hR
                have HR := hid hR
                clear he k1 k2 k3 hR hR2 hc hg' hx hxs
                go_wp2_with fail
                refine (PM _).out.mono ?_; rintro e w8 ⟨rfl, hb8⟩
                have B8 := hid (hB.out.trans (hb8.mono hB.out.size))
                have O8 := hid (owns_call hO.out hb8)
                clear hb8
                go_wp2_with (at_builtin; refine wpList_append_own _ rfl _ _ 22 rfl w.heap.size 23 i0 (.string ⟨#[]⟩) 1 16 Tryz.underlying22 hi hz0 hz1 hz2 rfl (by decide) _ i _ rfl (O8.out.alloc _) ⟨w8.heap.size, 0, none⟩ 1 1 [.string R] rfl rfl (cell_one_new w8 (.string R) 23) (by simp [Value.oneCell']) (by unfold maxLen; omega) (by omega) (by have := B8.out.size; simp; omega) ?_; intro v' w3 hown3 hgrow3 _)
                have hO3 := hid (show w3.ownsRow w.heap.size 23 1 v' (i + 1) (strs ((scB l fc).take (i + 1))) by
                  rw [List.take_add_one, HR.out, Option.toList_some, strs_append]; exact hown3)
                have hB3 : Hid (Below w.heap.size w w3) := by
                  refine (B8.out.alloc B8.out.size _).trans ⟨hgrow3.os, hgrow3.tape, hgrow3.output, hgrow3.size, fun k hk => hgrow3.block k (by have := B8.out.size; simp; omega) (fun e => ?_)⟩
                  have := (O8.out.lt k e.symm).1
                  omega
                clear hown3 hgrow3
                go_wp2_with fail
                go_roundw
                case rel => exact ⟨i + 1, rfl, by omega, hS2, hO3, hB3⟩
                case measure => simp [intOf] <;> omega
              · obtain ⟨z, hz⟩ : ∃ z, opE (· * ·) x.data.toList f.data.toList = z := ⟨_, rfl⟩
                obtain ⟨zs, hzs⟩ : ∃ z, opS (· * ·) x.data.toList f.data.toList = z := ⟨_, rfl⟩
                rw [hz] at PM he
                rw [hzs] at PM
                have q0 : (z != 0) = true := by simpa using he
                clear hz hzs he hc hg' hx hxs
                go_wp2_with fail
                refine (PM _).out.mono ?_; rintro e w8 ⟨rfl, hb8⟩
                have B8 := hid (hB.out.trans (hb8.mono hB.out.size))
                clear hb8
                go_wp2_with fail
                go_ret
                exact ⟨rfl, B8.out⟩
            · obtain rfl : i = N := by omega
              have q1 : decide ((i : Int) < (i : Int)) = false := by simp
              obtain ⟨k1, k2, k3, k4, k5⟩ := scB_all HG0.out (by rw [HN.out]; exact hS.out) HFC.out HF100.out b n
              have h := hO.out
              rw [List.take_of_length_le (by unfold scB; rw [List.length_map, HN.out]; exact Nat.le_refl _)] at h
              obtain ⟨a7, c7, rfl⟩ := owns_ex h
              have hrow := Row.of_owns h
              have HROW := hid hrow
              have hl1 := fun x hx => Nat.le_trans ((longB_no HG0.out).1 x hx) (by omega : 300 ≤ 1000000)
              have hbz : b.size ≤ 100000000 := by have := HBZ.out; omega
              have P1 := fun V v hV hLV => hid (p_Draw V v l b hV hl1 hbz hLV)
              have P2 := fun V v hV hLV => hid (p_Draw V v _ b hV k5 hbz hLV)
              have P3 := fun V v hV hLV => hid (p_Law V v l n hV hl1 hLV)
              have P4 := fun V v hV hLV => hid (p_Law V v _ n hV k5 hLV)
              rw [k1, k2] at P2
              rw [k3, k4] at P4
              generalize drE l b = e1 at *
              generalize dr3 l b = f1 at *
              generalize lawE l n = e2 at *
              generalize lawR l n = f2 at *
              obtain ⟨p1, p2, p3⟩ := f1
              simp only [dw3] at P1 P2
              clear hlt k1 k2 k3 k4 k5 h hrow hl1 hbz hi hz0 hz1 hz2
              go_wp2_with fail
              refine (P1 _ _ (HV.out.call hB.out) (HL.out.call hB.out)).out.mono ?_; rintro e w8 ⟨rfl, hb8⟩
              have B8 := hid (bnext hB.out hb8)
              have R8 := hid (HROW.out.call hb8)
              have X8 := hid (Blk.new w8 #[.bool p1, .int .i64 (p2 : Nat), .int .i64 (p3 : Nat)] 29)
              have A8 := hid ((Below.refl w8.heap.size w8).alloc (Nat.le_refl _) (.cells #[.bool p1, .int .i64 (p2 : Nat), .int .i64 (p3 : Nat)] 29))
              have D8 := hid (bnext B8.out A8.out)
              clear hb8
              go_wp2_with fail
              refine (P2 _ _ (R8.out.call A8.out) (HL.out.call D8.out)).out.mono ?_; rintro e w9 ⟨rfl, hb9⟩
              have X9 := hid ((X8.out.call hb9).alloc (.cells #[.bool p1, .int .i64 (p2 : Nat), .int .i64 (p3 : Nat)] 29))
              have Y9 := hid (Blk.new w9 #[.bool p1, .int .i64 (p2 : Nat), .int .i64 (p3 : Nat)] 29)
              have A9 := hid ((Below.refl w9.heap.size w9).alloc (Nat.le_refl _) (.cells #[.bool p1, .int .i64 (p2 : Nat), .int .i64 (p3 : Nat)] 29))
              have D9 := hid (bnext (bnext D8.out hb9) A9.out)
              have R9 := hid (((R8.out.call A8.out).call hb9).call A9.out)
              have L9 := hid (show w8.heap.size < w9.heap.size from (X8.out.call hb9).lt)
              clear hb9
              go_wp2_with fail
              refine (P3 _ _ (HV.out.call D9.out) (HL.out.call D9.out)).out.mono ?_; rintro e w10 ⟨⟨u10, rfl, hu10⟩, hb10⟩
              have D10 := hid (bnext D9.out hb10)
              have U10 := hid hu10
              have X10 := hid (X9.out.call hb10)
              have Y10 := hid (Y9.out.call hb10)
              have R10 := hid (R9.out.call hb10)
              clear hb10 hu10
              go_wp2_with fail
              refine (P4 _ _ R10.out (HL.out.call D10.out)).out.mono ?_; rintro e w11 ⟨⟨u11, rfl, hu11⟩, hb11⟩
              have D11 := hid (bnext D10.out hb11)
              have U11 := hid hu11
              have V11 := hid (U10.out.call hb11)
              have X11 := hid (X10.out.call hb11)
              have Y11 := hid (Y10.out.call hb11)
              have r0 := X11.out.cell 0
              have r1 := X11.out.cell 1
              have r2 := X11.out.cell 2
              have r3 := Y11.out.cell 0
              have r4 := Y11.out.cell 1
              have r5 := Y11.out.cell 2
              simp at r0 r1 r2 r3 r4 r5
              have PSm := hid (k_SameM w11 u10 u11 _ _ V11.out U11.out)
              rw [decide_eq_true rfl] at PSm
              clear hb11 hu11
              go_wp2_with fail
              refine PSm.out.mono ?_; rintro e w12 ⟨rfl, hb12⟩
              have D12 := hid (bnext D11.out hb12)
              clear hb12
              go_wp2_with fail
              go_ret
              exact ⟨rfl, D12.out⟩
      · obtain ⟨z, hz⟩ : ∃ z, errN f.data.toList = z := ⟨_, rfl⟩
        rw [hz] at PCk hf0
        have q0 : (z != 0) = true := by simpa using hf0
        clear hz hf0
        go_wp2_with fail
        refine (PCk _).out.mono ?_; rintro e w7 ⟨rfl, rfl⟩
        go_wp2_with fail
        go_ret
        exact ⟨rfl, B6.out⟩
end Go.Proofs.YtjgcjjbnnlnilaaGreatDoor

/- Walks: law05.PickCounts. -/
namespace Go.Proofs.YtjgcjjbnnlnilaaGreatDoor
open Go.RowKit Go.Shelf
open Go.Lib (decDigits nDigits)
set_option linter.unusedVariables false
set_option linter.unusedSimpArgs false

theorem make_ints (n : Nat) (hn : n ≤ 3000000) (W : World) : (Instr.makeSlice 49 (.int .i64 (n : Int)) (.int .i64 (n : Int))).run Tryz.prog W = .ok (.slice (some ⟨W.heap.size, 0, none⟩) n n) (W.alloc (.cells (madeCells #[.int .i64 0] n) 3)) :=
  run_make_row' (P := Tryz.prog) 49 3 (.int .i64 0) 8 Tryz.underlying49 (by kernel_rfl) rfl .i64 .i64 n (by omega) (by omega) W

theorem tb_list (l : List UInt8) : (tb l).data.toList = l := by simp [tb]
theorem bit_words {n : Nat} {l : List UInt8} (h : l ∈ allW n) (hn : n ≤ 256) : chkE (tb l) = 0 := by
  have h1 : bitB (tb l) = true := by
    unfold bitB
    rw [tb_list, List.all_eq_true]
    intro b hb
    rcases allW_bits h b hb with rfl | rfl <;> decide
  rw [chkE, if_pos h1, if_neg (by rw [tb_size, allW_len h]; omega)]

set_option maxRecDepth 100000 in
set_option maxHeartbeats 4000000 in
theorem pc_err (w : World) (v : Value) (l : List ByteArray) (n : Int) (hv : Row w v (strs l)) (hn1 : -9223372036854775808 ≤ n) (hn2 : n ≤ 9223372036854775807) (hL : Lay w)
    (h : longB l = true ∨ n < 0 ∨ 8 < n ∨ lawE l n ≠ 0) :
    Calls Tryz.prog 4 #[v, .int .i64 n] w fun e w' => e = .returned (.bool true) ∧ Below w.heap.size w w' := by
  have HLV := hid (w_lives w hL)
  have HLG := fun V hV => hid (p_long V v l hV)
  have HV := hid hv; have HL := hid hL
  obtain ⟨a, c, rfl, c1, c2, -⟩ := hv.openS
  obtain ⟨N, hN⟩ : ∃ N, l.length = N := ⟨_, rfl⟩
  have HN := hid hN
  rw [hN] at HLG HV c1 ⊢
  clear hL hv hN
  by_cases g0 : longB l = true
  · rw [g0] at HLG
    clear g0 h
    go_enter Tryz.func4, Tryz.ntmps4
    go_wp2_with fail
    refine HLV.out.mono ?_; rintro e w1 ⟨rfl, hb1⟩
    have y1 := hid hb1; clear hb1
    go_wp2_with fail
    refine (HLG _ (HV.out.call y1.out)).out.mono ?_; rintro e w2 ⟨rfl, rfl⟩
    go_wp2_with fail
    go_ret
    exact ⟨rfl, y1.out⟩
  have HG0 := hid g0
  rw [Bool.not_eq_true] at g0
  rw [g0] at HLG
  clear g0
  by_cases g1 : n < 0
  · have t1 : decide (n < 0) = true := by simpa using g1
    clear g1 h
    go_enter Tryz.func4, Tryz.ntmps4
    go_wp2_with fail
    refine HLV.out.mono ?_; rintro e w1 ⟨rfl, hb1⟩
    have y1 := hid hb1; clear hb1
    go_wp2_with fail
    refine (HLG _ (HV.out.call y1.out)).out.mono ?_; rintro e w2 ⟨rfl, rfl⟩
    go_wp2_with fail
    go_ret
    exact ⟨rfl, y1.out⟩
  have t1 : decide (n < 0) = false := by simpa using g1
  by_cases g2 : 8 < n
  · have t2 : decide (8 < n) = true := by simpa using g2
    clear g1 g2 h
    go_enter Tryz.func4, Tryz.ntmps4
    go_wp2_with fail
    refine HLV.out.mono ?_; rintro e w1 ⟨rfl, hb1⟩
    have y1 := hid hb1; clear hb1
    go_wp2_with fail
    refine (HLG _ (HV.out.call y1.out)).out.mono ?_; rintro e w2 ⟨rfl, rfl⟩
    go_wp2_with fail
    go_ret
    exact ⟨rfl, y1.out⟩
  have t2 : decide (8 < n) = false := by simpa using g2
  have he : lawE l n ≠ 0 := by
    rcases h with h | h | h | h
    · exact absurd h HG0.out
    · exact absurd h g1
    · exact absurd h g2
    · exact h
  have hl1 := fun x hx => Nat.le_trans ((longB_no HG0.out).1 x hx) (by omega : 300 ≤ 1000000)
  have P1 := fun V v hV hLV => hid (p_Law V v l n hV hl1 hLV)
  have P2 := fun V v hV hLV => hid (p_Late V v l n hV hl1 hLV)
  have e1 : lawR l n = [] := by rw [lawR, if_neg he]
  have e2 : lateR l n = ⟨#[]⟩ := by rw [lateR, if_neg he]
  rw [e1] at P1
  rw [e2] at P2
  obtain ⟨z, hz⟩ : ∃ z, lawE l n = z := ⟨_, rfl⟩
  rw [hz] at P1 P2 he
  have q0 : (z != 0) = true := by simpa using he
  clear g1 g2 h hl1 e1 e2 hz he
  go_enter Tryz.func4, Tryz.ntmps4
  go_wp2_with fail
  refine HLV.out.mono ?_; rintro e w1 ⟨rfl, hb1⟩
  have y1 := hid hb1; clear hb1
  go_wp2_with fail
  refine (HLG _ (HV.out.call y1.out)).out.mono ?_; rintro e w2 ⟨rfl, rfl⟩
  go_wp2_with fail
  refine (P1 _ _ (HV.out.call y1.out) (HL.out.call y1.out)).out.mono ?_; rintro e w2 ⟨⟨u, rfl, hu⟩, hb2⟩
  have y2 := hid (bnext y1.out hb2)
  obtain ⟨a2, k2, rfl, -⟩ := hu.ex
  simp only [List.length_nil]
  clear hb2 hu
  go_wp2_with fail
  refine (P2 _ _ (HV.out.call y2.out) (HL.out.call y2.out)).out.mono ?_; rintro e w3 ⟨rfl, hb3⟩
  have y3 := hid (bnext y2.out hb3)
  clear hb3
  go_wp2_with fail
  go_ret
  exact ⟨rfl, y3.out⟩
end Go.Proofs.YtjgcjjbnnlnilaaGreatDoor
