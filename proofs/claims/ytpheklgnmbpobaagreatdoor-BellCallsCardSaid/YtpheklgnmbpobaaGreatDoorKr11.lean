/- Texts that the proof rests on, merged: R7p, R7c, Rp10b, Rp15, R7d, R7e, Be6. -/
import Derived.Test.YtpheklgnmbpobaaGreatDoorKr10
import Derived.WalkLawsBesides
namespace Go.Proofs.YtpheklgnmbpobaaGreatDoor
open Go.RowKit
open Go.Lib (decDigits nDigits)
set_option linter.unusedVariables false
set_option linter.unusedSimpArgs false
theorem nodup_len {α : Type} [DecidableEq α] : ∀ {Y L : List α}, Y.Nodup → (∀ x ∈ Y, x ∈ L) → Y.length ≤ L.length
  | [], L, _, _ => Nat.zero_le _
  | y :: Y, L, hn, hs => by
    obtain ⟨h1, h2⟩ := List.nodup_cons.1 hn
    have hy : y ∈ L := hs y (List.mem_cons_self ..)
    have h3 : Y.length ≤ (L.erase y).length := nodup_len h2 fun x hx => by
      refine (List.mem_erase_of_ne ?_).2 (hs x (List.mem_cons_of_mem _ hx))
      rintro rfl
      exact h1 hx
    rw [List.length_erase_of_mem hy] at h3
    have := List.length_pos_of_mem hy
    rw [List.length_cons]
    omega
theorem key_nodup {Y : List (ByteArray × ByteArray)} (h : (Y.map keyL).Nodup) : Y.Nodup := by
  rw [List.Nodup, List.pairwise_map] at h
  exact h.imp fun hne e => hne (by rw [e])
theorem key_inj {L : List (ByteArray × ByteArray)} (h : (L.map keyL).Nodup) {p q : ByteArray × ByteArray} (hp : p ∈ L) (hq : q ∈ L) (e : keyL p = keyL q) : p = q := by
  induction L with
  | nil => cases hp
  | cons x r ih =>
    rw [List.map_cons, List.nodup_cons] at h
    rcases List.mem_cons.1 hp with h1 | h1 <;> rcases List.mem_cons.1 hq with h2 | h2
    · rw [h1, h2]
    · exact absurd (by rw [← h1, e]; exact List.mem_map_of_mem h2) h.1
    · exact absurd (by rw [← h2, ← e]; exact List.mem_map_of_mem h1) h.1
    · exact ih h.2 h1 h2
def SfI (L : List (ByteArray × ByteArray)) (t : Int) (O : List (ByteArray × ByteArray)) (C : ByteArray × ByteArray → Prop) : Prop :=
  ∃ Y : List (ByteArray × ByteArray), O = sortM (Y.map (shP t)) ∧ (Y.map keyL).Nodup ∧ ∀ p, p ∈ Y ↔ p ∈ L ∧ C p
theorem SfI.nil (L : List (ByteArray × ByteArray)) (t : Int) {C : ByteArray × ByteArray → Prop} (h : ∀ p, ¬ C p) : SfI L t [] C :=
  ⟨[], by rw [List.map_nil, sortM, List.mergeSort_nil], List.nodup_nil, fun p => ⟨fun hh => absurd hh List.not_mem_nil, fun h' => absurd h'.2 (h p)⟩⟩
theorem SfI.congr {L O : List (ByteArray × ByteArray)} {t : Int} {C C' : ByteArray × ByteArray → Prop} (h : SfI L t O C) (hc : ∀ p ∈ L, C p ↔ C' p) : SfI L t O C' := by
  obtain ⟨Y, h1, h2, h3⟩ := h
  exact ⟨Y, h1, h2, fun p => by rw [h3]; exact ⟨fun ⟨a, b⟩ => ⟨a, (hc p a).1 b⟩, fun ⟨a, b⟩ => ⟨a, (hc p a).2 b⟩⟩⟩
theorem SfI.len {L O : List (ByteArray × ByteArray)} {t : Int} {C : ByteArray × ByteArray → Prop} (h : SfI L t O C) : O.length ≤ L.length := by
  obtain ⟨Y, rfl, h2, h3⟩ := h
  rw [sortM_length, List.length_map]
  exact nodup_len (key_nodup h2) fun x hx => ((h3 x).1 hx).1
theorem SfI.add {L O : List (ByteArray × ByteArray)} {t : Int} {C : ByteArray × ByteArray → Prop} (h : SfI L t O C) (hs : ShOk L) (hn : (L.map keyL).Nodup) {p : ByteArray × ByteArray} (hp : p ∈ L) (hc : ¬ C p) (hz : p.2 ≠ ⟨#[48]⟩) :
    SfI L t (addL O (shP t p).1 p.2) (fun x => C x ∨ x = p) := by
  obtain ⟨Y, rfl, h2, h3⟩ := h
  have hY : ∀ x ∈ Y, x ∈ L := fun x hx => ((h3 x).1 hx).1
  have h2' : ((Y ++ [p]).map keyL).Nodup := by
    rw [List.map_append, List.nodup_append]
    refine ⟨h2, by simp, fun a ha b hb => ?_⟩
    obtain ⟨x, hx, rfl⟩ := List.mem_map.1 ha
    simp only [List.map_cons, List.map_nil, List.mem_singleton] at hb
    subst hb
    intro e
    have := key_inj hn (hY x hx) hp e
    subst this
    exact hc ((h3 x).1 hx).2
  have hsY : ShOk (Y ++ [p]) := fun x hx => by
    rcases List.mem_append.1 hx with h | h
    · exact hs x (hY x h)
    · rw [List.mem_singleton] at h; subst h; exact hs x hp
  have h5 := shP_key (t := t) hsY h2'
  rw [List.map_append, List.map_append, List.nodup_append] at h5
  obtain ⟨h6, -, h7⟩ := h5
  have hk : ∀ x ∈ Y.map (shP t), x.1 ≠ (shP t p).1 := fun x hx e => by
    refine h7 (keyL x) (List.mem_map_of_mem hx) (keyL (shP t p)) (by simp) ?_
    unfold keyL; rw [e]
  have e2 : (shP t p).2 = p.2 := by unfold shP; split <;> rfl
  refine ⟨Y ++ [p], ?_, h2', fun x => ?_⟩
  · rw [addL_sort hz hk (nodup_pw h6), List.map_append, ← e2]; rfl
  · rw [List.mem_append, List.mem_singleton, h3]
    constructor
    · rintro (⟨a, b⟩ | rfl)
      · exact ⟨a, .inl b⟩
      · exact ⟨hp, .inr rfl⟩
    · rintro ⟨a, b | rfl⟩
      · exact .inl ⟨a, b⟩
      · exact .inr rfl
theorem SfI.all {L O : List (ByteArray × ByteArray)} {t : Int} {C : ByteArray × ByteArray → Prop} (h : SfI L t O C) (hs : ShOk L) (hn : (L.map keyL).Nodup) (hc : ∀ p ∈ L, C p) : O = sortM (L.map (shP t)) := by
  obtain ⟨Y, rfl, h2, h3⟩ := h
  have hY : ∀ x, x ∈ Y ↔ x ∈ L := fun x => ⟨fun hx => ((h3 x).1 hx).1, fun hx => (h3 x).2 ⟨hx, hc x hx⟩⟩
  refine sortM_same (shP_key (fun x hx => hs x ((hY x).1 hx)) h2) (shP_key hs hn) fun p => ?_
  rw [List.mem_map, List.mem_map]
  exact ⟨fun ⟨x, hx, e⟩ => ⟨x, (hY x).1 hx, e⟩, fun ⟨x, hx, e⟩ => ⟨x, (hY x).2 hx, e⟩⟩
def shC (L : List (ByteArray × ByteArray)) (i k : Nat) (p : ByteArray × ByteArray) : Prop := ∃ j, p.1 = numB j ∧ (j < i ∨ (j = i ∧ p ∈ L.take k))
def shL (L : List (ByteArray × ByteArray)) (i k : Nat) (p : ByteArray × ByteArray) : Prop := (∃ j, p.1 = numB j ∧ j < i) ∨ (p.1 = lateB ∧ p ∈ L.take k)
theorem take_mem {L : List (ByteArray × ByteArray)} {k : Nat} {p x : ByteArray × ByteArray} (h : L[k]? = some p) : x ∈ L.take (k + 1) ↔ x ∈ L.take k ∨ x = p := by
  rw [List.take_add_one, h, Option.toList_some, List.mem_append, List.mem_singleton]
theorem not_take {L : List (ByteArray × ByteArray)} (hn : (L.map keyL).Nodup) {k : Nat} {p : ByteArray × ByteArray} (h : L[k]? = some p) : p ∉ L.take k := fun hm => by
  have hN := key_nodup hn
  obtain ⟨j, hj⟩ := List.getElem?_of_mem hm
  have hlt := (List.getElem?_eq_some_iff.1 hj).1
  rw [List.length_take] at hlt
  rw [List.getElem?_take_of_lt (by omega)] at hj
  have h1 := (List.getElem?_eq_some_iff.1 hj)
  have h2 := (List.getElem?_eq_some_iff.1 h)
  have h3 := List.pairwise_iff_getElem.1 hN j k h1.1 h2.1 (by omega)
  exact h3 (h1.2.trans h2.2.symm)
theorem shC_next {L : List (ByteArray × ByteArray)} {i : Nat} : ∀ p ∈ L, shC L i L.length p ↔ shC L (i + 1) 0 p := fun p hp => by
  unfold shC
  constructor
  · rintro ⟨j, e, h | ⟨h, -⟩⟩
    · exact ⟨j, e, .inl (by omega)⟩
    · exact ⟨j, e, .inl (by omega)⟩
  · rintro ⟨j, e, h | ⟨h, h2⟩⟩
    · by_cases h3 : j < i
      · exact ⟨j, e, .inl h3⟩
      · exact ⟨j, e, .inr ⟨by omega, by rw [List.take_length]; exact hp⟩⟩
    · simp at h2
theorem shC_skip {L : List (ByteArray × ByteArray)} {i k : Nat} {p : ByteArray × ByteArray} (h : L[k]? = some p) (hne : p.1 ≠ numB i) : ∀ x ∈ L, shC L i k x ↔ shC L i (k + 1) x := fun x hx => by
  unfold shC
  constructor
  · rintro ⟨j, e, h1 | ⟨h1, h2⟩⟩
    · exact ⟨j, e, .inl h1⟩
    · exact ⟨j, e, .inr ⟨h1, (take_mem h).2 (.inl h2)⟩⟩
  · rintro ⟨j, e, h1 | ⟨rfl, h2⟩⟩
    · exact ⟨j, e, .inl h1⟩
    · rcases (take_mem h).1 h2 with h3 | rfl
      · exact ⟨j, e, .inr ⟨rfl, h3⟩⟩
      · exact absurd e hne
theorem shC_step {L : List (ByteArray × ByteArray)} {i k : Nat} {p : ByteArray × ByteArray} (h : L[k]? = some p) (he : p.1 = numB i) : ∀ x ∈ L, (shC L i k x ∨ x = p) ↔ shC L i (k + 1) x := fun x hx => by
  unfold shC
  constructor
  · rintro (⟨j, e, h1 | ⟨h1, h2⟩⟩ | rfl)
    · exact ⟨j, e, .inl h1⟩
    · exact ⟨j, e, .inr ⟨h1, (take_mem h).2 (.inl h2)⟩⟩
    · exact ⟨i, he, .inr ⟨rfl, (take_mem h).2 (.inr rfl)⟩⟩
  · rintro ⟨j, e, h1 | ⟨rfl, h2⟩⟩
    · exact .inl ⟨j, e, .inl h1⟩
    · rcases (take_mem h).1 h2 with h3 | rfl
      · exact .inl ⟨j, e, .inr ⟨rfl, h3⟩⟩
      · exact .inr rfl
theorem shC_new {L : List (ByteArray × ByteArray)} (hn : (L.map keyL).Nodup) {i k : Nat} {p : ByteArray × ByteArray} (h : L[k]? = some p) (he : p.1 = numB i) : ¬ shC L i k p := by
  rintro ⟨j, e, h1 | ⟨h1, h2⟩⟩
  · have : numB i = numB j := he.symm.trans e
    have h3 : i = j := by
      have := congrArg bN this
      rwa [bN_num, bN_num] at this
    omega
  · exact not_take hn h h2
theorem shL_start {L : List (ByteArray × ByteArray)} {i : Nat} : ∀ p ∈ L, shC L i 0 p ↔ shL L i 0 p := fun p hp => by
  unfold shC shL
  constructor
  · rintro ⟨j, e, h | ⟨h, h2⟩⟩
    · exact .inl ⟨j, e, h⟩
    · simp at h2
  · rintro (⟨j, e, h⟩ | ⟨-, h2⟩)
    · exact ⟨j, e, .inl h⟩
    · simp at h2
theorem shL_skip {L : List (ByteArray × ByteArray)} {i k : Nat} {p : ByteArray × ByteArray} (h : L[k]? = some p) (hne : p.1 ≠ lateB) : ∀ x ∈ L, shL L i k x ↔ shL L i (k + 1) x := fun x hx => by
  unfold shL
  constructor
  · rintro (h1 | ⟨h1, h2⟩)
    · exact .inl h1
    · exact .inr ⟨h1, (take_mem h).2 (.inl h2)⟩
  · rintro (h1 | ⟨h1, h2⟩)
    · exact .inl h1
    · rcases (take_mem h).1 h2 with h3 | rfl
      · exact .inr ⟨h1, h3⟩
      · exact absurd h1 hne
theorem shL_step {L : List (ByteArray × ByteArray)} {i k : Nat} {p : ByteArray × ByteArray} (h : L[k]? = some p) (he : p.1 = lateB) : ∀ x ∈ L, (shL L i k x ∨ x = p) ↔ shL L i (k + 1) x := fun x hx => by
  unfold shL
  constructor
  · rintro ((h1 | ⟨h1, h2⟩) | rfl)
    · exact .inl h1
    · exact .inr ⟨h1, (take_mem h).2 (.inl h2)⟩
    · exact .inr ⟨he, (take_mem h).2 (.inr rfl)⟩
  · rintro (h1 | ⟨h1, h2⟩)
    · exact .inl (.inl h1)
    · rcases (take_mem h).1 h2 with h3 | rfl
      · exact .inl (.inr ⟨h1, h3⟩)
      · exact .inr rfl
theorem shL_new {L : List (ByteArray × ByteArray)} (hn : (L.map keyL).Nodup) {i k : Nat} {p : ByteArray × ByteArray} (h : L[k]? = some p) (he : p.1 = lateB) : ¬ shL L i k p := by
  rintro (⟨j, e, -⟩ | ⟨-, h2⟩)
  · exact numB_nl j (e.symm.trans he)
  · exact not_take hn h h2
end Go.Proofs.YtpheklgnmbpobaaGreatDoor
namespace Go.Proofs.YtpheklgnmbpobaaGreatDoor
open Go.RowKit Go.Shelf
open Go.Lib (decDigits nDigits)
set_option linter.unusedVariables false
set_option linter.unusedSimpArgs false
set_option maxRecDepth 100000 in
set_option maxHeartbeats 4000000 in
theorem r7_shifted (w : World) (v : Value) (L : List (ByteArray × ByteArray)) (t : Nat) (hv : MRow w v L) (hs : ShOk L) (hn : (L.map keyL).Nodup) (hl : L.length ≤ 65) (ht : t ≤ 16) (hz : ∀ p ∈ L, p.2 ≠ ⟨#[48]⟩) (hk : ∀ p ∈ L, p.1 = lateB ∨ ∃ i, i < 2 * t + 1 ∧ p.1 = numB i) :
    Calls Tryz.prog 67 #[v, .int .i64 (t : Nat)] w fun e w' => (∃ u, e = .returned u ∧ MRow w' u (sortM (L.map (shP t)))) ∧ Below w.heap.size w w' := by
  have HV := hid hv; have HS := hid hs; have HN := hid hn; have HZ := hid hz; have HKK := hid hk
  obtain ⟨a, c, rfl, q1, q2, q3⟩ := hv.ex
  obtain ⟨n, hln⟩ : ∃ n, L.length = n := ⟨_, rfl⟩
  have HLN := hid hln
  rw [hln] at HV q1 hl ⊢
  have H3 := hid q3
  have HL65 := hid hl
  have wt : IntKind.i64.wrap (2 * (t : Int)) = 2 * (t : Int) := by rw [IntWalk.i64_in _ ⟨by omega, by omega⟩]
  have HT := hid ht
  have PI := fun V (i : Nat) (h : i ≤ 1000) => hid (r2_Int V i (by omega))
  have PZ := fun V (k : Int) (h1 : -1000 ≤ k) (h2 : k ≤ 1000) => hid (r2_IntZ V k (by omega) (by omega))
  have PA := fun V u O key p (hu : MRow V u O) (hO : O.length ≤ 65) => hid (r4_Add V u O key p hu (by omega))
  clear hv hs hn hz hk hln q3 hl ht
  go_enter Tryz.func67, Tryz.ntmps67
  go_wp2_with fail
  go_loopw [5, 6] (fun s5 s6 wr => ∃ (i : Nat) (O : List (ByteArray × ByteArray)), s6 = .int .i64 (i : Nat) ∧ i ≤ 2 * t + 1 ∧ Hid (SfI L t O (shC L i 0)) ∧ Hid (MRow wr s5 O) ∧ Hid (Below w.heap.size w wr)) (fun s5 s6 wr => 2 * t + 1 - (intOf s6).toNat)
  case atStart => exact ⟨0, [], rfl, Nat.zero_le _, SfI.nil L t (fun p => by rintro ⟨j, -, h | ⟨-, h⟩⟩ <;> simp at h), MRow.nil _, Below.refl _ _⟩
  case round =>
    obtain ⟨i, O, rfl, hi, hI, hO, hB⟩ := hrel
    have ht16 := HT.out
    by_cases hlt : i < 2 * t + 1
    · have t1 : decide ((i : Int) ≤ 2 * (t : Int)) = true := decide_eq_true (by omega)
      have wi : IntKind.i64.wrap ((i : Int) + 1) = ((i + 1 : Nat) : Int) := by rw [IntWalk.i64_in _ ⟨by omega, by omega⟩]; omega
      have HLT := hid hlt
      clear hlt hi ht16
      go_wp2_with fail
      obtain ⟨wq, hwq⟩ : ∃ wq : World, wq = wr := ⟨_, rfl⟩
      subst hwq
      obtain ⟨c5, hc5⟩ : ∃ c5, c5 = u5 := ⟨_, rfl⟩
      go_loopw [5, 7] (fun s5 s7 wr => ∃ (k : Nat) (O : List (ByteArray × ByteArray)), s7 = .int .i64 (k : Nat) ∧ k ≤ n ∧ Hid (SfI L t O (shC L i k)) ∧ Hid (MRow wr s5 O) ∧ Hid (Below w.heap.size w wr)) (fun s5 s7 wr => n - (intOf s7).toNat)
      case atStart => exact ⟨0, O, rfl, Nat.zero_le _, hI, hO, hB⟩
      case round =>
        obtain ⟨k, O', rfl, hk, hI', hO', hB'⟩ := hrel
        by_cases hkl : k < n
        · obtain ⟨p, hp⟩ : ∃ p, L[k]? = some p := ⟨_, List.getElem?_eq_getElem (by rw [HLN.out]; exact hkl)⟩
          obtain ⟨g, o, rfl, hg, m1, m2⟩ := H3.out k p hp
          have r1 := (hB'.out.cell (p := ⟨g, o + 2 * k, none⟩) hg).trans m1
          rw [Nat.mul_comm 2] at r1
          have KK : Hid (∀ W, Below w.heap.size w W → W.cell? ⟨g, o + k * 2 + 1, none⟩ = some (.string p.2)) := fun W hW => by
            rw [Nat.mul_comm 2] at m2
            exact (hW.cell (p := ⟨g, o + k * 2 + 1, none⟩) hg).trans m2
          have hlen := hI'.out.len
          rw [HLN.out] at hlen
          have hl65 := HL65.out
          have PIi := fun V => PI V i (by have := HLT.out; have := HT.out; omega)
          have b1 : (0 : Int) ≤ (k : Int) := by omega
          have b2 : (k : Int) < (n : Int) := by omega
          have wk : IntKind.i64.wrap ((k : Int) + 1) = ((k + 1 : Nat) : Int) := by rw [IntWalk.i64_in _ ⟨by omega, by omega⟩]; omega
          have hz := HZ.out p (List.mem_of_getElem? hp)
          have hpm := List.mem_of_getElem? hp
          by_cases he : p.1 = numB i
          · have hadd := hI'.out.add HS.out HN.out hpm (shC_new HN.out hp he) hz
            have hsp : (shP t p).1 = zB ((i : Int) - t) := by unfold shP; rw [he, if_neg (numB_nl i), bN_num]
            rw [hsp] at hadd
            have hnew := hid (hadd.congr (shC_step hp he))
            have PZi := fun V => PZ V ((i : Int) - t) (by have := HLT.out; have := HT.out; omega) (by have := HLT.out; have := HT.out; omega)
            have PAi := fun V u hu => PA V u O' (zB ((i : Int) - t)) p.2 hu (by omega)
            have wz : IntKind.i64.wrap ((i : Int) - (t : Int)) = (i : Int) - (t : Int) := by have := HLT.out; have := HT.out; rw [IntWalk.i64_in _ ⟨by omega, by omega⟩]
            obtain ⟨pk, pv⟩ := p
            dsimp only at he r1 KK hz PAi hnew
            subst he
            obtain ⟨pk, hpk⟩ : ∃ s, numB i = s := ⟨_, rfl⟩
            obtain ⟨zk, hzk⟩ : ∃ s, zB ((i : Int) - t) = s := ⟨_, rfl⟩
            rw [hpk] at PIi r1
            rw [hzk] at PZi PAi hnew
            have q5 : (pk.toList == pk.toList) = true := by simp
            have HKL := hid hkl
            clear hp hg m1 m2 hlen hl65 hpm hadd hsp hpk hzk hz hk
            go_wp2_with fail
            refine held_plain [0, 1, 2, 3, 4, 5] 2 (fun w' => w'.cell? ⟨g, o + k * 2, none⟩ = some (.string pk)) (by kernel_rfl) (by kernel_rfl) (by kernel_rfl) (by kernel_rfl) r1 ?_
            iterate 6
              refine ⟨_, rfl, ?_⟩
              apply Exists.intro
              refine ⟨.inl ⟨by rfl, ?_⟩, ?_⟩
              · (intro W' hW'; obtain q9 := hW'; go_simp; try (with_reducible rfl))
              (dsimp only [Act.put]; try simp only [List.setIfInBounds_toArray, List.set_cons_zero, List.set_cons_succ])
            refine held_one (i := 6) (by kernel_rfl) (by rfl) (by rfl) ?_
            go_wp2_with fail
            refine (PIi _).out.mono ?_; rintro e w7 ⟨rfl, rfl⟩
            go_wp2_with fail
            refine ⟨r1, ?_⟩
            refine held_more (is := [7]) (g := 0) (by kernel_rfl) rfl r1 (by kernel_rfl) ?_
            iterate 1
              refine ⟨_, rfl, ?_⟩
              apply Exists.intro
              refine ⟨.inl ⟨by rfl, ?_⟩, ?_⟩
              · (intro W' hW'; obtain q9 := hW'; go_simp; try (with_reducible rfl))
              (dsimp only [Act.put]; try simp only [List.setIfInBounds_toArray, List.set_cons_zero, List.set_cons_succ])
            refine wpAnyH_done (by kernel_rfl) ?_ _
            simp only [Only]
            have r2 := KK.out _ hB'.out.drew
            clear r1
            go_wp2_with fail
            refine held_plain [0, 1, 2, 3, 5, 6, 7, 8, 9] 3 (fun w' => w'.cell? ⟨g, o + k * 2 + 1, none⟩ = some (.string pv)) (by kernel_rfl) (by kernel_rfl) (by kernel_rfl) (by kernel_rfl) r2 ?_
            iterate 9
              refine ⟨_, rfl, ?_⟩
              apply Exists.intro
              refine ⟨.inl ⟨by rfl, ?_⟩, ?_⟩
              · (intro W' hW'; obtain q9 := hW'; go_simp; try (with_reducible rfl))
              (dsimp only [Act.put]; try simp only [List.setIfInBounds_toArray, List.set_cons_zero, List.set_cons_succ])
            refine held_one (i := 4) (by kernel_rfl) (by rfl) (by rfl) ?_
            go_wp2_with fail
            refine (PZi _).out.mono ?_; rintro e w8 ⟨rfl, hb8⟩
            have x8 := hid (show Below wr.heap.size wr w8 from ((Below.refl _ _).drew.drew).trans hb8)
            have B8 := hid (bnext hB'.out x8.out)
            have O8 := hid (hO'.out.call x8.out)
            have r3 := KK.out _ B8.out
            clear hb8 r2
            go_wp2_with fail
            refine ⟨r3, ?_⟩
            refine held_one (i := 10) (by kernel_rfl) (by rfl) (by rfl) ?_
            go_wp2_with fail
            refine (PAi _ _ O8.out).out.mono ?_; rintro e w9 ⟨⟨u9', rfl, hu9⟩, hb9⟩
            have B9 := hid (bnext B8.out hb9)
            have U9 := hid hu9
            obtain ⟨a9, c9, rfl, -, -, -⟩ := hu9.ex
            have r4 := KK.out _ B9.out
            clear hb9 hu9 r3
            go_wp2_with fail
            refine ⟨r4, ?_⟩
            refine held_more (is := [11]) (g := 0) (by kernel_rfl) rfl r4 (by kernel_rfl) ?_
            iterate 1
              refine ⟨_, rfl, ?_⟩
              apply Exists.intro
              refine ⟨.inl ⟨by rfl, ?_⟩, ?_⟩
              · (intro W' hW'; obtain q9 := hW'; go_simp; try (with_reducible rfl))
              (dsimp only [Act.put]; try simp only [List.setIfInBounds_toArray, List.set_cons_zero, List.set_cons_succ])
            refine wpAnyH_done (by kernel_rfl) ?_ _
            simp only [Only]
            go_wp2_with fail
            go_roundw
            case rel => exact ⟨k + 1, _, by go_num, by have := HKL.out; omega, hnew, U9, B9⟩
            case measure => simp [intOf] <;> (have := HKL.out; omega)
          · have hnew := hid (hI'.out.congr (shC_skip hp he))
            obtain ⟨pk, pv⟩ := p
            dsimp only at he r1
            obtain ⟨ik, hik⟩ : ∃ s, numB i = s := ⟨_, rfl⟩
            rw [hik] at PIi he
            have q5 : (pk.toList == ik.toList) = false := by
              rw [beq_eq_false_iff_ne]
              exact ne_tl he
            have HKL := hid hkl
            clear hp hg m1 m2 hlen hl65 hpm hik hz hk he KK
            go_wp2_with fail
            refine held_plain [0, 1, 2, 3, 4, 5] 2 (fun w' => w'.cell? ⟨g, o + k * 2, none⟩ = some (.string pk)) (by kernel_rfl) (by kernel_rfl) (by kernel_rfl) (by kernel_rfl) r1 ?_
            iterate 6
              refine ⟨_, rfl, ?_⟩
              apply Exists.intro
              refine ⟨.inl ⟨by rfl, ?_⟩, ?_⟩
              · (intro W' hW'; obtain q9 := hW'; go_simp; try (with_reducible rfl))
              (dsimp only [Act.put]; try simp only [List.setIfInBounds_toArray, List.set_cons_zero, List.set_cons_succ])
            refine held_one (i := 6) (by kernel_rfl) (by rfl) (by rfl) ?_
            go_wp2_with fail
            refine (PIi _).out.mono ?_; rintro e w7 ⟨rfl, rfl⟩
            go_wp2_with fail
            refine ⟨r1, ?_⟩
            refine held_more (is := [7]) (g := 0) (by kernel_rfl) rfl r1 (by kernel_rfl) ?_
            iterate 1
              refine ⟨_, rfl, ?_⟩
              apply Exists.intro
              refine ⟨.inl ⟨by rfl, ?_⟩, ?_⟩
              · (intro W' hW'; obtain q9 := hW'; go_simp; try (with_reducible rfl))
              (dsimp only [Act.put]; try simp only [List.setIfInBounds_toArray, List.set_cons_zero, List.set_cons_succ])
            refine wpAnyH_done (by kernel_rfl) ?_ _
            simp only [Only]
            clear r1
            go_wp2_with fail
            go_roundw
            case rel => exact ⟨k + 1, _, by go_num, by have := HKL.out; omega, hnew, hO'.out.call ((Below.refl _ _).drew), hB'.out.drew⟩
            case measure => simp [intOf] <;> (have := HKL.out; omega)
        · obtain rfl : k = n := by omega
          have q5 : decide ((k : Int) < (k : Int)) = false := by simp
          have hnew := hid (show SfI L t O' (shC L (i + 1) 0) by
            have h := hI'.out
            rw [← HLN.out] at h
            exact h.congr shC_next)
          clear hkl hk
          go_wp2_with fail
          go_roundw
          case rel => exact ⟨i + 1, _, by go_num, by have := HLT.out; omega, hnew, hO', hB'⟩
          case measure => simp [intOf] <;> (have := HLT.out; omega)
    · have hie : i = 2 * t + 1 := by omega
      have HIE := hid hie
      have t1 : decide ((i : Int) ≤ 2 * (t : Int)) = false := decide_eq_false (by omega)
      have hst := hid (hI.out.congr shL_start)
      clear hlt hi ht16 hie
      go_wp2_with fail
      obtain ⟨wq, hwq⟩ : ∃ wq : World, wq = wr := ⟨_, rfl⟩
      subst hwq
      go_loopw [5, 8] (fun s5 s8 wr => ∃ (k : Nat) (O : List (ByteArray × ByteArray)), s8 = .int .i64 (k : Nat) ∧ k ≤ n ∧ Hid (SfI L t O (shL L i k)) ∧ Hid (MRow wr s5 O) ∧ Hid (Below w.heap.size w wr)) (fun s5 s8 wr => n - (intOf s8).toNat)
      case atStart => exact ⟨0, O, rfl, Nat.zero_le _, hst, hO, hB⟩
      case round =>
        obtain ⟨k, O', rfl, hk, hI', hO', hB'⟩ := hrel
        by_cases hkl : k < n
        · obtain ⟨p, hp⟩ : ∃ p, L[k]? = some p := ⟨_, List.getElem?_eq_getElem (by rw [HLN.out]; exact hkl)⟩
          obtain ⟨g, o, rfl, hg, m1, m2⟩ := H3.out k p hp
          have r1 := (hB'.out.cell (p := ⟨g, o + 2 * k, none⟩) hg).trans m1
          have r2 := (hB'.out.cell (p := ⟨g, o + 2 * k + 1, none⟩) hg).trans m2
          rw [Nat.mul_comm 2] at r1 r2
          have hlen := hI'.out.len
          rw [HLN.out] at hlen
          have hl65 := HL65.out
          have b1 : (0 : Int) ≤ (k : Int) := by omega
          have b2 : (k : Int) < (n : Int) := by omega
          have wk : IntKind.i64.wrap ((k : Int) + 1) = ((k + 1 : Nat) : Int) := by rw [IntWalk.i64_in _ ⟨by omega, by omega⟩]; omega
          have hpm := List.mem_of_getElem? hp
          have hz := HZ.out p hpm
          have HKL := hid hkl
          by_cases he : p.1 = lateB
          · have hadd := hI'.out.add HS.out HN.out hpm (shL_new HN.out hp he) hz
            have hsp : (shP t p).1 = lateB := by unfold shP; rw [if_pos he]; exact he
            rw [hsp] at hadd
            have hnew := hid (hadd.congr (shL_step hp he))
            have PAi := fun V u hu => PA V u O' lateB p.2 hu (by omega)
            obtain ⟨pk, pv⟩ := p
            dsimp only at he r1 r2 PAi hnew
            subst he
            unfold lateB at PAi r1
            clear hp hg m1 m2 hlen hl65 hpm hadd hsp hz hk hkl
            go_wp2_with fail
            refine (PAi _ _ hO'.out).out.mono ?_; rintro e w9 ⟨⟨u9', rfl, hu9⟩, hb9⟩
            have B9 := hid (bnext hB'.out hb9)
            have U9 := hid hu9
            obtain ⟨a9, c9, rfl, -, -, -⟩ := hu9.ex
            clear hb9 hu9
            go_wp2_with fail
            go_roundw
            case rel => exact ⟨k + 1, _, by go_num, by have := HKL.out; omega, hnew, U9, B9⟩
            case measure => simp [intOf] <;> (have := HKL.out; omega)
          · have hnew := hid (hI'.out.congr (shL_skip hp he))
            obtain ⟨pk, pv⟩ := p
            dsimp only at he r1 r2
            have q5 := ne_lit (d := pk) (l := [108, 97, 116, 101]) he
            clear hp hg m1 m2 hlen hl65 hpm hz hk he hkl
            go_wp2_with fail
            go_roundw
            case rel => exact ⟨k + 1, _, by go_num, by have := HKL.out; omega, hnew, hO', hB'⟩
            case measure => simp [intOf] <;> (have := HKL.out; omega)
        · obtain rfl : k = n := by omega
          have q5 : decide ((k : Int) < (k : Int)) = false := by simp
          have hall := hI'.out.all HS.out HN.out fun p hp => by
            unfold shL
            rcases HKK.out p hp with h | ⟨j, h1, h2⟩
            · exact .inr ⟨h, by rw [← HLN.out, List.take_length]; exact hp⟩
            · exact .inl ⟨j, h2, by rw [HIE.out]; exact h1⟩
          have HA := hid hall
          have HO := hid hO'.out
          obtain ⟨a9, c9, rfl, -, -, -⟩ := hO'.out.ex
          clear hkl hk hall
          go_wp2_with fail
          go_ret
          exact ⟨⟨_, rfl, by rw [← HA.out]; exact HO.out⟩, hB'.out⟩
end Go.Proofs.YtpheklgnmbpobaaGreatDoor
namespace Go.Proofs.YtpheklgnmbpobaaGreatDoor
open Go.RowKit Go.Shelf
open Go.Lib (decDigits nDigits)
set_option linter.unusedVariables false
set_option linter.unusedSimpArgs false
set_option maxRecDepth 100000 in
set_option maxHeartbeats 2000000 in
theorem r5_Late (w : World) (v : Value) (l : List ByteArray) (n : Int) (hv : Row w v (strs l)) (hl : ∀ x ∈ l, x.size ≤ 1000000) :
    Calls Tryz.prog 69 #[v, .int .i64 n] w fun e w' => e = .returned (.tuple #[.string (lateR l n), .int .i64 (lawE l n)]) ∧ Below w.heap.size w w' := by
  have PC := hid ((r5_Check w v l hv hl).mono fun e w' (h : e = .returned (.int .i64 (wsE l)) ∧ w = w') => (⟨h.1, h.2 ▸ Below.refl _ _⟩ : e = .returned (.int .i64 (wsE l)) ∧ Below w.heap.size w w'))
  have HV := hid hv
  obtain ⟨a, c, rfl, q1, q2, -⟩ := hv.openS
  by_cases he : wsE l = 0
  · by_cases hr : n < 0 ∨ 256 < n
    · have e1 : lawE l n = 2 := by rw [lawE, if_neg (by simpa using he), if_pos hr]
      have e2 : lateR l n = ⟨#[]⟩ := by unfold lateR; rw [if_neg (by rw [e1]; decide)]
      rw [e1, e2]
      rw [he] at PC
      obtain ⟨N, hN⟩ : ∃ N, l.length = N := ⟨_, rfl⟩
      rw [hN] at PC q1 ⊢
      clear hv hl hN HV e1 e2 he
      by_cases h4 : n < 0
      · have q0 : decide (n < 0) = true := by simpa using h4
        clear hr h4
        go_enter Tryz.func69, Tryz.ntmps69
        go_wp2_with fail
        refine PC.out.mono ?_; rintro e w1 ⟨rfl, hb1⟩
        go_wp2_with fail
        go_ret2
        exact ⟨rfl, hb1⟩
      · have q0 : decide (n < 0) = false := by simpa using h4
        have q1' : decide (256 < n) = true := by simp; omega
        clear hr h4
        go_enter Tryz.func69, Tryz.ntmps69
        go_wp2_with fail
        refine PC.out.mono ?_; rintro e w1 ⟨rfl, hb1⟩
        go_wp2_with fail
        go_ret2
        exact ⟨rfl, hb1⟩
    · obtain ⟨m, rfl⟩ : ∃ m : Nat, n = m := ⟨n.toNat, by omega⟩
      have hm : m ≤ 256 := by omega
      have e1 : lawE l (m : Int) = 0 := by rw [lawE, if_neg (by simpa using he), if_neg hr]
      have e2 : lateR l (m : Int) = shB (2 ^ m - lwS (l.map bN) (2 ^ m) l.length) (2 ^ m) := by unfold lateR; rw [if_pos e1]; simp
      obtain ⟨D1, D2, D3⟩ := wsE_ok he
      have hS := wsE_pos he
      have hlen : (l.map bN).length = l.length := by simp
      have RC := hid fun V (hV : Row V (.slice a l.length c) (strs l)) => r5_counts V (.slice a l.length c) (l.map bN) m D2 hS (by rw [← D1]; exact hV) hm
      have RL := hid fun V u (hu : NRow V u (l.map bN).length (cnt (l.map bN) (2 ^ m))) => r5_late V u (l.map bN) m hS hm D2.len hu
      have RS := hid fun V u (hu : IsN .i64 V u (2 ^ m - lwS (l.map bN) (2 ^ m) l.length)) => r3_Share V u _ m hu hm (late_ok he m hm)
      rw [hlen] at RL RC
      rw [e1, e2]
      rw [he] at PC
      have q0 : decide ((m : Int) < 0) = false := by simp
      have q1' : decide ((256 : Int) < (m : Int)) = false := by simp; omega
      obtain ⟨N, hN⟩ : ∃ N, l.length = N := ⟨_, rfl⟩
      rw [hN] at PC q1 RL RS RC HV ⊢
      obtain ⟨X, hX⟩ : ∃ X, shB (2 ^ m - lwS (l.map bN) (2 ^ m) N) (2 ^ m) = X := ⟨_, rfl⟩
      rw [hX] at RS ⊢
      obtain ⟨Y, hY⟩ : ∃ Y, 2 ^ m - lwS (l.map bN) (2 ^ m) N = Y := ⟨_, rfl⟩
      rw [hY] at RS RL
      obtain ⟨f, hf⟩ : ∃ f, cnt (l.map bN) (2 ^ m) = f := ⟨_, rfl⟩
      rw [hf] at RL RC
      clear hv hl hN e1 e2 he hr D1 D2 D3 hS hlen hX hY hf
      go_enter Tryz.func69, Tryz.ntmps69
      go_wp2_with fail
      refine PC.out.mono ?_; rintro e w1 ⟨rfl, hb1⟩
      have B1 := hid hb1; clear hb1
      go_wp2_with fail
      refine (RC.out _ (HV.out.call B1.out)).mono ?_; rintro e w2 ⟨⟨u2, rfl, hu2⟩, hb2⟩
      have U2 := hid hu2; have B2 := hid (bnext B1.out hb2); clear hu2 hb2
      go_wp2_with fail
      refine (RL.out _ _ U2.out).mono ?_; rintro e w3 ⟨⟨u3, rfl, hu3⟩, hb3⟩
      have U3 := hid hu3; have B3 := hid (bnext B2.out hb3); clear hu3 hb3
      go_wp2_with fail
      refine (RS.out _ _ U3.out).mono ?_; rintro e w4 ⟨rfl, hb4⟩
      have B4 := hid (bnext B3.out hb4); clear hb4
      go_wp2_with fail
      go_ret2
      exact ⟨rfl, B4.out⟩
  · have e1 : lawE l n = wsE l := by rw [lawE, if_pos he]
    have e2 : lateR l n = ⟨#[]⟩ := by unfold lateR; rw [if_neg (by rw [e1]; exact he)]
    rw [e1, e2]
    obtain ⟨N, hN⟩ : ∃ N, l.length = N := ⟨_, rfl⟩
    obtain ⟨z, hz⟩ : ∃ z, wsE l = z := ⟨_, rfl⟩
    rw [hN, hz] at PC
    rw [hN, hz]
    rw [hN] at q1
    rw [hz] at he
    have q0 : (z != 0) = true := by simpa using he
    clear hv hl hN HV e1 e2 he hz
    go_enter Tryz.func69, Tryz.ntmps69
    go_wp2_with fail
    refine PC.out.mono ?_; rintro e w1 ⟨rfl, hb1⟩
    go_wp2_with fail
    go_ret2
    exact ⟨rfl, hb1⟩
end Go.Proofs.YtpheklgnmbpobaaGreatDoor
namespace Go.Proofs.YtpheklgnmbpobaaGreatDoor
open Go.RowKit Go.Shelf
open Go.Lib (decDigits nDigits)
set_option linter.unusedVariables false
set_option linter.unusedSimpArgs false
set_option maxRecDepth 100000 in
set_option maxHeartbeats 4000000 in
theorem r5_Exact (w : World) (v : Value) (l : List ByteArray) (hv : Row w v (strs l)) (hl : ∀ x ∈ l, x.size ≤ 1000000) :
    Calls Tryz.prog 66 #[v] w fun e w' => (∃ u, e = .returned (.tuple #[u, .int .i64 (wsE l)]) ∧ MRow w' u (exR l)) ∧ Below w.heap.size w w' := by
  have PC := hid ((r5_Check w v l hv hl).mono fun e w' (h : e = .returned (.int .i64 (wsE l)) ∧ w = w') => (⟨h.1, h.2 ▸ Below.refl _ _⟩ : e = .returned (.int .i64 (wsE l)) ∧ Below w.heap.size w w'))
  have HV := hid hv
  obtain ⟨a, c, rfl, q1, q2, -⟩ := hv.openS
  by_cases he : wsE l = 0
  · have e2 : exR l = sortM (exL (l.map bN) (l.map bN).sum l.length) := by unfold exR; rw [if_pos he]
    obtain ⟨D1, D2, D3⟩ := wsE_ok he
    have hS := wsE_pos he
    have hlen : (l.map bN).length = l.length := by simp
    have RS := hid fun V (hV : Row V (.slice a l.length c) (strs l)) => r5_Sums V (.slice a l.length c) (l.map bN) D2 (by rw [← D1]; exact hV)
    rw [hlen] at RS
    rw [e2, he]
    rw [he] at PC
    have D4 := D2.len
    rw [hlen] at D4
    have HD1 := hid D1; have HWS := hid D2; have HS := hid hS; have HLEN := hid hlen
    obtain ⟨N, hN⟩ : ∃ N, l.length = N := ⟨_, rfl⟩
    rw [hN] at PC q1 RS HV D4 HLEN ⊢
    obtain ⟨ws, hws⟩ : ∃ ws, l.map bN = ws := ⟨_, rfl⟩
    rw [hws] at RS HD1 HWS HS HLEN ⊢
    have HALL := hid (show pre ws N = ws.sum from pre_all (by rw [HLEN.out]; omega))
    obtain ⟨S, hSS⟩ : ∃ S, ws.sum = S := ⟨_, rfl⟩
    have HSS := hid hSS
    rw [hSS] at HS HALL ⊢
    have HSD := hid (show nDigits S ≤ 3802 from by rw [← hSS]; exact HWS.out.sum)
    have HAL : Hid (∀ i, (sortM (exL ws S i)).length ≤ i) := fun i => by rw [sortM_length]; exact exL_length ws S i
    have HAD := hid fun i (h : nDigits (ws.getD i 0) ≤ 3800) => exL_add (ws := ws) (S := S) (i := i) (by have := HS.out; omega) (by omega) (by have := HSD.out; omega)
    have LS : Hid ((limbs S).length ≤ 1000000) := num_limbs (by have := HSD.out; omega)
    clear hv hl hN e2 he D1 D2 D3 hS hlen hws hSS
    go_enter Tryz.func66, Tryz.ntmps66
    go_wp2_with fail
    refine PC.out.mono ?_; rintro e w1 ⟨rfl, hb1⟩
    have B1 := hid hb1; clear hb1
    go_wp2_with fail
    refine (RS.out _ (HV.out.call B1.out)).mono ?_; rintro e w2 ⟨⟨u2, rfl, hu2⟩, hb2⟩
    have B2 := hid (bnext B1.out hb2)
    obtain ⟨a2, c2, rfl, r1, r2, r3⟩ := hu2.open
    obtain ⟨g, o, y, rfl, hg, hc, hy⟩ := r3 N (by omega)
    rw [HALL.out] at hy
    have HY := hid hy
    have b1 : (0 : Int) ≤ (N : Int) := by omega
    have b2 : (N : Int) < (N : Int) + 1 := by omega
    have b3 : (N : Int) < ((N + 1 : Nat) : Int) := by omega
    clear hu2 hb2 r3 hy
    go_wp2_with fail
    refine (r1_Write _ _ _ HY.out LS.out).mono ?_; rintro e w3 ⟨rfl, hb3⟩
    have B3 := hid (bnext B2.out hb3)
    rw [numV_eq]
    obtain ⟨S0, hS0⟩ : ∃ s, numB S = s := ⟨_, rfl⟩
    have HS0 := hid hS0
    rw [hS0]
    clear hb3 hc HY hg b1 b2 b3 hS0 r1 r2
    go_wp2_with fail
    go_loopw [7, 8] (fun dd ii wr => ∃ i : Nat, ii = .int .i64 i ∧ i ≤ N ∧ Hid (MRow wr dd (sortM (exL ws S i))) ∧ Hid (Below w3.heap.size w3 wr)) (fun dd ii wr => N - (intOf ii).toNat)
    case atStart => exact ⟨0, rfl, Nat.zero_le _, by show MRow _ _ _; rw [exL, sortM_nil]; exact MRow.nil _, Below.refl _ _⟩
    case round =>
      obtain ⟨i, rfl, hi, hM, hB⟩ := hrel
      obtain ⟨aM, cM, rfl⟩ := hM.out.openM
      by_cases hlt : i < N
      · obtain ⟨x, hx⟩ : ∃ x, ws[i]? = some x := ⟨_, List.getElem?_eq_getElem (by rw [HLEN.out]; exact hlt)⟩
        obtain ⟨g', o', rfl, hg', hc'⟩ := HV.out.at (strs_get (show l[i]? = some (numB x) by rw [HD1.out, List.getElem?_map, hx]; rfl))
        have BW := hid (bnext B3.out hB.out)
        have hc2 := (BW.out.cell (p := ⟨g', o' + i, none⟩) hg').trans hc'
        have hgd : ws.getD i 0 = x := by rw [List.getD_eq_getElem?_getD, hx]; rfl
        have hxd := HWS.out.dig x (List.mem_of_getElem? hx)
        have HAI := hid (show addL (sortM (exL ws S i)) (numB i) (shB x S) = sortM (exL ws S (i + 1)) from by have := HAD.out i (by rw [hgd]; exact hxd); rw [hgd] at this; exact this)
        have RM := fun V => hid (r2_Make_num V x S (by omega) (by have := HSD.out; omega) (by have := HS.out; omega))
        have RI := fun V => hid (r2_Int V i (by omega))
        have RA := fun V u key p hu => hid (r4_Add V u (sortM (exL ws S i)) key p hu (by have := HAL.out i; omega))
        have c1 : (0 : Int) ≤ (i : Int) := by omega
        have c2' : (i : Int) < (N : Int) := by omega
        have wi : IntKind.i64.wrap ((i : Int) + 1) = ((i + 1 : Nat) : Int) := by rw [IntWalk.i64_in _ ⟨by omega, by omega⟩]; omega
        obtain ⟨L, hL⟩ : ∃ L, (sortM (exL ws S i)).length = L := ⟨_, rfl⟩
        rw [hL] at hM ⊢
        obtain ⟨X0, hX0⟩ : ∃ s, numB x = s := ⟨_, rfl⟩
        obtain ⟨I0, hI0⟩ : ∃ s, numB i = s := ⟨_, rfl⟩
        obtain ⟨J0, hJ0⟩ : ∃ s, shB x S = s := ⟨_, rfl⟩
        have e3 : outB (qmk false x S) = J0 := hJ0
        obtain ⟨oe, hoe⟩ : ∃ s, outE (qmk false x S) = s := ⟨_, rfl⟩
        rw [hX0, HS0.out, e3, hoe] at RM
        rw [hX0] at hc2
        rw [hI0] at RI
        rw [hI0, hJ0] at HAI
        clear hx hg' hc' hgd hxd hL hX0 hI0 hJ0 e3 hoe
        go_wp2_with fail
        refine (RM _).out.mono ?_; rintro e w4 ⟨rfl, hb4⟩
        have B4 := hid (bnext hB.out hb4); have BR4 := hid hb4; clear hb4
        go_wp2_with fail
        refine (RI _).out.mono ?_; rintro e w5 ⟨rfl, rfl⟩
        go_wp2_with fail
        refine (RA _ _ _ _ (hM.out.call BR4.out)).out.mono ?_; rintro e w5 ⟨⟨u5, rfl, hu5⟩, hb5⟩
        rw [HAI.out] at hu5
        have U5 := hid hu5; have B5 := hid (bnext B4.out hb5); clear hu5 hb5 hc2
        go_wp2_with fail
        go_roundw
        case rel => exact ⟨i + 1, by go_num, by omega, U5, B5⟩
        case measure => simp [intOf] <;> omega
      · obtain rfl : i = N := by omega
        obtain ⟨L, hL⟩ : ∃ L, (sortM (exL ws S i)).length = L := ⟨_, rfl⟩
        rw [hL] at hM ⊢
        clear hL
        go_wp2_with fail
        go_ret2
        exact ⟨⟨_, rfl, hM.out⟩, bnext B3.out hB.out⟩
  · have e2 : exR l = [] := by unfold exR; rw [if_neg he]
    rw [e2]
    obtain ⟨N, hN⟩ : ∃ N, l.length = N := ⟨_, rfl⟩
    obtain ⟨z, hz⟩ : ∃ z, wsE l = z := ⟨_, rfl⟩
    rw [hN, hz] at PC
    rw [hN, hz]
    rw [hN] at q1
    rw [hz] at he
    have q0 : (z != 0) = true := by simpa using he
    clear hv hl hN HV e2 he hz
    go_enter Tryz.func66, Tryz.ntmps66
    go_wp2_with fail
    refine PC.out.mono ?_; rintro e w1 ⟨rfl, hb1⟩
    go_wp2_with fail
    go_ret2
    exact ⟨⟨_, rfl, MRow.nil _⟩, hb1⟩
end Go.Proofs.YtpheklgnmbpobaaGreatDoor
namespace Go.Proofs.YtpheklgnmbpobaaGreatDoor
open Go.RowKit Go.Shelf
open Go.Lib (decDigits nDigits)
set_option linter.unusedVariables false
set_option linter.unusedSimpArgs false
theorem exR_ref {q : ByteArray} {m : Nat} (h : beE q m = 0) {p : ByteArray × ByteArray} (hp : p ∈ exR (beW q m)) : p.2 ≠ ⟨#[48]⟩ ∧ (p.1 = lateB ∨ ∃ i, i < 2 * m + 1 ∧ p.1 = numB i) := by
  obtain ⟨m', e', hm, hlV, hl⟩ := beV_len h
  obtain rfl : m = m' := by omega
  obtain ⟨m', e', hk⟩ := beE_ok h
  obtain rfl : m = m' := by omega
  have eV : beV q m = beL (bN (cW q)) (bN (qD q)) m := by unfold beV; rw [Int.toNat_natCast]
  unfold exR at hp
  rw [if_pos (beV_wsE h), sortM_mem, (beV_W h).2, hl] at hp
  obtain ⟨i, h1, h2, rfl⟩ := exL_mem.1 hp
  refine ⟨?_, .inr ⟨i, h1, rfl⟩⟩
  have hsum := hk.sum
  have hok := hk.ok
  rw [eV] at h2 ⊢
  have hx := hok.dig ((beL (bN (cW q)) (bN (qD q)) m).getD i 0) (by
    rw [beL_getD h1]; exact List.mem_of_getElem? (beL_get h1))
  exact shB_ne (by omega) (by omega) (by have := hok.sum; omega) h2
theorem lawR_ref {q : ByteArray} {m : Nat} {n : Int} (h : beE q m = 0) {p : ByteArray × ByteArray} (hp : p ∈ lawR (beW q m) n) : p.2 ≠ ⟨#[48]⟩ ∧ (p.1 = lateB ∨ ∃ i, i < 2 * m + 1 ∧ p.1 = numB i) := by
  obtain ⟨m', e', hm, hlV, hl⟩ := beV_len h
  obtain rfl : m = m' := by omega
  unfold lawR at hp
  split at hp
  · rename_i hle
    obtain ⟨-, n0, n1⟩ := lawE_ok hle
    rw [sortM_mem, (beV_W h).2, hl] at hp
    have hS : 0 < (beV q m).sum := by
      have := wsE_pos (beV_wsE h)
      rwa [(beV_W h).2] at this
    have hd := two_nd (u := n.toNat) (by omega)
    have hT : 2 ^ n.toNat ≠ 0 := Nat.ne_of_gt (Nat.pow_pos (by omega))
    have hsh : ∀ x, x ≤ 2 ^ n.toNat → x ≠ 0 → shB x (2 ^ n.toNat) ≠ ⟨#[48]⟩ := fun x hx h0 => shB_ne hT (by have := nDigits_mono hx; omega) (by omega) h0
    have hL : ∀ p ∈ lawL (beV q m) (2 ^ n.toNat) (2 * m + 1), p.2 ≠ ⟨#[48]⟩ ∧ (p.1 = lateB ∨ ∃ i, i < 2 * m + 1 ∧ p.1 = numB i) := fun p hp => by
      obtain ⟨i, h1, h2, rfl⟩ := lawL_mem.1 hp
      exact ⟨hsh _ (cnt_fit hS) (by unfold cnt; omega), .inr ⟨i, h1, rfl⟩⟩
    unfold lawP at hp
    split at hp
    · exact hL p hp
    · rename_i hne
      rcases List.mem_append.1 hp with hp | hp
      · exact hL p hp
      · rw [List.mem_singleton] at hp
        subst hp
        exact ⟨hsh _ (Nat.sub_le _ _) hne, .inl rfl⟩
  · cases hp
set_option maxRecDepth 100000 in
set_option maxHeartbeats 2000000 in
theorem r7_Late (w : World) (q : ByteArray) (t n : Int) (hq : q.size ≤ 100000) :
    Calls Tryz.prog 31 #[.string q, .int .i64 t, .int .i64 n] w fun e w' => e = .returned (.tuple #[.string (btR q t n), .int .i64 (blE q t n)]) ∧ Below w.heap.size w w' := by
  have HW := hid (r7_Weights w q t hq)
  by_cases h0 : beE q t = 0
  · have P2 := fun V v hV => hid (r5_Late V v (beW q t) n hV (fun x hx => beV_size h0 hx))
    rw [beV_lawE h0] at P2
    have e1 : lateR (beW q t) n = btR q t n := by
      unfold btR
      split
      · rfl
      · rename_i h; unfold lateR; rw [beV_lawE h0, if_neg h]
    rw [e1] at P2
    rw [h0] at HW
    obtain ⟨R, hR⟩ : ∃ R, btR q t n = R := ⟨_, rfl⟩
    obtain ⟨E, hE⟩ : ∃ R, blE q t n = R := ⟨_, rfl⟩
    rw [hR, hE] at P2 ⊢
    clear h0 e1 hR hE
    go_enter Tryz.func31, Tryz.ntmps31
    go_wp2_with fail
    refine HW.out.mono ?_; rintro e w1 ⟨⟨u, rfl, hu⟩, hb1⟩
    have y1 := hid hb1
    have U1 := hid hu
    obtain ⟨a, c, rfl, -, -, -⟩ := hu.openS
    clear hb1 hu
    go_wp2_with fail
    refine (P2 _ _ U1.out).out.mono ?_; rintro e w2 ⟨rfl, hb2⟩
    have y2 := hid (bnext y1.out hb2); clear hb2
    go_wp2_with fail
    go_ret2
    exact ⟨rfl, y2.out⟩
  · have e1 : blE q t n = beE q t := by unfold blE; rw [if_pos h0]
    have e2 : btR q t n = ⟨#[]⟩ := by unfold btR; rw [e1, if_neg h0]
    rw [e1, e2]
    obtain ⟨z, hz⟩ : ∃ z, beE q t = z := ⟨_, rfl⟩
    rw [hz] at HW h0 ⊢
    have q0 : (z != 0) = true := by simpa using h0
    clear h0 e1 e2 hz
    go_enter Tryz.func31, Tryz.ntmps31
    go_wp2_with fail
    refine HW.out.mono ?_; rintro e w1 ⟨⟨u, rfl, hu⟩, hb1⟩
    have y1 := hid hb1
    obtain ⟨a, c, rfl, -, -, -⟩ := hu.openS
    clear hb1 hu
    go_wp2_with fail
    go_ret2
    exact ⟨rfl, y1.out⟩
set_option maxRecDepth 100000 in
set_option maxHeartbeats 4000000 in
theorem r7_Draw (w : World) (q : ByteArray) (t : Int) (b : ByteArray) (hq : q.size ≤ 100000) (hb : b.size ≤ 100000000) :
    Calls Tryz.prog 27 #[.string q, .int .i64 t, .string b] w fun e w' => e = .returned (.tuple #[bV (bd3 q t b), .int .i64 (bdE q t b)]) ∧ Below w.heap.size w w' := by
  have A0 := hid ((Below.refl w.heap.size w).alloc (Nat.le_refl _) (.cells #[.bool false, .int .i64 0, .int .i64 0] 33))
  have x0 := hid (Blk.new w #[.bool false, .int .i64 0, .int .i64 0] 33)
  have HW := fun V => hid (r7_Weights V q t hq)
  by_cases h0 : beE q t = 0
  · have PD := fun V v hV => hid (r5_Draw V v (beW q t) b hV (fun x hx => beV_size h0 hx) hb)
    have e1 := beV_drE h0 b
    have e2 := beV_dr3 h0 b
    rw [e1.1, ← e1.2] at PD
    have hfit : (dr3 (beW q t) b).1 = true → (dr3 (beW q t) b).2.1 < 100 := fun hd => by
      unfold dr3 at hd ⊢
      split at hd
      · rename_i hz
        rw [if_pos hz]
        have hS := wsE_pos (beV_wsE h0)
        obtain ⟨m, -, hm, -, hl⟩ := beV_len h0
        have := (draw_fit hS b.data.toList).1 hd
        rw [List.length_map, hl] at this
        omega
      · cases hd
    have hzz : drE (beW q t) b ≠ 0 → dr3 (beW q t) b = (false, 0, 0) := fun h => by unfold dr3; rw [if_neg h]
    rw [e1.1, ← e1.2] at hzz
    obtain ⟨m, rfl, hm16, -, -⟩ := beV_len h0
    rw [h0] at HW
    obtain ⟨X, hX⟩ : ∃ X, dr3 (beW q m) b = X := ⟨_, rfl⟩
    rw [hX] at PD e2 hfit hzz
    rw [← e2]
    obtain ⟨E, hE⟩ : ∃ X, bdE q m b = X := ⟨_, rfl⟩
    rw [hE] at PD hzz ⊢
    obtain ⟨d, vv, uu⟩ := X
    simp only [dw3] at PD
    simp only [Prod.mk.injEq] at hzz
    dsimp only at hfit
    unfold bsh bV
    dsimp only
    clear h0 e1 e2 hX hE hb
    cases d
    · clear hfit
      by_cases hE0 : E = 0
      · subst hE0
        clear hzz
        go_enter Tryz.func27, Tryz.ntmps27
        go_wp2_with fail
        refine (HW _).out.mono ?_; rintro e w1 ⟨⟨u, rfl, hu⟩, hb1⟩
        have y1 := hid (bnext A0.out hb1)
        have k1 := hid (x0.out.call hb1)
        have U1 := hid hu
        obtain ⟨a, c, rfl, -, -, -⟩ := hu.openS
        clear hb1 hu
        go_wp2_with fail
        refine (PD _ _ U1.out).out.mono ?_; rintro e w2 ⟨rfl, hb2⟩
        have y2 := hid (bnext y1.out hb2)
        have k2 := hid (k1.out.call hb2)
        clear hb2
        have K3 := hid (k2.out.alloc (.cells #[.bool false, .int .i64 (vv : Nat), .int .i64 (uu : Nat)] 33))
        have Y3 := hid (y2.out.alloc y2.out.size (.cells #[.bool false, .int .i64 (vv : Nat), .int .i64 (uu : Nat)] 33))
        have r0 := K3.out.cell 0
        have r1 := K3.out.cell 1
        have r2 := K3.out.cell 2
        have f0 := K3.out.free 0
        have f1 := K3.out.free 1
        have f2 := K3.out.free 2
        simp at r0 r1 r2
        go_wp2_with fail
        have s3 := ((K3.out.set 0 (.bool false)).set 1 (.int .i64 (vv : Nat))).set 2 (.int .i64 (uu : Nat))
        have z0 := s3.cell 0
        have z1 := s3.cell 1
        have z2 := s3.cell 2
        simp at z0 z1 z2
        refine bodyPost_ret (v := .tuple #[.agg #[.bool false, .int .i64 (vv : Nat), .int .i64 (uu : Nat)], .int .i64 0]) (by simp [results, Tryz.results27, go_sem, z0, z1, z2]) rfl ⟨by simp, ?_⟩
        exact ((Y3.out.setCell (Nat.le_refl _) _).setCell (Nat.le_refl _) _).setCell (Nat.le_refl _) _
      · obtain ⟨-, rfl, rfl⟩ := hzz hE0
        have q7 : (E != 0) = true := by simpa using hE0
        clear hE0 hzz
        go_enter Tryz.func27, Tryz.ntmps27
        go_wp2_with fail
        refine (HW _).out.mono ?_; rintro e w1 ⟨⟨u, rfl, hu⟩, hb1⟩
        have y1 := hid (bnext A0.out hb1)
        have k1 := hid (x0.out.call hb1)
        have U1 := hid hu
        obtain ⟨a, c, rfl, -, -, -⟩ := hu.openS
        clear hb1 hu
        go_wp2_with fail
        refine (PD _ _ U1.out).out.mono ?_; rintro e w2 ⟨rfl, hb2⟩
        have y2 := hid (bnext y1.out hb2)
        have k2 := hid (k1.out.call hb2)
        clear hb2
        have K3 := hid (k2.out.alloc (.cells #[.bool false, .int .i64 0, .int .i64 0] 33))
        have Y3 := hid (y2.out.alloc y2.out.size (.cells #[.bool false, .int .i64 0, .int .i64 0] 33))
        have r0 := K3.out.cell 0
        have r1 := K3.out.cell 1
        have r2 := K3.out.cell 2
        have f0 := K3.out.free 0
        have f1 := K3.out.free 1
        have f2 := K3.out.free 2
        simp at r0 r1 r2
        go_wp2_with fail
        have s3 := ((K3.out.set 0 (.bool false)).set 1 (.int .i64 0)).set 2 (.int .i64 0)
        have z0 := s3.cell 0
        have z1 := s3.cell 1
        have z2 := s3.cell 2
        simp at z0 z1 z2
        refine bodyPost_ret (v := .tuple #[.agg #[.bool false, .int .i64 0, .int .i64 0], .int .i64 E]) (by simp [results, Tryz.results27, go_sem, z0, z1, z2]) rfl ⟨by simp, ?_⟩
        exact ((Y3.out.setCell (Nat.le_refl _) _).setCell (Nat.le_refl _) _).setCell (Nat.le_refl _) _
    · have hE0 : E = 0 := by
        rcases Decidable.em (E = 0) with h | h
        · exact h
        · exact absurd (hzz h).1 (by simp)
      subst hE0
      clear hzz
      have hv := hfit rfl
      have wv : IntKind.i64.wrap ((vv : Int) - (m : Int)) = (vv : Int) - (m : Int) := by rw [IntWalk.i64_in _ ⟨by omega, by omega⟩]
      clear hfit hv
      go_enter Tryz.func27, Tryz.ntmps27
      go_wp2_with fail
      refine (HW _).out.mono ?_; rintro e w1 ⟨⟨u, rfl, hu⟩, hb1⟩
      have y1 := hid (bnext A0.out hb1)
      have k1 := hid (x0.out.call hb1)
      have U1 := hid hu
      obtain ⟨a, c, rfl, -, -, -⟩ := hu.openS
      clear hb1 hu
      go_wp2_with fail
      refine (PD _ _ U1.out).out.mono ?_; rintro e w2 ⟨rfl, hb2⟩
      have y2 := hid (bnext y1.out hb2)
      have k2 := hid (k1.out.call hb2)
      clear hb2
      have K4 := hid (k2.out.alloc (.cells #[.bool true, .int .i64 ((vv : Int) - (m : Int)), .int .i64 (uu : Nat)] 33))
      have Y4 := hid (y2.out.alloc y2.out.size (.cells #[.bool true, .int .i64 ((vv : Int) - (m : Int)), .int .i64 (uu : Nat)] 33))
      have r0 := K4.out.cell 0
      have r1 := K4.out.cell 1
      have r2 := K4.out.cell 2
      have f0 := K4.out.free 0
      have f1 := K4.out.free 1
      have f2 := K4.out.free 2
      simp at r0 r1 r2
      go_wp2_with fail
      have s3 := ((K4.out.set 0 (.bool true)).set 1 (.int .i64 ((vv : Int) - (m : Int)))).set 2 (.int .i64 (uu : Nat))
      have z0 := s3.cell 0
      have z1 := s3.cell 1
      have z2 := s3.cell 2
      simp at z0 z1 z2
      refine bodyPost_ret (v := .tuple #[.agg #[.bool true, .int .i64 ((vv : Int) - (m : Int)), .int .i64 (uu : Nat)], .int .i64 0]) (by simp [results, Tryz.results27, go_sem, z0, z1, z2]) rfl ⟨by simp, ?_⟩
      exact ((Y4.out.setCell (Nat.le_refl _) _).setCell (Nat.le_refl _) _).setCell (Nat.le_refl _) _
  · have e1 : bdE q t b = beE q t := by unfold bdE; rw [if_pos h0]
    have e2 : bd3 q t b = (false, 0, 0) := by unfold bd3; rw [e1, if_neg h0]
    rw [e1, e2]
    unfold bV
    dsimp only
    obtain ⟨z, hz⟩ : ∃ z, beE q t = z := ⟨_, rfl⟩
    rw [hz] at HW h0 ⊢
    have q0 : (z != 0) = true := by simpa using h0
    clear h0 e1 e2 hz hb
    go_enter Tryz.func27, Tryz.ntmps27
    go_wp2_with fail
    refine (HW _).out.mono ?_; rintro e w1 ⟨⟨u, rfl, hu⟩, hb1⟩
    have y1 := hid (bnext A0.out hb1)
    have k1 := hid (x0.out.call hb1)
    obtain ⟨a, c, rfl, -, -, -⟩ := hu.openS
    have r0 := k1.out.cell 0
    have r1 := k1.out.cell 1
    have r2 := k1.out.cell 2
    have f0 := k1.out.free 0
    have f1 := k1.out.free 1
    have f2 := k1.out.free 2
    simp at r0 r1 r2
    clear hb1 hu
    go_wp2_with fail
    have s3 := ((k1.out.set 0 (.bool false)).set 1 (.int .i64 0)).set 2 (.int .i64 0)
    have z0 := s3.cell 0
    have z1 := s3.cell 1
    have z2 := s3.cell 2
    simp at z0 z1 z2
    refine bodyPost_ret (v := .tuple #[.agg #[.bool false, .int .i64 0, .int .i64 0], .int .i64 z]) (by simp [results, Tryz.results27, go_sem, z0, z1, z2]) rfl ⟨rfl, ?_⟩
    exact ((y1.out.setCell (Nat.le_refl _) _).setCell (Nat.le_refl _) _).setCell (Nat.le_refl _) _
set_option maxRecDepth 100000 in
set_option maxHeartbeats 2000000 in
theorem r7_Exact (w : World) (q : ByteArray) (t : Int) (hq : q.size ≤ 100000) :
    Calls Tryz.prog 29 #[.string q, .int .i64 t] w fun e w' => (∃ u, e = .returned (.tuple #[u, .int .i64 (beE q t)]) ∧ MRow w' u (bxR q t)) ∧ Below w.heap.size w w' := by
  have HW := hid (r7_Weights w q t hq)
  by_cases h0 : beE q t = 0
  · have P2 := fun V v hV => hid (r5_Exact V v (beW q t) hV (fun x hx => beV_size h0 hx))
    have e1 : bxR q t = sortM ((exR (beW q t)).map (shP t)) := by unfold bxR; rw [if_pos h0]
    rw [beV_wsE h0] at P2
    obtain ⟨m, rfl, hm, -, hl⟩ := beV_len h0
    obtain ⟨s1, s2, s3⟩ := exR_sh (l := beW q m) (by omega)
    have PS := fun V v hV => hid (r7_shifted V v (exR (beW q m)) m hV s1 s2 s3 hm (fun p hp => (exR_ref h0 hp).1) (fun p hp => (exR_ref h0 hp).2))
    rw [h0] at HW
    rw [← e1] at PS
    rw [h0]
    clear h0 e1 s1 s2 s3 hl
    go_enter Tryz.func29, Tryz.ntmps29
    go_wp2_with fail
    refine HW.out.mono ?_; rintro e w1 ⟨⟨u, rfl, hu⟩, hb1⟩
    have y1 := hid hb1
    have U1 := hid hu
    obtain ⟨a, c, rfl, -, -, -⟩ := hu.openS
    clear hb1 hu
    go_wp2_with fail
    refine (P2 _ _ U1.out).out.mono ?_; rintro e w2 ⟨⟨v, rfl, hv⟩, hb2⟩
    have y2 := hid (bnext y1.out hb2)
    have V2 := hid hv
    obtain ⟨a2, c2, rfl, -, -, -⟩ := hv.ex
    clear hb2 hv
    go_wp2_with fail
    refine (PS _ _ V2.out).out.mono ?_; rintro e w3 ⟨⟨v, rfl, hv⟩, hb3⟩
    have y3 := hid (bnext y2.out hb3)
    have V3 := hid hv
    obtain ⟨a3, c3, rfl, -, -, -⟩ := hv.ex
    clear hb3 hv
    go_wp2_with fail
    go_ret2
    exact ⟨⟨_, rfl, V3.out⟩, y3.out⟩
  · have e2 : bxR q t = [] := by unfold bxR; rw [if_neg h0]
    rw [e2]
    obtain ⟨z, hz⟩ : ∃ z, beE q t = z := ⟨_, rfl⟩
    rw [hz] at HW h0 ⊢
    have q0 : (z != 0) = true := by simpa using h0
    clear h0 e2 hz
    go_enter Tryz.func29, Tryz.ntmps29
    go_wp2_with fail
    refine HW.out.mono ?_; rintro e w1 ⟨⟨u, rfl, hu⟩, hb1⟩
    have y1 := hid hb1
    obtain ⟨a, c, rfl, -, -, -⟩ := hu.openS
    clear hb1 hu
    go_wp2_with fail
    go_ret2
    exact ⟨⟨_, rfl, MRow.nil _⟩, y1.out⟩
set_option maxRecDepth 100000 in
set_option maxHeartbeats 2000000 in
theorem r7_Law (w : World) (q : ByteArray) (t n : Int) (hq : q.size ≤ 100000) :
    Calls Tryz.prog 30 #[.string q, .int .i64 t, .int .i64 n] w fun e w' => (∃ u, e = .returned (.tuple #[u, .int .i64 (blE q t n)]) ∧ MRow w' u (blR q t n)) ∧ Below w.heap.size w w' := by
  have HW := hid (r7_Weights w q t hq)
  by_cases h0 : beE q t = 0
  · have P2 := fun V v hV => hid (r5_Law V v (beW q t) n hV (fun x hx => beV_size h0 hx))
    have e1 : blR q t n = sortM ((lawR (beW q t) n).map (shP t)) := by
      unfold blR
      split
      · rfl
      · rename_i h; unfold lawR; rw [beV_lawE h0, if_neg h, List.map_nil, sortM_none]
    rw [beV_lawE h0] at P2
    obtain ⟨m, rfl, hm, -, hl⟩ := beV_len h0
    obtain ⟨s1, s2, s3⟩ := lawR_sh (l := beW q m) (n := n) (by omega)
    have PS := fun V v hV => hid (r7_shifted V v (lawR (beW q m) n) m hV s1 s2 s3 hm (fun p hp => (lawR_ref h0 hp).1) (fun p hp => (lawR_ref h0 hp).2))
    rw [h0] at HW
    rw [← e1] at PS
    obtain ⟨E, hE⟩ : ∃ E, blE q m n = E := ⟨_, rfl⟩
    rw [hE] at P2 ⊢
    clear h0 e1 s1 s2 s3 hl hE
    go_enter Tryz.func30, Tryz.ntmps30
    go_wp2_with fail
    refine HW.out.mono ?_; rintro e w1 ⟨⟨u, rfl, hu⟩, hb1⟩
    have y1 := hid hb1
    have U1 := hid hu
    obtain ⟨a, c, rfl, -, -, -⟩ := hu.openS
    clear hb1 hu
    go_wp2_with fail
    refine (P2 _ _ U1.out).out.mono ?_; rintro e w2 ⟨⟨v, rfl, hv⟩, hb2⟩
    have y2 := hid (bnext y1.out hb2)
    have V2 := hid hv
    obtain ⟨a2, c2, rfl, -, -, -⟩ := hv.ex
    clear hb2 hv
    go_wp2_with fail
    refine (PS _ _ V2.out).out.mono ?_; rintro e w3 ⟨⟨v, rfl, hv⟩, hb3⟩
    have y3 := hid (bnext y2.out hb3)
    have V3 := hid hv
    obtain ⟨a3, c3, rfl, -, -, -⟩ := hv.ex
    clear hb3 hv
    go_wp2_with fail
    go_ret2
    exact ⟨⟨_, rfl, V3.out⟩, y3.out⟩
  · have e1 : blE q t n = beE q t := by unfold blE; rw [if_pos h0]
    have e2 : blR q t n = [] := by unfold blR; rw [e1, if_neg h0]
    rw [e1, e2]
    obtain ⟨z, hz⟩ : ∃ z, beE q t = z := ⟨_, rfl⟩
    rw [hz] at HW h0 ⊢
    have q0 : (z != 0) = true := by simpa using h0
    clear h0 e1 e2 hz
    go_enter Tryz.func30, Tryz.ntmps30
    go_wp2_with fail
    refine HW.out.mono ?_; rintro e w1 ⟨⟨u, rfl, hu⟩, hb1⟩
    have y1 := hid hb1
    obtain ⟨a, c, rfl, -, -, -⟩ := hu.openS
    clear hb1 hu
    go_wp2_with fail
    go_ret2
    exact ⟨⟨_, rfl, MRow.nil _⟩, y1.out⟩
end Go.Proofs.YtpheklgnmbpobaaGreatDoor
namespace Go.Proofs.YtpheklgnmbpobaaGreatDoor
open Go.RowKit Go.Shelf
open Go.Lib (decDigits nDigits)
set_option linter.unusedVariables false
set_option linter.unusedSimpArgs false
set_option maxRecDepth 100000 in
set_option maxHeartbeats 4000000 in
theorem r7_Mass (w : World) (q : ByteArray) (t k : Int) (hq : q.size ≤ 100000) :
    Calls Tryz.prog 28 #[.string q, .int .i64 t, .int .i64 k] w fun e w' => e = .returned (.tuple #[.string (bmB q t k), .int .i64 (bmE q t k)]) ∧ Below w.heap.size w w' := by
  have HW := hid (r7_Weights w q t hq)
  by_cases h0 : beE q t = 0
  · obtain ⟨m, rfl, hm, hlV, hl⟩ := beV_len h0
    obtain ⟨m', e', hk⟩ := beE_ok h0
    obtain rfl : m = m' := by omega
    have eW := (beV_W h0).1
    have hok : WsOk (beV q m) := by unfold beV; rw [Int.toNat_natCast]; exact hk.ok
    have hsum : 0 < (beV q m).sum := by unfold beV; rw [Int.toNat_natCast]; exact hk.sum
    rw [h0] at HW
    have wn : IntKind.i64.wrap (-(m : Int)) = -(m : Int) := by rw [IntWalk.i64_in _ ⟨by omega, by omega⟩]
    by_cases h1 : k < -(m : Int) ∨ (m : Int) < k
    · have e1 : bmE q m k = 2 := by unfold bmE; rw [h0, if_neg (by simp), if_pos h1]
      have e2 : bmB q m k = ⟨#[]⟩ := by unfold bmB; rw [e1, if_neg (by decide)]
      rw [e1, e2]
      by_cases h2 : k < -(m : Int)
      · have t1 : decide (k < -(m : Int)) = true := decide_eq_true h2
        clear h0 h1 h2 e1 e2 eW hok hsum hk e' hlV hl
        go_enter Tryz.func28, Tryz.ntmps28
        go_wp2_with fail
        refine HW.out.mono ?_; rintro e w1 ⟨⟨u, rfl, hu⟩, hb1⟩
        have y1 := hid hb1
        obtain ⟨a, c, rfl, -, -, -⟩ := hu.openS
        clear hb1 hu
        go_wp2_with fail
        go_ret2
        exact ⟨rfl, y1.out⟩
      · have t1 : decide (k < -(m : Int)) = false := decide_eq_false h2
        have t2 : decide ((m : Int) < k) = true := decide_eq_true (by omega)
        clear h0 h1 h2 e1 e2 eW hok hsum hk e' hlV hl
        go_enter Tryz.func28, Tryz.ntmps28
        go_wp2_with fail
        refine HW.out.mono ?_; rintro e w1 ⟨⟨u, rfl, hu⟩, hb1⟩
        have y1 := hid hb1
        obtain ⟨a, c, rfl, -, -, -⟩ := hu.openS
        clear hb1 hu
        go_wp2_with fail
        go_ret2
        exact ⟨rfl, y1.out⟩
    · have e1 : bmE q m k = 0 := by unfold bmE; rw [h0, if_neg (by simp), if_neg h1]
      have e2 : bmB q m k = shB ((beV q m).getD (k + m).toNat 0) (beV q m).sum := by unfold bmB; rw [if_pos e1]
      rw [e1, e2]
      obtain ⟨j, hj⟩ : ∃ j : Nat, k + (m : Int) = (j : Nat) := ⟨(k + m).toNat, by omega⟩
      have hj2 : j < 2 * m + 1 := by omega
      have t1 : decide (k < -(m : Int)) = false := decide_eq_false (by omega)
      have t2 : decide ((m : Int) < k) = false := decide_eq_false (by omega)
      have wj : IntKind.i64.wrap (k + (m : Int)) = (j : Int) := by rw [hj, IntWalk.i64_in _ ⟨by omega, by omega⟩]
      rw [hj, Int.toNat_natCast]
      obtain ⟨ws, hws⟩ : ∃ ws, beV q m = ws := ⟨_, rfl⟩
      rw [hws] at hlV eW hok hsum ⊢
      obtain ⟨xj, hxj⟩ : ∃ x, ws[j]? = some x := ⟨_, List.getElem?_eq_getElem (by omega)⟩
      have hgd : ws.getD j 0 = xj := by rw [List.getD_eq_getElem?_getD, hxj]; rfl
      have PM := fun V => hid (r2_Make_num V xj ws.sum (by have := hok.dig xj (List.mem_of_getElem? hxj); omega) (by have := hok.sum; omega) (by omega))
      have hoe : outE (qmk false xj ws.sum) = 0 := by
        refine outE_fits ?_
        obtain ⟨a1, a2⟩ := qmk_le (a := xj) (b := ws.sum) (by omega)
        intro ho
        rcases ho with h | h
        · have := nDigits_mono a1; have := hok.dig xj (List.mem_of_getElem? hxj); omega
        · have := nDigits_mono a2; have := hok.sum; omega
      rw [hoe, show outB (qmk false xj ws.sum) = shB xj ws.sum from rfl] at PM
      rw [hgd]
      have HALL := hid (pre_all (ws := ws) (i := ws.length) (by omega))
      have HX := hid hxj
      obtain ⟨R, hR⟩ : ∃ R, shB xj ws.sum = R := ⟨_, rfl⟩
      rw [hR] at PM ⊢
      rw [eW] at HW
      have PS := fun V v hv => hid (r5_Sums V v ws hok hv)
      have PW := fun V v (h : IsN .i64 V v ws.sum) => hid (r1_Write V v ws.sum h (num_limbs (by have := hok.sum; omega)))
      have hnv : numV ws.sum = .string (numB ws.sum) := rfl
      rw [hnv] at PW
      obtain ⟨S0, hS0⟩ : ∃ s, numB ws.sum = s := ⟨_, rfl⟩
      obtain ⟨X0, hX0⟩ : ∃ s, numB xj = s := ⟨_, rfl⟩
      have HX0 := hid hX0
      rw [hS0] at PW PM
      rw [hX0] at PM
      have hwl : (ws.map numB).length = 2 * m + 1 := by rw [List.length_map, hlV]
      have HWL := hid hwl
      obtain ⟨N, hN⟩ : ∃ N, 2 * m + 1 = N := ⟨_, rfl⟩
      rw [hN] at hj2 HWL hlV
      rw [hlV] at HALL
      simp only [hlV] at PS
      have b1 : (0 : Int) ≤ (j : Int) := by omega
      have b2 : (j : Int) < (N : Int) := by omega
      have b3 : (0 : Int) ≤ (N : Int) := by omega
      have b4 : (N : Int) < ((N + 1 : Nat) : Int) := by omega
      have b4' : (N : Int) < (N : Int) + 1 := by omega
      clear h0 h1 e1 e2 eW hok hsum hk e' hlV hl hws hxj hgd hoe hR hwl hN hj hnv hS0 hX0
      go_enter Tryz.func28, Tryz.ntmps28
      go_wp2_with fail
      refine HW.out.mono ?_; rintro e w1 ⟨⟨u, rfl, hu⟩, hb1⟩
      have y1 := hid hb1
      have U1 := hid hu
      obtain ⟨a, c, rfl, k1, k2, -⟩ := hu.openS
      rw [HWL.out] at U1 k1 ⊢
      clear hb1 hu
      go_wp2_with fail
      refine (PS _ _ U1.out).out.mono ?_; rintro e w2 ⟨⟨v2, rfl, hv2⟩, hb2⟩
      have y2 := hid (bnext y1.out hb2)
      obtain ⟨g, o, rfl, hg, hc⟩ := U1.out.at (strs_get (show (ws.map numB)[j]? = some (numB xj) by rw [List.getElem?_map, HX.out]; rfl))
      have m1 := (hb2.cell (p := ⟨g, o + j, none⟩) hg).trans hc
      rw [HX0.out] at m1
      obtain ⟨a2, c2, rfl, k3, k4, h5⟩ := hv2.open
      obtain ⟨g2, o2, x2, rfl, hg2, hc2, hx2⟩ := h5 N (by omega)
      rw [HALL.out] at hx2
      have X2 := hid hx2
      obtain ⟨a6, c6, rfl, -, -, -⟩ := hx2.openI
      have KK : Hid (∀ W, Below w2.heap.size w2 W → W.cell? ⟨g, o + j, none⟩ = some (.string X0) ∧ W.cell? ⟨g2, o2 + N, none⟩ = some (.slice a6 (limbs ws.sum).length c6)) := fun W hW => ⟨(hW.cell (World.block_lt_of_cell? w2 _ m1)).trans m1, (hW.cell (p := ⟨g2, o2 + N, none⟩) hg2).trans hc2⟩
      clear hg hc hb2 hv2 h5 hg2 hx2
      have wN : IntKind.i64.wrap (N : Int) = (N : Int) := by rw [IntWalk.i64_in _ ⟨by omega, by omega⟩]
      go_wp2_with fail
      refine held_plain [0, 1, 2, 3, 4, 5, 6, 7, 8, 9, 10] 6 (fun w' => w'.cell? ⟨g, o + j, none⟩ = some (.string X0) ∧ w'.cell? ⟨g2, o2 + N, none⟩ = some (.slice a6 (limbs ws.sum).length c6)) (by kernel_rfl) (by kernel_rfl) (by kernel_rfl) (by kernel_rfl) (KK.out _ (Below.refl _ _).drew) ?_
      iterate 11
        refine ⟨_, rfl, ?_⟩
        apply Exists.intro
        refine ⟨.inl ⟨by rfl, ?_⟩, ?_⟩
        · (intro W' hW'; obtain ⟨q8, q9⟩ := hW'; go_simp; try (with_reducible rfl))
        (dsimp only [Act.put]; try simp only [List.setIfInBounds_toArray, List.set_cons_zero, List.set_cons_succ])
      refine held_one (i := 11) (by kernel_rfl) (by rfl) (by rfl) ?_
      go_wp2_with fail
      refine (PW _ _ (IsN.call X2.out (Below.refl _ _).drew)).out.mono ?_; rintro e w7 ⟨rfl, hb7⟩
      have x7 := hid (show Below w2.heap.size w2 w7 from (Below.refl _ _).drew.trans hb7)
      clear hb7
      go_wp2_with fail
      refine ⟨KK.out _ x7.out, ?_⟩
      refine held_one (i := 12) (by kernel_rfl) (by rfl) (by rfl) ?_
      go_wp2_with fail
      refine (PM _).out.mono ?_; rintro e w8 ⟨rfl, hb8⟩
      have x8 := hid (bnext x7.out hb8)
      clear hb8
      go_wp2_with fail
      refine ⟨KK.out _ x8.out, ?_⟩
      refine held_more (is := [13, 14, 15, 16]) (g := 0) (by kernel_rfl) rfl (KK.out _ x8.out) (by kernel_rfl) ?_
      iterate 4
        refine ⟨_, rfl, ?_⟩
        apply Exists.intro
        refine ⟨.inl ⟨by rfl, ?_⟩, ?_⟩
        · (intro W' hW'; obtain ⟨q8, q9⟩ := hW'; go_simp; try (with_reducible rfl))
        (dsimp only [Act.put]; try simp only [List.setIfInBounds_toArray, List.set_cons_zero, List.set_cons_succ])
      refine wpAnyH_done (by kernel_rfl) ?_ _
      simp only [Only]
      go_wp2_with fail
      go_ret2
      exact ⟨rfl, (bnext y2.out x8.out)⟩
  · have e1 : bmE q t k = beE q t := by unfold bmE; rw [if_pos h0]
    have e2 : bmB q t k = ⟨#[]⟩ := by unfold bmB; rw [e1, if_neg h0]
    rw [e1, e2]
    obtain ⟨z, hz⟩ : ∃ z, beE q t = z := ⟨_, rfl⟩
    rw [hz] at HW h0 ⊢
    have q0 : (z != 0) = true := by simpa using h0
    clear h0 e1 e2 hz
    go_enter Tryz.func28, Tryz.ntmps28
    go_wp2_with fail
    refine HW.out.mono ?_; rintro e w1 ⟨⟨u, rfl, hu⟩, hb1⟩
    have y1 := hid hb1
    obtain ⟨a, c, rfl, -, -, -⟩ := hu.openS
    clear hb1 hu
    go_wp2_with fail
    go_ret2
    exact ⟨rfl, y1.out⟩
end Go.Proofs.YtpheklgnmbpobaaGreatDoor
namespace Go.Proofs.YtpheklgnmbpobaaGreatDoor
open Go.RowKit Go.Shelf
open Go.Lib (decDigits nDigits)
set_option linter.unusedVariables false
set_option linter.unusedSimpArgs false
set_option maxRecDepth 100000 in
set_option maxHeartbeats 8000000 in
theorem w_BellCalls (w : World) (q : ByteArray) (t k n : Int) (b : ByteArray) (hq : q.size ≤ maxLen) (hb : b.size ≤ maxLen) (hL : LayB w) :
    Calls Tryz.prog 7 #[.string q, .int .i64 t, .int .i64 k, .int .i64 n, .string b] w fun e w' => e = .returned (.bool true) ∧ Below w.heap.size w w' := by
  unfold maxLen at hq hb
  have HLV := hid (w_lives w hL.l)
  by_cases c1 : 40 < q.size
  · have t1 : decide ((40 : Int) < (q.size : Int)) = true := decide_eq_true (by omega)
    clear hL c1
    go_enter Tryz.func7, Tryz.ntmps7
    go_wp2_with fail
    refine HLV.out.mono ?_; rintro e w1 ⟨rfl, hb1⟩
    have y1 := hid hb1; clear hb1
    go_wp2_with fail
    go_ret
    exact ⟨rfl, y1.out⟩
  have t1 : decide ((40 : Int) < (q.size : Int)) = false := decide_eq_false (by omega)
  by_cases c2 : 300 < b.size
  · have t2 : decide ((300 : Int) < (b.size : Int)) = true := decide_eq_true (by omega)
    clear hL c1 c2
    go_enter Tryz.func7, Tryz.ntmps7
    go_wp2_with fail
    refine HLV.out.mono ?_; rintro e w1 ⟨rfl, hb1⟩
    have y1 := hid hb1; clear hb1
    go_wp2_with fail
    go_ret
    exact ⟨rfl, y1.out⟩
  have t2 : decide ((300 : Int) < (b.size : Int)) = false := decide_eq_false (by omega)
  have HL := hid hL
  have P1 := fun V hV => hid (b_Weights V q t (by omega) hV)
  have P2 := fun V => hid (r7_Weights V q t (by omega))
  have P3 := fun V hV => hid (b_Draw V q t b (by omega) (by omega) hV)
  have P4 := fun V => hid (r7_Draw V q t b (by omega) (by omega))
  have P5 := fun V hV => hid (b_Mass V q t k (by omega) hV)
  have P6 := fun V => hid (r7_Mass V q t k (by omega))
  have P7 := fun V hV => hid (b_Exact V q t (by omega) hV)
  have P8 := fun V => hid (r7_Exact V q t (by omega))
  have P9 := fun V hV => hid (b_Law V q t n (by omega) hV)
  have P10 := fun V => hid (r7_Law V q t n (by omega))
  have P11 := fun V hV => hid (b_Late V q t n (by omega) hV)
  have P12 := fun V => hid (r7_Late V q t n (by omega))
  have PS := fun V u v hu hv => hid (k_SameS V u v (beW q t) (beW q t) hu hv)
  have PM1 := fun V u v hu hv => hid (k_SameM V u v (bxR q t) (bxR q t) hu hv)
  have PM2 := fun V u v hu hv => hid (k_SameM V u v (blR q t n) (blR q t n) hu hv)
  rw [decide_eq_true rfl] at PS PM1 PM2
  generalize beE q t = E1 at *
  generalize beW q t = W1 at *
  generalize bdE q t b = E2 at *
  generalize bd3 q t b = D at *
  generalize bmE q t k = E3 at *
  generalize bmB q t k = S3 at *
  generalize bxR q t = R1 at *
  generalize blE q t n = E4 at *
  generalize blR q t n = R2 at *
  generalize btR q t n = S4 at *
  obtain ⟨d1, d2, d3⟩ := D
  simp only [bV] at P3 P4
  by_cases c3 : t ≤ 0
  · have t3 : decide (0 < t) = false := decide_eq_false (by omega)
    clear hL c1 c2 c3
    go_enter Tryz.func7, Tryz.ntmps7
    go_wp2_with fail
    refine HLV.out.mono ?_; rintro e w1 ⟨rfl, hb1⟩
    have y1 := hid hb1; clear hb1
    go_wp2_with fail
    refine (P1 _ (HL.out.call y1.out).l).out.mono ?_; rintro e w2 ⟨⟨u2, rfl, hu2⟩, hb2⟩
    have y2 := hid (bnext y1.out hb2)
    have U2 := hid hu2
    obtain ⟨a2, c2', rfl, -, -, -⟩ := hu2.openS
    clear hb2 hu2
    go_wp2_with fail
    refine (P2 _).out.mono ?_; rintro e w3 ⟨⟨u3, rfl, hu3⟩, hb3⟩
    have y3 := hid (bnext y2.out hb3)
    have U3 := hid (U2.out.call hb3)
    have V3 := hid hu3
    obtain ⟨a3, c3', rfl, -, -, -⟩ := hu3.openS
    clear hb3 hu3
    go_wp2_with fail
    refine (P3 _ (HL.out.call y3.out).l).out.mono ?_; rintro e w4 ⟨rfl, hb4⟩
    have A4 := hid (hb4.alloc hb4.size (.cells #[.bool d1, .int .i64 d2, .int .i64 d3] 33))
    have y4 := hid (bnext y3.out A4.out)
    have U4 := hid (U3.out.call A4.out); have V4 := hid (V3.out.call A4.out)
    have X4 := hid (Blk.new w4 #[.bool d1, .int .i64 d2, .int .i64 d3] 33)
    clear hb4
    go_wp2_with fail
    refine (P4 _).out.mono ?_; rintro e w5 ⟨rfl, hb5⟩
    have A5 := hid (hb5.alloc hb5.size (.cells #[.bool d1, .int .i64 d2, .int .i64 d3] 33))
    have y5 := hid (bnext y4.out A5.out)
    have U5 := hid (U4.out.call A5.out); have V5 := hid (V4.out.call A5.out)
    have X5 := hid (X4.out.call A5.out)
    have Y5 := hid (Blk.new w5 #[.bool d1, .int .i64 d2, .int .i64 d3] 33)
    clear hb5
    go_wp2_with fail
    refine (P5 _ (HL.out.call y5.out).l).out.mono ?_; rintro e w6 ⟨rfl, hb6⟩
    have y6 := hid (bnext y5.out hb6)
    have U6 := hid (U5.out.call hb6); have V6 := hid (V5.out.call hb6)
    have X6 := hid (X5.out.call hb6); have Y6 := hid (Y5.out.call hb6)
    clear hb6
    go_wp2_with fail
    refine (P6 _).out.mono ?_; rintro e w7 ⟨rfl, hb7⟩
    have y7 := hid (bnext y6.out hb7)
    have U7 := hid (U6.out.call hb7); have V7 := hid (V6.out.call hb7)
    have X7 := hid (X6.out.call hb7); have Y7 := hid (Y6.out.call hb7)
    clear hb7
    go_wp2_with fail
    refine (PS _ _ _ U7.out V7.out).out.mono ?_; rintro e w8 ⟨rfl, hb8⟩
    have y8 := hid (bnext y7.out hb8)
    have X8 := hid (X7.out.call hb8); have Y8 := hid (Y7.out.call hb8)
    have r0 := X8.out.cell 0
    have r1 := X8.out.cell 1
    have r2 := X8.out.cell 2
    have r3 := Y8.out.cell 0
    have r4 := Y8.out.cell 1
    have r5 := Y8.out.cell 2
    simp at r0 r1 r2 r3 r4 r5
    clear hb8
    go_wp2_with fail
    clear r0 r1 r2 r3 r4 r5
    refine (P7 _ (HL.out.call y8.out)).out.mono ?_; rintro e w9 ⟨⟨u9, rfl, hu9⟩, hb9⟩
    have y9 := hid (bnext y8.out hb9)
    have M9 := hid hu9
    obtain ⟨a9, c9, rfl, -, -, -⟩ := hu9.ex
    clear hb9 hu9
    go_wp2_with fail
    refine (P8 _).out.mono ?_; rintro e wa ⟨⟨ua, rfl, hua⟩, hba⟩
    have ya := hid (bnext y9.out hba)
    have Ma := hid (M9.out.call hba); have Na := hid hua
    obtain ⟨aa, ca, rfl, -, -, -⟩ := hua.ex
    clear hba hua
    go_wp2_with fail
    refine (P9 _ (HL.out.call ya.out)).out.mono ?_; rintro e wb ⟨⟨ub, rfl, hub⟩, hbb⟩
    have yb := hid (bnext ya.out hbb)
    have Mb := hid (Ma.out.call hbb); have Nb := hid (Na.out.call hbb); have Ob := hid hub
    obtain ⟨ab, cb, rfl, -, -, -⟩ := hub.ex
    clear hbb hub
    go_wp2_with fail
    refine (P10 _).out.mono ?_; rintro e wc ⟨⟨uc, rfl, huc⟩, hbc⟩
    have yc := hid (bnext yb.out hbc)
    have Mc := hid (Mb.out.call hbc); have Nc := hid (Nb.out.call hbc); have Oc := hid (Ob.out.call hbc); have Qc := hid huc
    obtain ⟨ac, cc, rfl, -, -, -⟩ := huc.ex
    clear hbc huc
    go_wp2_with fail
    refine (P11 _ (HL.out.call yc.out).l).out.mono ?_; rintro e wd ⟨rfl, hbd⟩
    have yd := hid (bnext yc.out hbd)
    have Md := hid (Mc.out.call hbd); have Nd := hid (Nc.out.call hbd); have Od := hid (Oc.out.call hbd); have Qd := hid (Qc.out.call hbd)
    clear hbd
    go_wp2_with fail
    refine (P12 _).out.mono ?_; rintro e we ⟨rfl, hbe⟩
    have ye := hid (bnext yd.out hbe)
    have Me := hid (Md.out.call hbe); have Ne := hid (Nd.out.call hbe); have Oe := hid (Od.out.call hbe); have Qe := hid (Qd.out.call hbe)
    clear hbe
    go_wp2_with fail
    refine (PM1 _ _ _ Me.out Ne.out).out.mono ?_; rintro e wf ⟨rfl, hbf⟩
    have yf := hid (bnext ye.out hbf)
    have Of := hid (Oe.out.call hbf); have Qf := hid (Qe.out.call hbf)
    clear hbf
    go_wp2_with fail
    refine (PM2 _ _ _ Of.out Qf.out).out.mono ?_; rintro e wg ⟨rfl, hbg⟩
    have yg := hid (bnext yf.out hbg)
    clear hbg
    go_wp2_with fail
    go_ret
    exact ⟨rfl, yg.out⟩
  have t3 : decide (0 < t) = true := decide_eq_true (by omega)
  by_cases c4 : 16 < t
  · have t4 : decide (t ≤ 16) = false := decide_eq_false (by omega)
    clear hL c1 c2 c3 c4
    go_enter Tryz.func7, Tryz.ntmps7
    go_wp2_with fail
    refine HLV.out.mono ?_; rintro e w1 ⟨rfl, hb1⟩
    have y1 := hid hb1; clear hb1
    go_wp2_with fail
    refine (P1 _ (HL.out.call y1.out).l).out.mono ?_; rintro e w2 ⟨⟨u2, rfl, hu2⟩, hb2⟩
    have y2 := hid (bnext y1.out hb2)
    have U2 := hid hu2
    obtain ⟨a2, c2', rfl, -, -, -⟩ := hu2.openS
    clear hb2 hu2
    go_wp2_with fail
    refine (P2 _).out.mono ?_; rintro e w3 ⟨⟨u3, rfl, hu3⟩, hb3⟩
    have y3 := hid (bnext y2.out hb3)
    have U3 := hid (U2.out.call hb3)
    have V3 := hid hu3
    obtain ⟨a3, c3', rfl, -, -, -⟩ := hu3.openS
    clear hb3 hu3
    go_wp2_with fail
    refine (P3 _ (HL.out.call y3.out).l).out.mono ?_; rintro e w4 ⟨rfl, hb4⟩
    have A4 := hid (hb4.alloc hb4.size (.cells #[.bool d1, .int .i64 d2, .int .i64 d3] 33))
    have y4 := hid (bnext y3.out A4.out)
    have U4 := hid (U3.out.call A4.out); have V4 := hid (V3.out.call A4.out)
    have X4 := hid (Blk.new w4 #[.bool d1, .int .i64 d2, .int .i64 d3] 33)
    clear hb4
    go_wp2_with fail
    refine (P4 _).out.mono ?_; rintro e w5 ⟨rfl, hb5⟩
    have A5 := hid (hb5.alloc hb5.size (.cells #[.bool d1, .int .i64 d2, .int .i64 d3] 33))
    have y5 := hid (bnext y4.out A5.out)
    have U5 := hid (U4.out.call A5.out); have V5 := hid (V4.out.call A5.out)
    have X5 := hid (X4.out.call A5.out)
    have Y5 := hid (Blk.new w5 #[.bool d1, .int .i64 d2, .int .i64 d3] 33)
    clear hb5
    go_wp2_with fail
    refine (P5 _ (HL.out.call y5.out).l).out.mono ?_; rintro e w6 ⟨rfl, hb6⟩
    have y6 := hid (bnext y5.out hb6)
    have U6 := hid (U5.out.call hb6); have V6 := hid (V5.out.call hb6)
    have X6 := hid (X5.out.call hb6); have Y6 := hid (Y5.out.call hb6)
    clear hb6
    go_wp2_with fail
    refine (P6 _).out.mono ?_; rintro e w7 ⟨rfl, hb7⟩
    have y7 := hid (bnext y6.out hb7)
    have U7 := hid (U6.out.call hb7); have V7 := hid (V6.out.call hb7)
    have X7 := hid (X6.out.call hb7); have Y7 := hid (Y6.out.call hb7)
    clear hb7
    go_wp2_with fail
    refine (PS _ _ _ U7.out V7.out).out.mono ?_; rintro e w8 ⟨rfl, hb8⟩
    have y8 := hid (bnext y7.out hb8)
    have X8 := hid (X7.out.call hb8); have Y8 := hid (Y7.out.call hb8)
    have r0 := X8.out.cell 0
    have r1 := X8.out.cell 1
    have r2 := X8.out.cell 2
    have r3 := Y8.out.cell 0
    have r4 := Y8.out.cell 1
    have r5 := Y8.out.cell 2
    simp at r0 r1 r2 r3 r4 r5
    clear hb8
    go_wp2_with fail
    clear r0 r1 r2 r3 r4 r5
    refine (P7 _ (HL.out.call y8.out)).out.mono ?_; rintro e w9 ⟨⟨u9, rfl, hu9⟩, hb9⟩
    have y9 := hid (bnext y8.out hb9)
    have M9 := hid hu9
    obtain ⟨a9, c9, rfl, -, -, -⟩ := hu9.ex
    clear hb9 hu9
    go_wp2_with fail
    refine (P8 _).out.mono ?_; rintro e wa ⟨⟨ua, rfl, hua⟩, hba⟩
    have ya := hid (bnext y9.out hba)
    have Ma := hid (M9.out.call hba); have Na := hid hua
    obtain ⟨aa, ca, rfl, -, -, -⟩ := hua.ex
    clear hba hua
    go_wp2_with fail
    refine (P9 _ (HL.out.call ya.out)).out.mono ?_; rintro e wb ⟨⟨ub, rfl, hub⟩, hbb⟩
    have yb := hid (bnext ya.out hbb)
    have Mb := hid (Ma.out.call hbb); have Nb := hid (Na.out.call hbb); have Ob := hid hub
    obtain ⟨ab, cb, rfl, -, -, -⟩ := hub.ex
    clear hbb hub
    go_wp2_with fail
    refine (P10 _).out.mono ?_; rintro e wc ⟨⟨uc, rfl, huc⟩, hbc⟩
    have yc := hid (bnext yb.out hbc)
    have Mc := hid (Mb.out.call hbc); have Nc := hid (Nb.out.call hbc); have Oc := hid (Ob.out.call hbc); have Qc := hid huc
    obtain ⟨ac, cc, rfl, -, -, -⟩ := huc.ex
    clear hbc huc
    go_wp2_with fail
    refine (P11 _ (HL.out.call yc.out).l).out.mono ?_; rintro e wd ⟨rfl, hbd⟩
    have yd := hid (bnext yc.out hbd)
    have Md := hid (Mc.out.call hbd); have Nd := hid (Nc.out.call hbd); have Od := hid (Oc.out.call hbd); have Qd := hid (Qc.out.call hbd)
    clear hbd
    go_wp2_with fail
    refine (P12 _).out.mono ?_; rintro e we ⟨rfl, hbe⟩
    have ye := hid (bnext yd.out hbe)
    have Me := hid (Md.out.call hbe); have Ne := hid (Nd.out.call hbe); have Oe := hid (Od.out.call hbe); have Qe := hid (Qd.out.call hbe)
    clear hbe
    go_wp2_with fail
    refine (PM1 _ _ _ Me.out Ne.out).out.mono ?_; rintro e wf ⟨rfl, hbf⟩
    have yf := hid (bnext ye.out hbf)
    have Of := hid (Oe.out.call hbf); have Qf := hid (Qe.out.call hbf)
    clear hbf
    go_wp2_with fail
    refine (PM2 _ _ _ Of.out Qf.out).out.mono ?_; rintro e wg ⟨rfl, hbg⟩
    have yg := hid (bnext yf.out hbg)
    clear hbg
    go_wp2_with fail
    go_ret
    exact ⟨rfl, yg.out⟩
  have t4 : decide (t ≤ 16) = true := decide_eq_true (by omega)
  obtain ⟨m, hm⟩ : ∃ m : Nat, t = (m : Nat) := ⟨t.toNat, by omega⟩
  have hp1 : q.size * m ≤ 40 * 16 := Nat.mul_le_mul (by omega) (by omega)
  have hp2 : q.size * m * m ≤ 40 * 16 * 16 := Nat.mul_le_mul hp1 (by omega)
  have e1 : (q.size : Int) * t = ((q.size * m : Nat) : Int) := by rw [hm, Int.natCast_mul]
  have e2 : (q.size : Int) * t * t = ((q.size * m * m : Nat) : Int) := by rw [e1, hm, Int.natCast_mul (q.size * m) m]
  obtain ⟨A, hA⟩ : ∃ A, (q.size : Int) * t = A := ⟨_, rfl⟩
  rw [hA] at e1 e2
  obtain ⟨B, hB⟩ : ∃ B, A * t = B := ⟨_, rfl⟩
  rw [hB] at e2
  have b1 : 0 ≤ A ∧ A ≤ 640 := by omega
  have b2 : 0 ≤ B ∧ B ≤ 10240 := by omega
  have w1 : IntKind.i64.wrap ((q.size : Int) * t) = A := by rw [hA, IntWalk.i64_in _ ⟨by omega, by omega⟩]
  have w2 : IntKind.i64.wrap (A * t) = B := by rw [hB, IntWalk.i64_in _ ⟨by omega, by omega⟩]
  clear e1 e2 hp1 hp2 hA hB hm m
  by_cases c5 : B ≤ 800
  · have t5 : decide ((800 : Int) < B) = false := decide_eq_false (by omega)
    clear hL c1 c2 c3 c4 c5 b1 b2
    go_enter Tryz.func7, Tryz.ntmps7
    go_wp2_with fail
    refine HLV.out.mono ?_; rintro e w1 ⟨rfl, hb1⟩
    have y1 := hid hb1; clear hb1
    go_wp2_with fail
    refine (P1 _ (HL.out.call y1.out).l).out.mono ?_; rintro e w2 ⟨⟨u2, rfl, hu2⟩, hb2⟩
    have y2 := hid (bnext y1.out hb2)
    have U2 := hid hu2
    obtain ⟨a2, c2', rfl, -, -, -⟩ := hu2.openS
    clear hb2 hu2
    go_wp2_with fail
    refine (P2 _).out.mono ?_; rintro e w3 ⟨⟨u3, rfl, hu3⟩, hb3⟩
    have y3 := hid (bnext y2.out hb3)
    have U3 := hid (U2.out.call hb3)
    have V3 := hid hu3
    obtain ⟨a3, c3', rfl, -, -, -⟩ := hu3.openS
    clear hb3 hu3
    go_wp2_with fail
    refine (P3 _ (HL.out.call y3.out).l).out.mono ?_; rintro e w4 ⟨rfl, hb4⟩
    have A4 := hid (hb4.alloc hb4.size (.cells #[.bool d1, .int .i64 d2, .int .i64 d3] 33))
    have y4 := hid (bnext y3.out A4.out)
    have U4 := hid (U3.out.call A4.out); have V4 := hid (V3.out.call A4.out)
    have X4 := hid (Blk.new w4 #[.bool d1, .int .i64 d2, .int .i64 d3] 33)
    clear hb4
    go_wp2_with fail
    refine (P4 _).out.mono ?_; rintro e w5 ⟨rfl, hb5⟩
    have A5 := hid (hb5.alloc hb5.size (.cells #[.bool d1, .int .i64 d2, .int .i64 d3] 33))
    have y5 := hid (bnext y4.out A5.out)
    have U5 := hid (U4.out.call A5.out); have V5 := hid (V4.out.call A5.out)
    have X5 := hid (X4.out.call A5.out)
    have Y5 := hid (Blk.new w5 #[.bool d1, .int .i64 d2, .int .i64 d3] 33)
    clear hb5
    go_wp2_with fail
    refine (P5 _ (HL.out.call y5.out).l).out.mono ?_; rintro e w6 ⟨rfl, hb6⟩
    have y6 := hid (bnext y5.out hb6)
    have U6 := hid (U5.out.call hb6); have V6 := hid (V5.out.call hb6)
    have X6 := hid (X5.out.call hb6); have Y6 := hid (Y5.out.call hb6)
    clear hb6
    go_wp2_with fail
    refine (P6 _).out.mono ?_; rintro e w7 ⟨rfl, hb7⟩
    have y7 := hid (bnext y6.out hb7)
    have U7 := hid (U6.out.call hb7); have V7 := hid (V6.out.call hb7)
    have X7 := hid (X6.out.call hb7); have Y7 := hid (Y6.out.call hb7)
    clear hb7
    go_wp2_with fail
    refine (PS _ _ _ U7.out V7.out).out.mono ?_; rintro e w8 ⟨rfl, hb8⟩
    have y8 := hid (bnext y7.out hb8)
    have X8 := hid (X7.out.call hb8); have Y8 := hid (Y7.out.call hb8)
    have r0 := X8.out.cell 0
    have r1 := X8.out.cell 1
    have r2 := X8.out.cell 2
    have r3 := Y8.out.cell 0
    have r4 := Y8.out.cell 1
    have r5 := Y8.out.cell 2
    simp at r0 r1 r2 r3 r4 r5
    clear hb8
    go_wp2_with fail
    clear r0 r1 r2 r3 r4 r5
    refine (P7 _ (HL.out.call y8.out)).out.mono ?_; rintro e w9 ⟨⟨u9, rfl, hu9⟩, hb9⟩
    have y9 := hid (bnext y8.out hb9)
    have M9 := hid hu9
    obtain ⟨a9, c9, rfl, -, -, -⟩ := hu9.ex
    clear hb9 hu9
    go_wp2_with fail
    refine (P8 _).out.mono ?_; rintro e wa ⟨⟨ua, rfl, hua⟩, hba⟩
    have ya := hid (bnext y9.out hba)
    have Ma := hid (M9.out.call hba); have Na := hid hua
    obtain ⟨aa, ca, rfl, -, -, -⟩ := hua.ex
    clear hba hua
    go_wp2_with fail
    refine (P9 _ (HL.out.call ya.out)).out.mono ?_; rintro e wb ⟨⟨ub, rfl, hub⟩, hbb⟩
    have yb := hid (bnext ya.out hbb)
    have Mb := hid (Ma.out.call hbb); have Nb := hid (Na.out.call hbb); have Ob := hid hub
    obtain ⟨ab, cb, rfl, -, -, -⟩ := hub.ex
    clear hbb hub
    go_wp2_with fail
    refine (P10 _).out.mono ?_; rintro e wc ⟨⟨uc, rfl, huc⟩, hbc⟩
    have yc := hid (bnext yb.out hbc)
    have Mc := hid (Mb.out.call hbc); have Nc := hid (Nb.out.call hbc); have Oc := hid (Ob.out.call hbc); have Qc := hid huc
    obtain ⟨ac, cc, rfl, -, -, -⟩ := huc.ex
    clear hbc huc
    go_wp2_with fail
    refine (P11 _ (HL.out.call yc.out).l).out.mono ?_; rintro e wd ⟨rfl, hbd⟩
    have yd := hid (bnext yc.out hbd)
    have Md := hid (Mc.out.call hbd); have Nd := hid (Nc.out.call hbd); have Od := hid (Oc.out.call hbd); have Qd := hid (Qc.out.call hbd)
    clear hbd
    go_wp2_with fail
    refine (P12 _).out.mono ?_; rintro e we ⟨rfl, hbe⟩
    have ye := hid (bnext yd.out hbe)
    have Me := hid (Md.out.call hbe); have Ne := hid (Nd.out.call hbe); have Oe := hid (Od.out.call hbe); have Qe := hid (Qd.out.call hbe)
    clear hbe
    go_wp2_with fail
    refine (PM1 _ _ _ Me.out Ne.out).out.mono ?_; rintro e wf ⟨rfl, hbf⟩
    have yf := hid (bnext ye.out hbf)
    have Of := hid (Oe.out.call hbf); have Qf := hid (Qe.out.call hbf)
    clear hbf
    go_wp2_with fail
    refine (PM2 _ _ _ Of.out Qf.out).out.mono ?_; rintro e wg ⟨rfl, hbg⟩
    have yg := hid (bnext yf.out hbg)
    clear hbg
    go_wp2_with fail
    go_ret
    exact ⟨rfl, yg.out⟩
  have t5 : decide ((800 : Int) < B) = true := decide_eq_true (by omega)
  by_cases c6 : B < 9000
  · have t6 : decide (B < 9000) = true := decide_eq_true (by omega)
    clear hL c1 c2 c3 c4 c5 c6 b1 b2
    go_enter Tryz.func7, Tryz.ntmps7
    go_wp2_with fail
    refine HLV.out.mono ?_; rintro e w1 ⟨rfl, hb1⟩
    have y1 := hid hb1; clear hb1
    go_wp2_with fail
    go_ret
    exact ⟨rfl, y1.out⟩
  have t6 : decide (B < 9000) = false := decide_eq_false (by omega)
  clear hL c1 c2 c3 c4 c5 c6 b1 b2
  go_enter Tryz.func7, Tryz.ntmps7
  go_wp2_with fail
  refine HLV.out.mono ?_; rintro e w1 ⟨rfl, hb1⟩
  have y1 := hid hb1; clear hb1
  go_wp2_with fail
  refine (P1 _ (HL.out.call y1.out).l).out.mono ?_; rintro e w2 ⟨⟨u2, rfl, hu2⟩, hb2⟩
  have y2 := hid (bnext y1.out hb2)
  have U2 := hid hu2
  obtain ⟨a2, c2', rfl, -, -, -⟩ := hu2.openS
  clear hb2 hu2
  go_wp2_with fail
  refine (P2 _).out.mono ?_; rintro e w3 ⟨⟨u3, rfl, hu3⟩, hb3⟩
  have y3 := hid (bnext y2.out hb3)
  have U3 := hid (U2.out.call hb3)
  have V3 := hid hu3
  obtain ⟨a3, c3', rfl, -, -, -⟩ := hu3.openS
  clear hb3 hu3
  go_wp2_with fail
  refine (P3 _ (HL.out.call y3.out).l).out.mono ?_; rintro e w4 ⟨rfl, hb4⟩
  have A4 := hid (hb4.alloc hb4.size (.cells #[.bool d1, .int .i64 d2, .int .i64 d3] 33))
  have y4 := hid (bnext y3.out A4.out)
  have U4 := hid (U3.out.call A4.out); have V4 := hid (V3.out.call A4.out)
  have X4 := hid (Blk.new w4 #[.bool d1, .int .i64 d2, .int .i64 d3] 33)
  clear hb4
  go_wp2_with fail
  refine (P4 _).out.mono ?_; rintro e w5 ⟨rfl, hb5⟩
  have A5 := hid (hb5.alloc hb5.size (.cells #[.bool d1, .int .i64 d2, .int .i64 d3] 33))
  have y5 := hid (bnext y4.out A5.out)
  have U5 := hid (U4.out.call A5.out); have V5 := hid (V4.out.call A5.out)
  have X5 := hid (X4.out.call A5.out)
  have Y5 := hid (Blk.new w5 #[.bool d1, .int .i64 d2, .int .i64 d3] 33)
  clear hb5
  go_wp2_with fail
  refine (P5 _ (HL.out.call y5.out).l).out.mono ?_; rintro e w6 ⟨rfl, hb6⟩
  have y6 := hid (bnext y5.out hb6)
  have U6 := hid (U5.out.call hb6); have V6 := hid (V5.out.call hb6)
  have X6 := hid (X5.out.call hb6); have Y6 := hid (Y5.out.call hb6)
  clear hb6
  go_wp2_with fail
  refine (P6 _).out.mono ?_; rintro e w7 ⟨rfl, hb7⟩
  have y7 := hid (bnext y6.out hb7)
  have U7 := hid (U6.out.call hb7); have V7 := hid (V6.out.call hb7)
  have X7 := hid (X6.out.call hb7); have Y7 := hid (Y6.out.call hb7)
  clear hb7
  go_wp2_with fail
  refine (PS _ _ _ U7.out V7.out).out.mono ?_; rintro e w8 ⟨rfl, hb8⟩
  have y8 := hid (bnext y7.out hb8)
  have X8 := hid (X7.out.call hb8); have Y8 := hid (Y7.out.call hb8)
  have r0 := X8.out.cell 0
  have r1 := X8.out.cell 1
  have r2 := X8.out.cell 2
  have r3 := Y8.out.cell 0
  have r4 := Y8.out.cell 1
  have r5 := Y8.out.cell 2
  simp at r0 r1 r2 r3 r4 r5
  clear hb8
  go_wp2_with fail
  clear r0 r1 r2 r3 r4 r5
  refine (P7 _ (HL.out.call y8.out)).out.mono ?_; rintro e w9 ⟨⟨u9, rfl, hu9⟩, hb9⟩
  have y9 := hid (bnext y8.out hb9)
  have M9 := hid hu9
  obtain ⟨a9, c9, rfl, -, -, -⟩ := hu9.ex
  clear hb9 hu9
  go_wp2_with fail
  refine (P8 _).out.mono ?_; rintro e wa ⟨⟨ua, rfl, hua⟩, hba⟩
  have ya := hid (bnext y9.out hba)
  have Ma := hid (M9.out.call hba); have Na := hid hua
  obtain ⟨aa, ca, rfl, -, -, -⟩ := hua.ex
  clear hba hua
  go_wp2_with fail
  refine (P9 _ (HL.out.call ya.out)).out.mono ?_; rintro e wb ⟨⟨ub, rfl, hub⟩, hbb⟩
  have yb := hid (bnext ya.out hbb)
  have Mb := hid (Ma.out.call hbb); have Nb := hid (Na.out.call hbb); have Ob := hid hub
  obtain ⟨ab, cb, rfl, -, -, -⟩ := hub.ex
  clear hbb hub
  go_wp2_with fail
  refine (P10 _).out.mono ?_; rintro e wc ⟨⟨uc, rfl, huc⟩, hbc⟩
  have yc := hid (bnext yb.out hbc)
  have Mc := hid (Mb.out.call hbc); have Nc := hid (Nb.out.call hbc); have Oc := hid (Ob.out.call hbc); have Qc := hid huc
  obtain ⟨ac, cc, rfl, -, -, -⟩ := huc.ex
  clear hbc huc
  go_wp2_with fail
  refine (P11 _ (HL.out.call yc.out).l).out.mono ?_; rintro e wd ⟨rfl, hbd⟩
  have yd := hid (bnext yc.out hbd)
  have Md := hid (Mc.out.call hbd); have Nd := hid (Nc.out.call hbd); have Od := hid (Oc.out.call hbd); have Qd := hid (Qc.out.call hbd)
  clear hbd
  go_wp2_with fail
  refine (P12 _).out.mono ?_; rintro e we ⟨rfl, hbe⟩
  have ye := hid (bnext yd.out hbe)
  have Me := hid (Md.out.call hbe); have Ne := hid (Nd.out.call hbe); have Oe := hid (Od.out.call hbe); have Qe := hid (Qd.out.call hbe)
  clear hbe
  go_wp2_with fail
  refine (PM1 _ _ _ Me.out Ne.out).out.mono ?_; rintro e wf ⟨rfl, hbf⟩
  have yf := hid (bnext ye.out hbf)
  have Of := hid (Oe.out.call hbf); have Qf := hid (Qe.out.call hbf)
  clear hbf
  go_wp2_with fail
  refine (PM2 _ _ _ Of.out Qf.out).out.mono ?_; rintro e wg ⟨rfl, hbg⟩
  have yg := hid (bnext yf.out hbg)
  clear hbg
  go_wp2_with fail
  go_ret
  exact ⟨rfl, yg.out⟩
end Go.Proofs.YtpheklgnmbpobaaGreatDoor
