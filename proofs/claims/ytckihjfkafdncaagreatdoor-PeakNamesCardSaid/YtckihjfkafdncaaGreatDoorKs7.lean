/- Texts that the proof rests on, merged: Fd9, Fd10, Fd12, Fd7, Fd5, Ol, Pn6, Fr1b, QC, LtP, Gnp, RtW, Rt2, Rt3, Fr2, Fr4, Rt4, Rt5, Rt6, Rt7, Cr0, Bg, PcB, Rp13, Lr0, Fx0, Fd13. -/
import Derived.Test.YtckihjfkafdncaaGreatDoorKs6
import Derived.IntWalk
import Derived.RangeFuncBox
import Derived.Deep.AppendLies
import Derived.WalkLawsBesides
import Derived.Sort.Walk0
import Derived.Deep.DeepCutAuto
namespace Go.Proofs.YtckihjfkafdncaaGreatDoor
open Go.RowKit Go.Shelf
open Go.Lib (decDigits nDigits)
set_option linter.unusedVariables false
set_option linter.unusedSimpArgs false
def orZ : List Int → Int
  | [] => 0
  | x :: r => if x ≠ 0 then x else orZ r
theorem orZ_at : ∀ {l : List Int} {i : Nat}, (∀ (j : Nat) (x : Int), j < i → l[j]? = some x → x = 0) → orZ l = orZ (l.drop i)
  | [], i, _ => by simp [orZ]
  | b :: r, 0, _ => rfl
  | b :: r, i + 1, h => by
    have h1 := h 0 b (by omega) rfl
    have h3 := orZ_at (l := r) (i := i) (fun j c hj hc => h (j + 1) c (by omega) (by simpa using hc))
    rw [orZ, if_neg (by simp [h1]), h3]
    rfl
set_option maxRecDepth 100000 in
set_option maxHeartbeats 1000000 in
theorem s_OrE (w : World) (v : Value) (l : List Int) (hv : Row w v (zs l)) :
    Calls Tryz.prog 40 #[v] w fun e w' => e = .returned (.int .i64 (orZ l)) ∧ w = w' := by
  obtain ⟨a, c, rfl, q1, q2, q3⟩ := hv.openZ
  obtain ⟨n, hn⟩ : ∃ n, l.length = n := ⟨_, rfl⟩
  obtain ⟨X, hX⟩ : ∃ X, orZ l = X := ⟨_, rfl⟩
  rw [hn] at q1 ⊢
  rw [hX]
  have HN := hid hn; have Q3 := hid q3; have HX := hid hX
  clear hv q3 hn hX
  go_enter Tryz.func40, Tryz.ntmps40
  go_wp2_with fail
  go_loop [8] (fun ii => ∃ i : Nat, ii = .int .i64 i ∧ i ≤ n ∧ Hid (∀ (j : Nat) (x : Int), j < i → l[j]? = some x → x = 0)) (fun ii => n - (intOf ii).toNat)
  case atStart => exact ⟨0, rfl, Nat.zero_le _, fun j x hj => absurd hj (by omega)⟩
  case round =>
    obtain ⟨i, rfl, hi, hI⟩ := hrel
    by_cases hlt : i < n
    · obtain ⟨x, hx⟩ : ∃ x, l[i]? = some x := ⟨_, List.getElem?_eq_getElem (by rw [HN.out]; exact hlt)⟩
      obtain ⟨g, o, rfl, hg, hc⟩ := Q3.out i x hx
      have hdrop : l.drop i = x :: l.drop (i + 1) := by
        have hil : i < l.length := by rw [HN.out]; exact hlt
        rw [List.drop_eq_getElem_cons hil]
        have := List.getElem?_eq_getElem hil
        rw [hx] at this
        rw [Option.some.inj this]
      have HXX := hid hx; have HD := hid hdrop
      have b1 : (0 : Int) ≤ (i : Int) := by omega
      have b2 : (i : Int) < (n : Int) := by omega
      have wi : IntKind.i64.wrap ((i : Int) + 1) = ((i + 1 : Nat) : Int) := by rw [IntWalk.i64_in _ ⟨by omega, by omega⟩]; omega
      clear hx hdrop
      by_cases hx0 : x = 0
      · have HZ := hid hx0
        have q0 : (x == 0) = true := by rw [beq_iff_eq]; exact hx0
        clear hx0
        go_wp2_with fail
        go_round
        case rel => exact ⟨i + 1, by go_num, by omega, fun j y hj hy => by
          rcases Nat.lt_or_ge j i with h | h
          · exact hI.out j y h hy
          · obtain rfl : j = i := by omega
            rw [HXX.out] at hy; cases hy; exact HZ.out⟩
        case measure => simp [intOf] <;> omega
      · have q0 : (x == 0) = false := by rw [beq_eq_false_iff_ne]; exact hx0
        have HE : Hid (X = x) := by
          show X = x
          rw [← HX.out, orZ_at hI.out, HD.out, orZ, if_pos hx0]
        clear hx0
        go_wp2_with fail
        go_ret
        exact ⟨by rw [HE.out]; rfl, rfl⟩
    · obtain rfl : i = n := by omega
      have HE : Hid (X = 0) := by
        show X = 0
        have hd : l.drop i = [] := List.drop_eq_nil_of_le (by rw [HN.out]; exact Nat.le_refl _)
        rw [← HX.out, orZ_at hI.out, hd]; rfl
      have q0 : decide ((i : Int) < (i : Int)) = false := by simp
      clear hlt
      go_wp2_with fail
      go_ret
      exact ⟨by rw [HE.out]; rfl, rfl⟩
set_option maxRecDepth 100000 in
set_option maxHeartbeats 1000000 in
theorem s_OrI (w : World) (v : Value) (l : List Int) (hv : Row w v (zs l)) :
    Calls Tryz.prog 45 #[v] w fun e w' => e = .returned (.int .i64 (orZ l)) ∧ w = w' := by
  obtain ⟨a, c, rfl, q1, q2, q3⟩ := hv.openZ
  obtain ⟨n, hn⟩ : ∃ n, l.length = n := ⟨_, rfl⟩
  obtain ⟨X, hX⟩ : ∃ X, orZ l = X := ⟨_, rfl⟩
  rw [hn] at q1 ⊢
  rw [hX]
  have HN := hid hn; have Q3 := hid q3; have HX := hid hX
  clear hv q3 hn hX
  go_enter Tryz.func45, Tryz.ntmps45
  go_wp2_with fail
  go_loop [8] (fun ii => ∃ i : Nat, ii = .int .i64 i ∧ i ≤ n ∧ Hid (∀ (j : Nat) (x : Int), j < i → l[j]? = some x → x = 0)) (fun ii => n - (intOf ii).toNat)
  case atStart => exact ⟨0, rfl, Nat.zero_le _, fun j x hj => absurd hj (by omega)⟩
  case round =>
    obtain ⟨i, rfl, hi, hI⟩ := hrel
    by_cases hlt : i < n
    · obtain ⟨x, hx⟩ : ∃ x, l[i]? = some x := ⟨_, List.getElem?_eq_getElem (by rw [HN.out]; exact hlt)⟩
      obtain ⟨g, o, rfl, hg, hc⟩ := Q3.out i x hx
      have hdrop : l.drop i = x :: l.drop (i + 1) := by
        have hil : i < l.length := by rw [HN.out]; exact hlt
        rw [List.drop_eq_getElem_cons hil]
        have := List.getElem?_eq_getElem hil
        rw [hx] at this
        rw [Option.some.inj this]
      have HXX := hid hx; have HD := hid hdrop
      have b1 : (0 : Int) ≤ (i : Int) := by omega
      have b2 : (i : Int) < (n : Int) := by omega
      have wi : IntKind.i64.wrap ((i : Int) + 1) = ((i + 1 : Nat) : Int) := by rw [IntWalk.i64_in _ ⟨by omega, by omega⟩]; omega
      clear hx hdrop
      by_cases hx0 : x = 0
      · have HZ := hid hx0
        have q0 : (x == 0) = true := by rw [beq_iff_eq]; exact hx0
        clear hx0
        go_wp2_with fail
        go_round
        case rel => exact ⟨i + 1, by go_num, by omega, fun j y hj hy => by
          rcases Nat.lt_or_ge j i with h | h
          · exact hI.out j y h hy
          · obtain rfl : j = i := by omega
            rw [HXX.out] at hy; cases hy; exact HZ.out⟩
        case measure => simp [intOf] <;> omega
      · have q0 : (x == 0) = false := by rw [beq_eq_false_iff_ne]; exact hx0
        have HE : Hid (X = x) := by
          show X = x
          rw [← HX.out, orZ_at hI.out, HD.out, orZ, if_pos hx0]
        clear hx0
        go_wp2_with fail
        go_ret
        exact ⟨by rw [HE.out]; rfl, rfl⟩
    · obtain rfl : i = n := by omega
      have HE : Hid (X = 0) := by
        show X = 0
        have hd : l.drop i = [] := List.drop_eq_nil_of_le (by rw [HN.out]; exact Nat.le_refl _)
        rw [← HX.out, orZ_at hI.out, hd]; rfl
      have q0 : decide ((i : Int) < (i : Int)) = false := by simp
      clear hlt
      go_wp2_with fail
      go_ret
      exact ⟨by rw [HE.out]; rfl, rfl⟩
def cmpI (x y : Int) : Int := if x < y then -1 else if y < x then 1 else 0
theorem s_CompareI (w : World) (x y : Int) : Calls Tryz.prog 46 #[.int .i64 x, .int .i64 y] w fun e w' => e = .returned (.int .i64 (cmpI x y)) ∧ w = w' := by
  rcases Int.lt_trichotomy x y with h | h | h
  · have q1 : decide (x < y) = true := by simpa using h
    have HO := hid (show cmpI x y = -1 from if_pos h)
    clear h
    go_enter Tryz.func46, Tryz.ntmps46
    go_wp2
    go_ret
    exact ⟨ret_int HO.out.symm, rfl⟩
  · subst h
    have q1 : decide (x < x) = false := by simp
    have HO := hid (show cmpI x x = 0 from by unfold cmpI; rw [if_neg (by omega), if_neg (by omega)])
    go_enter Tryz.func46, Tryz.ntmps46
    go_wp2
    go_ret
    exact ⟨ret_int HO.out.symm, rfl⟩
  · have q1 : decide (x < y) = false := by simp; omega
    have q2 : decide (y < x) = true := by simpa using h
    have HO := hid (show cmpI x y = 1 from by unfold cmpI; rw [if_neg (by omega), if_pos h])
    clear h
    go_enter Tryz.func46, Tryz.ntmps46
    go_wp2
    go_ret
    exact ⟨ret_int HO.out.symm, rfl⟩
end Go.Proofs.YtckihjfkafdncaaGreatDoor
namespace Go.Proofs.YtckihjfkafdncaaGreatDoor
open Go.RowKit Go.Shelf
set_option linter.unusedVariables false
set_option linter.unusedSimpArgs false
def btB (k old v was : Int) : Bool := decide (0 < orZ [cmpI v was, cmpI old k])
theorem btB_eq {k old v was : Int} (h : old < k) : btB k old v was = decide (was < v) := by
  unfold btB orZ orZ orZ cmpI
  rw [if_pos h]
  by_cases h1 : v < was
  · simp [h1]; omega
  · by_cases h2 : was < v
    · simp [h1, h2]
    · simp [h1, h2]
theorem row_two (w : World) (p q : Int) (t : TypeId) : Row (w.alloc (.cells #[.int .i64 p, .int .i64 q] t)) (.slice (some ⟨w.heap.size, 0, none⟩) 2 2) (zs [p, q]) := by
  refine Row.of_blk (n := 2) (xs := zs [p, q]) (Blk.new w #[.int .i64 p, .int .i64 q] t) rfl (by decide) (fun i x hx => ?_) (Nat.le_refl _) (by decide)
  match i, hx with
  | 0, hx => exact hx
  | 1, hx => exact hx
  | i + 2, hx => simp [zs] at hx
set_option maxRecDepth 100000 in
set_option maxHeartbeats 1000000 in
theorem fd_better (w : World) (k old v was : Int) : Calls Tryz.prog 44 #[.int .i64 k, .int .i64 old, .int .i64 v, .int .i64 was] w fun e w' => e = .returned (.bool (btB k old v was)) ∧ Below w.heap.size w w' := by
  have C1 := fun V => hid (s_CompareI V v was)
  have C2 := fun V => hid (s_CompareI V old k)
  unfold btB
  obtain ⟨p, hp⟩ : ∃ p, cmpI v was = p := ⟨_, rfl⟩
  obtain ⟨q, hq⟩ : ∃ q, cmpI old k = q := ⟨_, rfl⟩
  rw [hp] at C1 ⊢
  rw [hq] at C2 ⊢
  have CO := fun V v hv => hid (s_OrI V v [p, q] hv)
  obtain ⟨z, hz⟩ : ∃ z, orZ [p, q] = z := ⟨_, rfl⟩
  rw [hz] at CO ⊢
  clear hp hq hz
  go_enter Tryz.func44, Tryz.ntmps44
  go_wp2_with fail
  refine (C1 _).out.mono ?_; rintro e w1 ⟨rfl, rfl⟩
  go_wp2_with fail
  refine (C2 _).out.mono ?_; rintro e w1 ⟨rfl, rfl⟩
  go_wp2_with fail
  refine (CO _ _ (row_two _ _ _ _)).out.mono ?_; rintro e w2 ⟨rfl, rfl⟩
  go_wp2_with fail
  go_ret
  exact ⟨rfl, (Below.refl _ _).alloc (Nat.le_refl _) _⟩
end Go.Proofs.YtckihjfkafdncaaGreatDoor
namespace Go.Proofs.YtckihjfkafdncaaGreatDoor
open Go.RowKit Go.Shelf
set_option linter.unusedVariables false
set_option linter.unusedSimpArgs false
attribute [local go_sem] Oper.semAt_some
structure KpC (n0 : Nat) (W W' : World) : Prop where
  size : W.heap.size ≤ W'.heap.size
  rest : n0 ≤ W.heap.size → Below n0 W W'
theorem KpC.refl (n0 : Nat) (W : World) : KpC n0 W W := ⟨Nat.le_refl _, fun _ => Below.refl _ _⟩
theorem KpC.trans {n0 : Nat} {A B C : World} (h : KpC n0 A B) (k : KpC n0 B C) : KpC n0 A C := ⟨Nat.le_trans h.size k.size, fun h1 => (h.rest h1).trans (k.rest (Nat.le_trans h1 h.size))⟩
theorem KpC.of_below {n0 : Nat} {W W' : World} (h : Below W.heap.size W W') : KpC n0 W W' := ⟨h.size, fun h1 => h.mono h1⟩
theorem KpC.put {n0 : Nat} {w : World} (h1 : n0 ≤ w.heap.size) (W : World) (l : Nat) (o o' : Obj) (hl : w.heap.size ≤ l) (h : W.heap[l]? = some o) (hc : o.isCells = false) (hw : o.isWalk = false) : KpC n0 W (W.putObj l o') := by
  have hs : W.heap.size ≤ (W.putObj l o').heap.size := by simp [World.putObj]
  exact ⟨hs, fun _ => ⟨rfl, rfl, rfl, hs, fun k hk => World.putObj_heap_other (by omega)⟩⟩
theorem keepsF_below {B : Nat} {W W' : World} (h : Below W.heap.size W W') : KeepsFrom B W W' := ⟨h.size, fun k o hk ho hc => (h.block k (Array.getElem?_eq_some_iff.1 ho).1).trans ho⟩
theorem amS_old (l : List Int) : (amS l).2.1 ≤ l.length := by
  by_cases h : l = []
  · subst h; exact Nat.le_refl _
  · have := (List.getElem?_eq_some_iff.1 (amS_mx _ l rfl h).at_).1
    omega
theorem amS_lt {l : List Int} (h : l ≠ []) : (amS l).2.1 < l.length := (List.getElem?_eq_some_iff.1 (amS_mx _ l rfl h).at_).1
structure FoldI (T : Nat) (l : List Int) (W : World) : Prop where
  f : Blk W T #[.func (.func 44) #[] #[]] 80
  best : Blk W (T + 1) #[.int .i64 ((amS l).2.1 : Nat)] 3
  many : Blk W (T + 1 + 1) #[.int .i64 (l.length : Nat)] 3
  top : Blk W (T + 1 + 1 + 1) #[.int .i64 (amS l).2.2] 3
theorem FoldI.keptX {T : Nat} {l : List Int} {X Y : World} {row : Option Nat} (h : FoldI T l X) (hg : X.grownBy Y row) (hrow : ∀ r, row = some r → ∃ o : Obj, X.heap[r]? = some o ∧ o.isCells = false) : FoldI T l Y :=
  ⟨h.f.kept hg hrow, h.best.kept hg hrow, h.many.kept hg hrow, h.top.kept hg hrow⟩
set_option maxRecDepth 100000 in
set_option maxHeartbeats 4000000 in
theorem fd_fold (w : World) (gf : Nat) (lb : Array Value) (Ok : List (Int × Int) → (Int × Int) → Prop) (S : List (Int × Int) → Prop) (hOk : ∀ pre x, Ok pre x → x.1 = (pre.length : Nat) ∧ pre.length ≤ 1000)
    (hseq : Feeds 8 Tryz.prog gf lb (fun x : Int × Int => #[.int .i64 x.1, .int .i64 x.2]) (KpC w.heap.size) Ok S (fun _ => True) w)
    (eg : ∀ args w, (callFunc gf args).run Tryz.prog w = .ok (.enter gf args) w) :
    Calls Tryz.prog 42 #[.func (.func gf) #[] lb, .func (.func 44) #[] #[]] w fun e w' => (∃ xs, S xs ∧ e = .returned (.tuple #[.int .i64 ((amS (xs.map Prod.snd)).2.1 : Nat), .int .i64 (xs.length : Nat)])) ∧ Below w.heap.size w w' := by
  have HSEQ := hid hseq; have HOK := hid hOk
  clear hseq hOk
  refine (callsIn_wide (n := 9)).1 ?_
  refine callsIn_of_wp_marks Tryz.func42 rfl trivial ?_ rfl
  simp only [Tryz.ntmps42, List.size_toArray, List.length_cons, List.length_nil, Nat.reduceAdd, Nat.reduceSub, Array.replicate_succ, Array.replicate_zero, List.push_toArray, List.append_toArray, List.nil_append, List.cons_append]
  gi_wp2_with fail
  obtain ⟨W0, hW0⟩ : ∃ W0, ((((w.alloc (.cells #[.func (.func 44) #[] #[]] 80)).alloc (.cells #[.int .i64 0] 3)).alloc (.cells #[.int .i64 0] 3)).alloc (.cells #[.int .i64 0] 3)) = W0 := ⟨_, rfl⟩
  have F0 : Hid (FoldI w.heap.size [] W0) := by
    rw [← hW0]
    exact ⟨(((Blk.new w _ _).alloc _).alloc _).alloc _, ((Blk.made _ _ _ (by simp)).alloc _).alloc _, (Blk.made _ _ _ (by simp)).alloc _, Blk.made _ _ _ (by simp)⟩
  have b0 : Hid (Below w.heap.size w W0) := by rw [← hW0]; exact ((((Below.refl _ _).alloc (Nat.le_refl _) _).alloc (by simp <;> omega) _).alloc (by simp <;> omega) _).alloc (by simp <;> omega) _
  have z0 : Hid (W0.heap.size = w.heap.size + 1 + 1 + 1 + 1) := by show _ = _; rw [← hW0]; simp
  rw [hW0]
  clear hW0
  obtain ⟨T, hT⟩ : ∃ T, w.heap.size = T := ⟨_, rfl⟩
  have HT := hid hT
  rw [hT] at F0 z0 ⊢
  have HSEQ2 := HSEQ.out
  refine range_ok (by omega) (gf := gf) (lb := lb) rfl eg HSEQ2 KpC.trans (KpC.put (by have := z0.out; have := HT.out; omega)) b0.out (fun _ => rfl)
    (fun p W => FoldI T (p.map Prod.snd) W ∧ Below w.heap.size w W)
    (fun c p W => False)
    (OwnFrom.and (fun s X Y row hs hg hr => hs.keptX hg (fun r e => (hr r e).2)) (ownFrom_below (Nat.le_refl _) (by have := z0.out; have := HT.out; omega)))
    (fun c s X Y row hs hg hr => hs)
    ⟨F0.out, b0.out⟩ ?act ?assign ?body ?done ?stop
  case assign =>
    intro l x W K hK
    gi_wp2
    exact hK
  case body =>
    rintro l p ⟨k, v⟩ W hOk ⟨hF, hB⟩
    obtain ⟨o1, o2⟩ := HOK.out _ _ hOk
    dsimp only at o1
    obtain ⟨vs, hvs⟩ : ∃ vs, p.map Prod.snd = vs := ⟨_, rfl⟩
    have hl : vs.length = p.length := by rw [← hvs, List.length_map]
    rw [hvs] at hF
    have hsn : (p ++ [(k, v)]).map Prod.snd = vs ++ [v] := by rw [List.map_append, hvs]; rfl
    rw [← hl] at o1 o2
    obtain ⟨n, hn⟩ : ∃ n, vs.length = n := ⟨_, rfl⟩
    have hold := amS_old vs
    have hsn2 : amS (vs ++ [v]) = if n = 0 ∨ (amS vs).2.2 < v then (n + 1, n, v) else (n + 1, (amS vs).2.1, (amS vs).2.2) := by
      rw [amS_snoc]
      unfold amT
      rw [amS_len, hn]
    have hlt0 : n ≠ 0 → (amS vs).2.1 < n := fun h => by
      have := amS_lt (l := vs) (fun e => h (by rw [← hn, e]; rfl))
      rwa [hn] at this
    have hl2 : (vs ++ [v]).length = n + 1 := by rw [List.length_append, List.length_singleton, hn]
    have B1 := hF.f; have B2 := hF.best; have B3 := hF.many; have B4 := hF.top
    obtain ⟨b, hb⟩ : ∃ b, (amS vs).2.1 = b := ⟨_, rfl⟩
    obtain ⟨tp, htp⟩ : ∃ tp, (amS vs).2.2 = tp := ⟨_, rfl⟩
    rw [hb] at B2 hsn2 hlt0
    rw [htp] at B4 hsn2
    rw [hn] at B3 o1 o2
    subst o1
    have r0 := B1.cell 0
    have r1 := B2.cell 0
    have r2 := B3.cell 0
    have r3 := B4.cell 0
    have f1 := B2.free 0
    have f2 := B3.free 0
    have f3 := B4.free 0
    simp at r0 r1 r2 r3
    have wn : IntKind.i64.wrap ((n : Int) + 1) = ((n + 1 : Nat) : Int) := by rw [IntWalk.i64_in _ ⟨by omega, by omega⟩]; omega
    have HB1 := hid B1; have HB2 := hid B2; have HB3 := hid B3; have HB4 := hid B4
    have HBl := hid hB; have HSN := hid hsn; have HS2 := hid hsn2; have HL2 := hid hl2
    have HLT0 := hid hlt0
    clear B1 B2 B3 B4 hB hF hsn hsn2 hl2 hold hOk hvs hl hn hb htp hlt0 hT
    -- the world behind a better value, behind another one
    have new : ∀ V, Below W.heap.size W V → amS (vs ++ [v]) = (n + 1, n, v) → ∀ (X : World), X = (((V.setCell ⟨T + 1, 0, none⟩ (.int .i64 (n : Nat))).setCell ⟨T + 1 + 1 + 1, 0, none⟩ (.int .i64 v)).setCell ⟨T + 1 + 1, 0, none⟩ (.int .i64 ((n + 1 : Nat) : Int))) → KeepsFrom W0.heap.size W X ∧ KpC w.heap.size W X ∧ FoldI T ((p ++ [(((n : Nat) : Int), v)]).map Prod.snd) X ∧ Below w.heap.size w X := fun V hV hs X hX => by
      subst hX
      have ht := HT.out
      have kb : Below w.heap.size W (((V.setCell ⟨T + 1, 0, none⟩ (.int .i64 (n : Nat))).setCell ⟨T + 1 + 1 + 1, 0, none⟩ (.int .i64 v)).setCell ⟨T + 1 + 1, 0, none⟩ (.int .i64 ((n + 1 : Nat) : Int))) :=
        (((hV.mono HBl.out.size).setCell (by simp <;> omega) _).setCell (by simp <;> omega) _).setCell (by simp <;> omega) _
      refine ⟨(keepsF_below hV).trans ((((KeepsOthers.setCell _ _ _).trans (KeepsOthers.setCell _ _ _)).trans (KeepsOthers.setCell _ _ _)).from _), ⟨kb.size, fun _ => kb⟩, ?_, HBl.out.trans kb⟩
      rw [HSN.out]
      have a1 := HB1.out.call hV
      have a2 := HB2.out.call hV
      have a3 := HB3.out.call hV
      have a4 := HB4.out.call hV
      refine ⟨((a1.other (by simp <;> omega) _).other (by simp <;> omega) _).other (by simp <;> omega) _, ?_, ?_, ?_⟩
      · rw [hs]
        exact ((a2.set 0 _).other (by simp <;> omega) _).other (by simp <;> omega) _
      · rw [HL2.out]
        exact ((a3.other (by simp <;> omega) _).other (by simp <;> omega) _).set 0 _
      · rw [hs]
        exact ((a4.other (by simp <;> omega) _).set 0 _).other (by simp <;> omega) _
    have old : ∀ V, Below W.heap.size W V → amS (vs ++ [v]) = (n + 1, b, tp) → ∀ (X : World), X = (V.setCell ⟨T + 1 + 1, 0, none⟩ (.int .i64 ((n + 1 : Nat) : Int))) → KeepsFrom W0.heap.size W X ∧ KpC w.heap.size W X ∧ FoldI T ((p ++ [(((n : Nat) : Int), v)]).map Prod.snd) X ∧ Below w.heap.size w X := fun V hV hs X hX => by
      subst hX
      have ht := HT.out
      have kb : Below w.heap.size W (V.setCell ⟨T + 1 + 1, 0, none⟩ (.int .i64 ((n + 1 : Nat) : Int))) := (hV.mono HBl.out.size).setCell (by simp <;> omega) _
      refine ⟨(keepsF_below hV).trans ((KeepsOthers.setCell _ _ _).from _), ⟨kb.size, fun _ => kb⟩, ?_, HBl.out.trans kb⟩
      rw [HSN.out]
      have a1 := HB1.out.call hV
      have a2 := HB2.out.call hV
      have a3 := HB3.out.call hV
      have a4 := HB4.out.call hV
      refine ⟨a1.other (by simp <;> omega) _, ?_, ?_, ?_⟩
      · rw [hs]; exact a2.other (by simp <;> omega) _
      · rw [HL2.out]; exact a3.set 0 _
      · rw [hs]; exact a4.other (by simp <;> omega) _
    have NEW := hid new; have OLD := hid old
    clear new old
    by_cases hn0 : n = 0
    · have hs := HS2.out
      rw [if_pos (.inl hn0)] at hs
      have HS3 := hid hs
      have q0 : ((n : Int) == 0) = true := by rw [beq_iff_eq]; omega
      clear hs hn0
      gi_wp2_with fail
      refine ⟨fun f hf => (by cases hf), ?_⟩
      gi_wp2_with fail
      exact NEW.out W (Below.refl _ _) HS3.out _ rfl
    · have q0 : ((n : Int) == 0) = false := by rw [beq_eq_false_iff_ne]; omega
      have hbt : btB (n : Int) (b : Int) v tp = decide (tp < v) := btB_eq (by have := HLT0.out hn0; omega)
      have PB := fun V => hid (fd_better V (n : Int) (b : Int) v tp)
      rw [hbt] at PB
      by_cases hlt : tp < v
      · have hs := HS2.out
        rw [if_pos (.inr hlt)] at hs
        rw [decide_eq_true hlt] at PB
        have HS3 := hid hs
        clear hs hn0 hlt hbt
        gi_wp2_with fail
        clear r1 r2 r3 f1 f2 f3
        refine ⟨trivial, ?_⟩
        refine (CallsIn.inRound _ (callsIn_wide.2 (PB _).out)).mono ?_; rintro e w1 ⟨rfl, hb1⟩
        have y1 := hid hb1
        have r1 := (HB2.out.call hb1).cell 0
        have r2 := (HB3.out.call hb1).cell 0
        have r3 := (HB4.out.call hb1).cell 0
        have f1 := (HB2.out.call hb1).free 0
        have f2 := (HB3.out.call hb1).free 0
        have f3 := (HB4.out.call hb1).free 0
        simp at r1 r2 r3
        clear hb1
        gi_wp2_with fail
        exact NEW.out w1 y1.out HS3.out _ rfl
      · have hs := HS2.out
        rw [if_neg (by omega)] at hs
        rw [decide_eq_false hlt] at PB
        have HS3 := hid hs
        clear hs hn0 hlt hbt
        gi_wp2_with fail
        clear r1 r2 r3 f1 f2 f3
        refine ⟨trivial, ?_⟩
        refine (CallsIn.inRound _ (callsIn_wide.2 (PB _).out)).mono ?_; rintro e w1 ⟨rfl, hb1⟩
        have y1 := hid hb1
        have r1 := (HB2.out.call hb1).cell 0
        have r2 := (HB3.out.call hb1).cell 0
        have r3 := (HB4.out.call hb1).cell 0
        have f1 := (HB2.out.call hb1).free 0
        have f2 := (HB3.out.call hb1).free 0
        have f3 := (HB4.out.call hb1).free 0
        simp at r1 r2 r3
        clear hb1
        gi_wp2_with fail
        exact OLD.out w1 y1.out HS3.out _ rfl
  case done =>
    rintro D' xs W hD hS ⟨hF, hB⟩ hK
    have B2 := hF.best; have B3 := hF.many
    obtain ⟨vs, hvs⟩ : ∃ vs, xs.map Prod.snd = vs := ⟨_, rfl⟩
    have hl : vs.length = xs.length := by rw [← hvs, List.length_map]
    rw [hvs] at B2 B3
    rw [hl] at B3
    have r1 := B2.cell 0
    have r2 := B3.cell 0
    have f1 := B2.free 0
    have f2 := B3.free 0
    simp at r1 r2
    have HB2 := hid B2; have HB3 := hid B3; have HBl := hid hB; have HK := hid hK; have HDD := hid hD; have HS := hid hS; have HV := hid hvs
    clear B2 B3 hF hB hK hD hS hvs hl hT
    have g1 : (T + 1 = T + 1 + 1) = False := by simp
    have g2 : (T + 1 + 1 = T + 1) = False := by simp
    gi_wp2_with fail
    gi_region
    gi_wp2_with fail
    have q1 := ((HB2.out.set 0 (.int .i64 ((amS vs).2.1 : Nat))).other (a := ⟨T + 1 + 1, 0, none⟩) (by simp) (.int .i64 (xs.length : Nat))).call ((Below.refl _ _).drew)
    have q2 := ((HB3.out.other (a := ⟨T + 1, 0, none⟩) (by simp) (.int .i64 ((amS vs).2.1 : Nat))).set 0 (.int .i64 (xs.length : Nat))).call ((Below.refl _ _).drew)
    have hk3 := ((((KeepsOthers.setCell W ⟨T + 1, 0, none⟩ (.int .i64 ((amS vs).2.1 : Nat))).trans (KeepsOthers.setCell _ ⟨T + 1 + 1, 0, none⟩ (.int .i64 (xs.length : Nat)))).trans (KeepsOthers.drew _))).same D' _ HK.out rfl
    have p1 := (q1.put hk3 (.deferred none)).cell 0
    have p2 := (q2.put hk3 (.deferred none)).cell 0
    simp at p1 p2
    have h9 := HDD.out; have hz := z0.out; have ht := HT.out
    refine marks_end hk3 (v := .tuple #[.int .i64 ((amS vs).2.1 : Nat), .int .i64 (xs.length : Nat)]) (by simp [results, Tryz.results42, go_sem, p1, p2]) ⟨⟨xs, HS.out, by rw [HV.out]⟩, ?_⟩
    exact (((HBl.out.setCell (by simp <;> omega) _).setCell (by simp <;> omega) _).drew).trans (belowK_b (w := w) (Nat.le_refl _) _ D' _ _ (by omega) hk3 rfl rfl)
  case stop => exact fun D' c p W hD _ hF _ => hF.elim
end Go.Proofs.YtckihjfkafdncaaGreatDoor
namespace Go.Proofs.YtckihjfkafdncaaGreatDoor
open Go.RowKit Go.Shelf
open Go.Lib (decDigits nDigits)
set_option linter.unusedVariables false
set_option linter.unusedSimpArgs false
attribute [local go_sem] Oper.semAt_some
def NzOk (c : List Int) (a : ByteArray) (bs : List ByteArray) (pre : List (Int × Int)) : Prop := ∀ (k : Nat) (x : Int × Int), pre[k]? = some x → ∃ n b, c[k]? = some n ∧ bs[k]? = some b ∧ x.1 = (k : Nat) ∧ nz1 false a n b = some x.2
def nzNext (c : List Int) (a : ByteArray) (bs : List ByteArray) (pre : List (Int × Int)) (x : Int × Int) : Prop := ∃ n b, c[pre.length]? = some n ∧ bs[pre.length]? = some b ∧ x.1 = (pre.length : Nat) ∧ nz1 false a n b = some x.2
def nzStop (c : List Int) (a : ByteArray) (bs : List ByteArray) (pre : List (Int × Int)) : Prop := pre.length = c.length ∨ ∃ n b, c[pre.length]? = some n ∧ bs[pre.length]? = some b ∧ nz1 false a n b = none
theorem NzOk.snoc {c : List Int} {a : ByteArray} {bs : List ByteArray} {pre : List (Int × Int)} {x : Int × Int} (h : NzOk c a bs pre) (hx : nzNext c a bs pre x) : NzOk c a bs (pre ++ [x]) := fun k y hy => by
  rw [List.getElem?_append] at hy
  split at hy
  · exact h k y hy
  · by_cases h0 : k - pre.length = 0
    · rw [h0] at hy
      cases hy
      obtain rfl : k = pre.length := by omega
      exact hx
    · obtain ⟨q, hq⟩ : ∃ q, k - pre.length = q + 1 := ⟨k - pre.length - 1, by omega⟩
      rw [hq] at hy; simp at hy
set_option maxRecDepth 100000 in
set_option maxHeartbeats 1000000 in
theorem fd_noisy (w : World) (s : Option Addr) (n k : Nat) (a : ByteArray) (t : Option Addr) (n2 k2 : Nat) :
    Calls Tryz.prog 43 #[.slice s n k, .string a, .slice t n2 k2] w fun e w' => e = .returned (.func (.func 91) #[] #[.pointer (some ⟨w.heap.size, 0, none⟩), .pointer (some ⟨w.heap.size + 1, 0, none⟩), .pointer (some ⟨w.heap.size + 1 + 1, 0, none⟩)]) ∧ w' = ((w.alloc (.cells #[.slice s n k] 24)).alloc (.cells #[.string a] 22)).alloc (.cells #[.slice t n2 k2] 30) := by
  go_enter Tryz.func43, Tryz.ntmps43
  go_wp2_with fail
  go_ret
  exact ⟨rfl, rfl⟩
set_option maxRecDepth 100000 in
set_option maxHeartbeats 4000000 in
theorem noisy_feeds {Kp : World → World → Prop} (n : Nat) (hn : 1 ≤ n) (w : World) (bc ba bb : Nat) (vc vb : Value) (c : List Int) (a : ByteArray) (bs : List ByteArray) (ha : a.size ≤ 100000) (hbs : ∀ b ∈ bs, b.size ≤ 256) (hlen : c.length = bs.length) (hcl : c.length ≤ 256) (hcr : ∀ x ∈ c, -1125899906842624 ≤ x ∧ x ≤ 1125899906842624)
    (hKr : ∀ W, Kp W W) (hKt : ∀ {A B C : World}, Kp A B → Kp B C → Kp A C)
    (hread : ∀ W1 W2, Below w.heap.size w W1 → Kp W1 W2 → W2.cell? ⟨bc, 0, none⟩ = some vc ∧ W2.cell? ⟨ba, 0, none⟩ = some (.string a) ∧ W2.cell? ⟨bb, 0, none⟩ = some vb ∧ Row W2 vc (zs c) ∧ Row W2 vb (strs bs) ∧ Lay W2) (hKb : ∀ W1 W2, Below W1.heap.size W1 W2 → Kp W1 W2) :
    Feeds n Tryz.prog 91 #[.pointer (some ⟨bc, 0, none⟩), .pointer (some ⟨ba, 0, none⟩), .pointer (some ⟨bb, 0, none⟩)] (fun x : Int × Int => #[.int .i64 x.1, .int .i64 x.2]) Kp (nzNext c a bs) (fun xs => NzOk c a bs xs ∧ nzStop c a bs xs) (fun _ => True) w := by
  intro l J Jx W hW hJ hJx hY h0
  have HR := hid hread; have HY := hid hY; have HW := hid hW; have HJ := hid hJ; have HJx := hid hJx
  have HKr := hid hKr; have HKt : Hid (∀ A B C : World, Kp A B → Kp B C → Kp A C) := fun A B C h k => hKt h k
  have HKb := hid hKb
  have HA := hid ha; have HBS := hid hbs; have HCR := hid hcr; have HLN := hid hlen
  obtain ⟨c0, -, -, r0, -, -⟩ := hread W W hW (hKr W)
  obtain ⟨s, cp, rfl, q1, q2, -⟩ := r0.openZ
  obtain ⟨N, hN⟩ : ∃ N, c.length = N := ⟨_, rfl⟩
  have HN := hid hN
  rw [hN] at HR c0 q1 hcl
  clear hread hY hW hJ hJx hKr hKt hKb ha hbs hcr hlen r0 hN
  refine callsIn_of_wp Tryz.func91 rfl trivial ?_ rfl
  simp only [Tryz.ntmps91, List.size_toArray, List.length_cons, List.length_nil, Nat.reduceAdd, Nat.reduceSub, Array.replicate_succ, Array.replicate_zero, List.push_toArray, List.append_toArray, List.nil_append, List.cons_append]
  gi_wp2
  gi_loopw [11] (fun ii wr => ∃ p : List (Int × Int), ii = .int .i64 (p.length : Nat) ∧ p.length ≤ N ∧ Hid (NzOk c a bs p) ∧ Hid (J p wr) ∧ Hid (Kp W wr)) (fun ii wr => N - (intOf ii).toNat)
  case atStart => exact ⟨[], rfl, Nat.zero_le _, fun k x hx => by simp at hx, h0, HKr.out W⟩
  case round =>
    obtain ⟨pre, rfl, hp, hO, hJ, hK⟩ := hrel
    obtain ⟨i, hi⟩ : ∃ i, pre.length = i := ⟨_, rfl⟩
    have HI := hid hi
    rw [hi] at hp ⊢
    clear hi
    by_cases hlt : i < N
    · obtain ⟨x, hx⟩ : ∃ x, c[i]? = some x := ⟨_, List.getElem?_eq_getElem (by rw [HN.out]; exact hlt)⟩
      obtain ⟨b, hb⟩ : ∃ b, bs[i]? = some b := ⟨_, List.getElem?_eq_getElem (by have := HLN.out; have := HN.out; omega)⟩
      obtain ⟨-, c1, c2, hrow, hrowb, hLay⟩ := HR.out W wr HW.out hK.out
      obtain ⟨a', c', e, -, -, hcell⟩ := hrow.openZ
      simp only [Value.slice.injEq] at e
      obtain ⟨rfl, -, rfl⟩ := e
      obtain ⟨g, o, rfl, hg, hc⟩ := hcell i x hx
      obtain ⟨a2, k2, rfl, -, -, hcell2⟩ := hrowb.openS
      obtain ⟨g2, o2, rfl, hg2, hc2⟩ := hcell2 i b hb
      obtain ⟨N2, hN2⟩ : ∃ N2, bs.length = N2 := ⟨_, rfl⟩
      have hi2 : i < N2 := by have := HLN.out; have := HN.out; omega
      rw [hN2] at c2
      have q4 := fun V hV => hid (g_One V a b HA.out (by have := HBS.out b (List.mem_of_getElem? hb); omega) hV)
      obtain ⟨t, ht⟩ : ∃ t, oT a b = t := ⟨_, rfl⟩
      obtain ⟨ge, hge⟩ : ∃ y, gE a b = y := ⟨_, rfl⟩
      rw [ht, hge] at q4
      have hvb := oT_bound a b (by have := HBS.out b (List.mem_of_getElem? hb); omega)
      rw [ht] at hvb
      have hz1 : nz1 false a x b = if t.1 = true then some (x + t.2.1) else none := by rw [← ht]; unfold nz1; simp only [Bool.false_eq_true, if_false]
      have hxr := HCR.out x (List.mem_of_getElem? hx)
      have HX := hid hx; have HB := hid hb; have HZ1 := hid hz1; have HLay := hid hLay; have HVB := hid hvb; have HXR := hid hxr
      have b1 : (0 : Int) ≤ (i : Int) := by omega
      have b2 : (i : Int) < (N : Int) := by omega
      have b3 : (i : Int) < (N2 : Int) := by omega
      have wi : IntKind.i64.wrap ((i : Int) + 1) = (i : Int) + 1 := by rw [IntWalk.i64_in _ ⟨by omega, by omega⟩]
      clear hx hb hrow hrowb hLay hcell hcell2 ht hge hvb hz1 hxr hN2 hi2
      obtain ⟨d, v, u⟩ := t
      simp only [d3] at q4
      gi_wp2_with fail
      refine wpIn_wide.2 ?_
      refine held_plain [0, 1, 2, 3, 4] 7 (fun W' => W'.cell? ⟨ba, 0, none⟩ = some (.string a) ∧ W'.cell? ⟨bb, 0, none⟩ = some (.slice (some ⟨g2, o2, none⟩) N2 k2) ∧ W'.cell? ⟨g2, o2 + i, none⟩ = some (.string b)) (by kernel_rfl) (by kernel_rfl) (by kernel_rfl) (by kernel_rfl) ⟨c1, c2, hc2⟩ ?_
      iterate 5
        refine ⟨_, rfl, ?_⟩
        apply Exists.intro
        refine ⟨.inl ⟨by rfl, ?_⟩, ?_⟩
        · (intro W' hW'; obtain ⟨q1, q2, q3⟩ := hW'; go_simp; try (with_reducible rfl))
        (dsimp only [Act.put]; try simp only [List.setIfInBounds_toArray, List.set_cons_zero, List.set_cons_succ])
      refine held_two (i := 5) (j := 9) (by kernel_rfl) (by rfl) (by rfl) (by rfl) (by rfl) ?_ ?_
      · go_wp2_with fail
        refine (q4 _ (HLay.out.call (Below.refl _ _).drew)).out.mono ?_; rintro e w1 ⟨rfl, hb1⟩
        have y1 := hid (show Below wr.heap.size wr w1 from (Below.refl _ _).drew.trans hb1)
        have s0 := (y1.out.cell (cell_lt c1)).trans c1
        have s1 := (y1.out.cell (cell_lt c2)).trans c2
        have s2 := (y1.out.cell (cell_lt hc2)).trans hc2
        clear hb1
        go_wp2_with fail
        refine ⟨⟨s0, s1, s2⟩, ?_⟩
        refine held_more (is := [6, 7, 8]) (g := 3) (by kernel_rfl) rfl ⟨s0, s1, s2⟩ (by kernel_rfl) ?_
        iterate 3
          refine ⟨_, rfl, ?_⟩
          apply Exists.intro
          refine ⟨.inl ⟨by rfl, ?_⟩, ?_⟩
          · (intro W' hW'; obtain ⟨q1, q2, q3⟩ := hW'; go_simp; try (with_reducible rfl))
          (dsimp only [Act.put]; try simp only [List.setIfInBounds_toArray, List.set_cons_zero, List.set_cons_succ])
        refine held_one (i := 9) (by kernel_rfl) (by rfl) (by rfl) ?_
        go_wp2_with fail
        have a1 := ((Below.refl w1.heap.size w1).alloc (Nat.le_refl _) (.cells #[.bool false, .int .i64 0, .int .i64 0] 94))
        have bk := Blk.new w1 #[.bool false, .int .i64 0, .int .i64 0] 94
        obtain ⟨dB, hdB⟩ : ∃ n, w1.heap.size = n := ⟨_, rfl⟩
        have HDB : Hid (wr.heap.size ≤ dB) := by show wr.heap.size ≤ dB; rw [← hdB]; exact y1.out.size
        obtain ⟨w2, hw2⟩ : ∃ w2, w1.alloc (.cells #[.bool false, .int .i64 0, .int .i64 0] 94) = w2 := ⟨_, rfl⟩
        rw [hw2] at a1 bk ⊢
        rw [hdB] at a1 bk ⊢
        have BK := hid bk
        have y2 := hid (y1.out.trans (a1.mono HDB.out))
        clear s0 s1 s2 a1 bk hdB hw2
        have s0 := (y2.out.cell (cell_lt c1)).trans c1
        have s1 := (y2.out.cell (cell_lt c2)).trans c2
        have s2 := (y2.out.cell (cell_lt hc2)).trans hc2
        refine ⟨⟨s0, s1, s2⟩, ?_⟩
        refine held_one (i := 10) (by kernel_rfl) (by rfl) (by rfl) ?_
        have r0 : w2.cell? ⟨dB, 0, none⟩ = some (.bool false) := BK.out.cell 0
        have r1 : w2.cell? ⟨dB, 1, none⟩ = some (.int .i64 0) := BK.out.cell 1
        have r2 : w2.cell? ⟨dB, 2, none⟩ = some (.int .i64 0) := BK.out.cell 2
        have f0 := BK.out.free 0
        have f1 := BK.out.free 1
        have f2 := BK.out.free 2
        clear s0 s1 s2
        go_wp2_with fail
        have bk3 : Blk (((w2.setCell ⟨dB, 0, none⟩ (.bool d)).setCell ⟨dB, 1, none⟩ (.int .i64 v)).setCell ⟨dB, 2, none⟩ (.int .i64 u)) dB #[.bool d, .int .i64 v, .int .i64 u] 94 := by
          have := ((BK.out.set 0 (.bool d)).set 1 (.int .i64 v)).set 2 (.int .i64 u)
          simpa using this
        have y3 : Below wr.heap.size wr (((w2.setCell ⟨dB, 0, none⟩ (.bool d)).setCell ⟨dB, 1, none⟩ (.int .i64 v)).setCell ⟨dB, 2, none⟩ (.int .i64 u)) :=
          have hge : wr.heap.size ≤ dB := HDB.out
          ((y2.out.setCell hge _).setCell hge _).setCell hge _
        obtain ⟨V, hV⟩ : ∃ V, ((w2.setCell ⟨dB, 0, none⟩ (.bool d)).setCell ⟨dB, 1, none⟩ (.int .i64 v)).setCell ⟨dB, 2, none⟩ (.int .i64 u) = V := ⟨_, rfl⟩
        rw [hV] at bk3 y3 ⊢
        have s0 := (y3.cell (cell_lt c1)).trans c1
        have s1 := (y3.cell (cell_lt c2)).trans c2
        have s2 := (y3.cell (cell_lt hc2)).trans hc2
        have BV := hid bk3; have YV := hid y3
        clear hV bk3 y3 r0 r1 r2 f0 f1 f2
        refine ⟨⟨s0, s1, s2⟩, ?_⟩
        refine held_one (i := 11) (by kernel_rfl) (by rfl) (by rfl) ?_
        go_wp2_with fail
        refine ⟨⟨s0, s1, s2⟩, ?_⟩
        refine wpAnyH_done (by kernel_rfl) ?_ _
        simp only [Only]
        have e0 : V.cell? ⟨dB, 0, none⟩ = some (.bool d) := BV.out.cell 0
        have e1 : V.cell? ⟨dB, 1, none⟩ = some (.int .i64 v) := BV.out.cell 1
        have e2 : V.cell? ⟨dB, 2, none⟩ = some (.int .i64 u) := BV.out.cell 2
        have ew : IntKind.i64.wrap (x + v) = x + v := by
          have h1 := HVB.out; have h2 := HXR.out
          rw [IntWalk.i64_in _ ⟨by omega, by omega⟩]
        clear s0 s1 s2
        have hJV : J pre V := HJ.out pre wr V none hJ.out ⟨YV.out.os, YV.out.tape, YV.out.output, YV.out.size, fun k hk _ => YV.out.block k hk⟩ (fun r e => by cases e)
        have hKV : Kp W V := HKt.out _ _ _ hK.out (HKb.out _ _ YV.out)
        have HJV := hid hJV; have HKV := hid hKV
        clear hJV hKV
        cases d
        · gi_wp2_with fail
          refine ⟨fun f hf => (by cases hf), ?_⟩
          gi_wp2_with fail
          refine bodyPost_ret (results_none rfl _ _ _) rfl ?_
          exact ⟨⟨_, rfl⟩, .inl ⟨pre, ⟨hO.out, .inr ⟨x, b, by rw [HI.out]; exact HX.out, by rw [HI.out]; exact HB.out, HZ1.out⟩⟩, HJV.out⟩⟩
        · have hnx : nzNext c a bs pre (((i : Nat) : Int), x + v) := ⟨x, b, by rw [HI.out]; exact HX.out, by rw [HI.out]; exact HB.out, by rw [HI.out], HZ1.out⟩
          have HNX := hid hnx
          obtain ⟨fn, tmps, assign, body, hy, hR⟩ := HY.out pre (((i : Nat) : Int), x + v) V hnx HJV.out
          dsimp only at hy
          have HYR := hid hR
          clear hnx hR
          gi_wp2_with fail
          refine HYR.out.mono ?_
          rintro e W3 (⟨rfl, hJ3, hk3⟩ | ⟨rfl, hJx3⟩)
          · have HJ3 := hid hJ3; have HK3 := hid (HKt.out _ _ _ HKV.out hk3)
            clear hJ3 hk3 hy
            gi_wp2_with fail
            go_roundw
            case rel => exact ⟨pre ++ [(((i : Nat) : Int), x + v)], by rw [List.length_append, List.length_singleton, HI.out]; rfl, by rw [List.length_append, List.length_singleton, HI.out]; omega, hO.out.snoc HNX.out, HJ3, HK3⟩
            case measure => simp [intOf] <;> omega
          · clear hy
            gi_wp2_with fail
            refine bodyPost_ret (results_none rfl _ _ _) rfl ?_
            exact ⟨⟨_, rfl⟩, .inr ⟨_, trivial, hJx3⟩⟩
      · go_wp2_with fail
        have b0 : Blk (wr.alloc (.cells #[.bool false, .int .i64 0, .int .i64 0] 94)).drew wr.heap.size #[.bool false, .int .i64 0, .int .i64 0] 94 := Blk.new wr #[.bool false, .int .i64 0, .int .i64 0] 94
        have a0 : Below wr.heap.size wr (wr.alloc (.cells #[.bool false, .int .i64 0, .int .i64 0] 94)).drew := ((Below.refl _ _).alloc (Nat.le_refl _) _).drew
        obtain ⟨dB, hdB⟩ : ∃ n, wr.heap.size = n := ⟨_, rfl⟩
        have HDB : Hid (wr.heap.size ≤ dB) := by show wr.heap.size ≤ dB; rw [← hdB]; exact Nat.le_refl _
        obtain ⟨w1, hw1⟩ : ∃ w1, (wr.alloc (.cells #[.bool false, .int .i64 0, .int .i64 0] 94)).drew = w1 := ⟨_, rfl⟩
        rw [hw1] at b0 a0 ⊢
        rw [hdB] at b0 ⊢
        have A0 := hid a0; have BB0 := hid b0
        have s0 := (a0.cell (cell_lt c1)).trans c1
        have s1 := (a0.cell (cell_lt c2)).trans c2
        have s2 := (a0.cell (cell_lt hc2)).trans hc2
        clear hw1 hdB a0 b0
        refine ⟨⟨s0, s1, s2⟩, ?_⟩
        refine held_one (i := 5) (by kernel_rfl) (by rfl) (by rfl) ?_
        go_wp2_with fail
        refine (q4 _ (HLay.out.call A0.out)).out.mono ?_; rintro e w2 ⟨rfl, hb2⟩
        have y2 := hid (A0.out.trans (hb2.mono A0.out.size))
        have BK := hid (BB0.out.call hb2)
        clear hb2 s0 s1 s2
        have s0 := (y2.out.cell (cell_lt c1)).trans c1
        have s1 := (y2.out.cell (cell_lt c2)).trans c2
        have s2 := (y2.out.cell (cell_lt hc2)).trans hc2
        go_wp2_with fail
        refine ⟨⟨s0, s1, s2⟩, ?_⟩
        refine held_more (is := [6, 7, 8]) (g := 2) (by kernel_rfl) rfl ⟨s0, s1, s2⟩ (by kernel_rfl) ?_
        iterate 3
          refine ⟨_, rfl, ?_⟩
          apply Exists.intro
          refine ⟨.inl ⟨by rfl, ?_⟩, ?_⟩
          · (intro W' hW'; obtain ⟨q1, q2, q3⟩ := hW'; go_simp; try (with_reducible rfl))
          (dsimp only [Act.put]; try simp only [List.setIfInBounds_toArray, List.set_cons_zero, List.set_cons_succ])
        have r0 : w2.cell? ⟨dB, 0, none⟩ = some (.bool false) := BK.out.cell 0
        have r1 : w2.cell? ⟨dB, 1, none⟩ = some (.int .i64 0) := BK.out.cell 1
        have r2 : w2.cell? ⟨dB, 2, none⟩ = some (.int .i64 0) := BK.out.cell 2
        have f0 := BK.out.free 0
        have f1 := BK.out.free 1
        have f2 := BK.out.free 2
        refine held_one (i := 10) (by kernel_rfl) (by rfl) (by rfl) ?_
        clear s0 s1 s2
        go_wp2_with fail
        have bk3 : Blk (((w2.setCell ⟨dB, 0, none⟩ (.bool d)).setCell ⟨dB, 1, none⟩ (.int .i64 v)).setCell ⟨dB, 2, none⟩ (.int .i64 u)) dB #[.bool d, .int .i64 v, .int .i64 u] 94 := by
          have := ((BK.out.set 0 (.bool d)).set 1 (.int .i64 v)).set 2 (.int .i64 u)
          simpa using this
        have y3 : Below wr.heap.size wr (((w2.setCell ⟨dB, 0, none⟩ (.bool d)).setCell ⟨dB, 1, none⟩ (.int .i64 v)).setCell ⟨dB, 2, none⟩ (.int .i64 u)) :=
          have hge : wr.heap.size ≤ dB := HDB.out
          ((y2.out.setCell hge _).setCell hge _).setCell hge _
        obtain ⟨V, hV⟩ : ∃ V, ((w2.setCell ⟨dB, 0, none⟩ (.bool d)).setCell ⟨dB, 1, none⟩ (.int .i64 v)).setCell ⟨dB, 2, none⟩ (.int .i64 u) = V := ⟨_, rfl⟩
        rw [hV] at bk3 y3 ⊢
        have s0 := (y3.cell (cell_lt c1)).trans c1
        have s1 := (y3.cell (cell_lt c2)).trans c2
        have s2 := (y3.cell (cell_lt hc2)).trans hc2
        have BV := hid bk3; have YV := hid y3
        clear hV bk3 y3 r0 r1 r2 f0 f1 f2
        refine ⟨⟨s0, s1, s2⟩, ?_⟩
        refine held_one (i := 11) (by kernel_rfl) (by rfl) (by rfl) ?_
        go_wp2_with fail
        refine ⟨⟨s0, s1, s2⟩, ?_⟩
        refine wpAnyH_done (by kernel_rfl) ?_ _
        simp only [Only]
        have e0 : V.cell? ⟨dB, 0, none⟩ = some (.bool d) := BV.out.cell 0
        have e1 : V.cell? ⟨dB, 1, none⟩ = some (.int .i64 v) := BV.out.cell 1
        have e2 : V.cell? ⟨dB, 2, none⟩ = some (.int .i64 u) := BV.out.cell 2
        have ew : IntKind.i64.wrap (x + v) = x + v := by
          have h1 := HVB.out; have h2 := HXR.out
          rw [IntWalk.i64_in _ ⟨by omega, by omega⟩]
        clear s0 s1 s2
        have hJV : J pre V := HJ.out pre wr V none hJ.out ⟨YV.out.os, YV.out.tape, YV.out.output, YV.out.size, fun k hk _ => YV.out.block k hk⟩ (fun r e => by cases e)
        have hKV : Kp W V := HKt.out _ _ _ hK.out (HKb.out _ _ YV.out)
        have HJV := hid hJV; have HKV := hid hKV
        clear hJV hKV
        cases d
        · gi_wp2_with fail
          refine ⟨fun f hf => (by cases hf), ?_⟩
          gi_wp2_with fail
          refine bodyPost_ret (results_none rfl _ _ _) rfl ?_
          exact ⟨⟨_, rfl⟩, .inl ⟨pre, ⟨hO.out, .inr ⟨x, b, by rw [HI.out]; exact HX.out, by rw [HI.out]; exact HB.out, HZ1.out⟩⟩, HJV.out⟩⟩
        · have hnx : nzNext c a bs pre (((i : Nat) : Int), x + v) := ⟨x, b, by rw [HI.out]; exact HX.out, by rw [HI.out]; exact HB.out, by rw [HI.out], HZ1.out⟩
          have HNX := hid hnx
          obtain ⟨fn, tmps, assign, body, hy, hR⟩ := HY.out pre (((i : Nat) : Int), x + v) V hnx HJV.out
          dsimp only at hy
          have HYR := hid hR
          clear hnx hR
          gi_wp2_with fail
          refine HYR.out.mono ?_
          rintro e W3 (⟨rfl, hJ3, hk3⟩ | ⟨rfl, hJx3⟩)
          · have HJ3 := hid hJ3; have HK3 := hid (HKt.out _ _ _ HKV.out hk3)
            clear hJ3 hk3 hy
            gi_wp2_with fail
            go_roundw
            case rel => exact ⟨pre ++ [(((i : Nat) : Int), x + v)], by rw [List.length_append, List.length_singleton, HI.out]; rfl, by rw [List.length_append, List.length_singleton, HI.out]; omega, hO.out.snoc HNX.out, HJ3, HK3⟩
            case measure => simp [intOf] <;> omega
          · clear hy
            gi_wp2_with fail
            refine bodyPost_ret (results_none rfl _ _ _) rfl ?_
            exact ⟨⟨_, rfl⟩, .inr ⟨_, trivial, hJx3⟩⟩
    · obtain rfl : i = N := by omega
      gi_wp2_with fail
      refine bodyPost_end (results_none rfl _ _ _) rfl ?_
      exact ⟨⟨_, rfl⟩, .inl ⟨pre, ⟨hO.out, .inl (by rw [HI.out, HN.out])⟩, hJ.out⟩⟩
end Go.Proofs.YtckihjfkafdncaaGreatDoor
namespace Go.Proofs.YtckihjfkafdncaaGreatDoor
open Go.RowKit Go.Shelf
open Go.Lib (decDigits nDigits)
set_option linter.unusedVariables false
set_option linter.unusedSimpArgs false
set_option maxRecDepth 100000 in
set_option maxHeartbeats 2000000 in
theorem fd_words (w : World) (v : Value) (l : List ByteArray) (m : Int) (h : Row w v (strs l)) (hsz : ∀ b ∈ l, b.size ≤ 100000000) :
    Calls Tryz.prog 41 #[v, .int .i64 m] w fun e w' => e = .returned (.int .i64 (wdE l m)) ∧ Below w.heap.size w w' := by
  obtain ⟨a, c, rfl, h1, h2, h3⟩ := h.openS
  obtain ⟨n, hn⟩ : ∃ n, l.length = n := ⟨_, rfl⟩
  unfold wdE
  rw [hn] at h1 ⊢
  by_cases hm : (n : Int) = m
  · rw [if_pos hm]
    have H3 := hid h3; have HN := hid hn; have HSZ := hid hsz
    have q0 : ((n : Int) == m) = true := by rw [beq_iff_eq]; exact hm
    obtain ⟨X, hX⟩ : ∃ X : Int, bsE l = X := ⟨_, rfl⟩
    have HX := hid hX
    rw [hX]
    subst hm
    clear h h3 hn hX hsz q0
    go_enter Tryz.func41, Tryz.ntmps41
    go_wp2_with fail
    go_loopw [14] (fun ii wr => ∃ i : Nat, ii = .int .i64 i ∧ i ≤ n ∧ Hid (∀ (j : Nat) (b : ByteArray), j < i → l[j]? = some b → chkE b = 0) ∧ Hid (Below w.heap.size w wr)) (fun ii wr => n - (intOf ii).toNat)
    case atStart => exact ⟨0, rfl, Nat.zero_le _, fun j b hj => absurd hj (by omega), Below.refl _ _⟩
    case round =>
      obtain ⟨i, rfl, hi, hI, hB⟩ := hrel
      by_cases hlt : i < n
      · obtain ⟨x, hx⟩ : ∃ x, l[i]? = some x := ⟨_, List.getElem?_eq_getElem (by rw [HN.out]; exact hlt)⟩
        obtain ⟨g, o, rfl, hg, hc⟩ := H3.out i x hx
        have d0 := (hB.out.cell (p := ⟨g, o + i, none⟩) hg).trans hc
        have b1 : (0 : Int) ≤ (i : Int) := by omega
        have b2 : (i : Int) < (n : Int) := by omega
        have wi : IntKind.i64.wrap ((i : Int) + 1) = (i : Int) + 1 := by rw [IntWalk.i64_in _ ⟨by omega, by omega⟩]
        have PN := fun W => hid (b_Check W x (HSZ.out x (List.mem_of_getElem? hx)))
        have hce := chkE_err x
        obtain ⟨y, hy⟩ : ∃ y, bitE x = y := ⟨_, rfl⟩
        rw [hy] at PN hce
        have HXX := hid hx; have HC := hid hce
        have hdrop : l.drop i = x :: l.drop (i + 1) := by
          have hil : i < l.length := by rw [HN.out]; exact hlt
          rw [List.drop_eq_getElem_cons hil]
          have := List.getElem?_eq_getElem hil
          rw [hx] at this
          rw [Option.some.inj this]
        have HD := hid hdrop
        clear hx hy hc hdrop hce
        by_cases hy0 : y = 0
        · subst hy0
          by_cases hl : 256 < x.size
          · have q2 : decide ((256 : Int) < (x.size : Int)) = true := by simp; omega
            have HE : Hid (X = 4) := by
              show X = 4
              have e : chkE x = 4 := by rw [HC.out, if_neg (by simp), if_pos hl]
              rw [← HX.out, bsE_at hI.out, HD.out, bsE, e, if_pos (by decide)]
            clear hl
            go_wp2_with fail
            refine (PN _).out.mono ?_; rintro e w1 ⟨rfl, hb1⟩
            have y1 := hid (bnext hB.out hb1); clear hb1
            go_wp2_with fail
            go_ret
            exact ⟨by rw [HE.out]; rfl, y1.out⟩
          · have q2 : decide ((256 : Int) < (x.size : Int)) = false := by simp; omega
            have HE : Hid (chkE x = 0) := by
              show chkE x = 0
              rw [HC.out, if_neg (by simp), if_neg hl]
            clear hl
            go_wp2_with fail
            refine (PN _).out.mono ?_; rintro e w1 ⟨rfl, hb1⟩
            have y1 := hid (bnext hB.out hb1); clear hb1
            go_wp2_with fail
            go_roundw
            case rel => exact ⟨i + 1, rfl, by omega, fun j b hj hjb => by
              by_cases e : j = i
              · subst e; rw [HXX.out] at hjb; cases hjb; exact HE.out
              · exact hI.out j b (by omega) hjb, y1.out⟩
            case measure => simp [intOf] <;> omega
        · have q3 : (y == 0) = false := by rw [beq_eq_false_iff_ne]; exact hy0
          have HE : Hid (X = y) := by
            show X = y
            have e : chkE x = y := by rw [HC.out, if_pos hy0]
            rw [← HX.out, bsE_at hI.out, HD.out, bsE, e, if_pos hy0]
          clear hy0
          go_wp2_with fail
          refine (PN _).out.mono ?_; rintro e w1 ⟨rfl, hb1⟩
          have y1 := hid (bnext hB.out hb1); clear hb1
          go_wp2_with fail
          go_ret
          exact ⟨by rw [HE.out]; rfl, y1.out⟩
      · obtain rfl : i = n := by omega
        have HE : Hid (X = 0) := by
          show X = 0
          have hd : l.drop i = [] := List.drop_eq_nil_of_le (by rw [HN.out]; exact Nat.le_refl _)
          rw [← HX.out, bsE_at hI.out, hd]; rfl
        go_wp2_with fail
        go_ret
        exact ⟨by rw [HE.out]; rfl, hB.out⟩
  · rw [if_neg hm]
    have q0 : ((n : Int) == m) = false := by rw [beq_eq_false_iff_ne]; exact hm
    clear h h3 hn hsz hm
    go_enter Tryz.func41, Tryz.ntmps41
    go_wp2_with fail
    go_ret
    exact ⟨rfl, Below.refl _ _⟩
end Go.Proofs.YtckihjfkafdncaaGreatDoor
namespace Go.Proofs.YtckihjfkafdncaaGreatDoor
open Go.RowKit
open Go.Lib (decDigits nDigits)
set_option linter.unusedVariables false
set_option linter.unusedSimpArgs false
def glE (a : ByteArray) (n : Int) (m : Int) : Int := if gPE a ≠ 0 then gPE a else if n < 0 ∨ m < n then 2 else 0
def glB (a : ByteArray) (n : Int) (two : Bool) : ByteArray := if glE a n 256 = 0 then shB (gL (bN (cW a)) (bN (qD a)) two n.toNat) (2 ^ n.toNat) else ⟨#[]⟩
set_option maxRecDepth 100000 in
set_option maxHeartbeats 1000000 in
theorem g_lateA (w : World) (a : ByteArray) (n : Int) (two : Bool) (ha : a.size ≤ 100000) (hL : Lay w) :
    Calls Tryz.prog 111 #[.string a, .int .i64 n, .bool two] w fun e w' => e = .returned (.tuple #[.string (glB a n two), .int .i64 (glE a n 256)]) ∧ Below w.heap.size w w' := by
  by_cases he : gPE a = 0
  · by_cases hn : n < 0 ∨ 256 < n
    · have e1 : glE a n 256 = 2 := by unfold glE; rw [if_neg (by rw [he]; simp), if_pos hn]
      have e2 : glB a n two = ⟨#[]⟩ := by unfold glB; rw [if_neg (by rw [e1]; decide)]
      rw [e1, e2]
      have HA := hid (g_ratio w a ha hL)
      rw [if_pos he, if_pos he, he] at HA
      obtain ⟨b1, k1⟩ : ∃ b, decide (n < 0) = b := ⟨_, rfl⟩
      obtain ⟨b2, k2⟩ : ∃ b, decide (256 < n) = b := ⟨_, rfl⟩
      have k3 : (b1 || b2) = true := by rw [← k1, ← k2]; simpa using hn
      clear ha hL he hn e1 e2
      cases b1
      · obtain rfl : b2 = true := by simpa using k3
        clear k3
        go_enter Tryz.func111, Tryz.ntmps111
        go_wp2_with fail
        refine HA.out.mono ?_; rintro e w1 ⟨rfl, hb1⟩
        have B1 := hid hb1; clear hb1 HA
        go_wp2_with fail
        go_ret2
        exact ⟨rfl, B1.out⟩
      · clear k2 k3
        go_enter Tryz.func111, Tryz.ntmps111
        go_wp2_with fail
        refine HA.out.mono ?_; rintro e w1 ⟨rfl, hb1⟩
        have B1 := hid hb1; clear hb1 HA
        go_wp2_with fail
        go_ret2
        exact ⟨rfl, B1.out⟩
    · obtain ⟨m, rfl⟩ : ∃ m : Nat, n = (m : Nat) := ⟨n.toNat, by omega⟩
      have e1 : glE a (m : Nat) 256 = 0 := by unfold glE; rw [if_neg (by rw [he]; simp), if_neg hn]
      have hND := (gPE_ok he).2
      obtain ⟨l1, l2⟩ := late_gL hND two m
      have := g_late w a m _ _ two ha he (by omega) rfl rfl hND hL l2
      rw [l1] at this
      unfold glB
      rw [if_pos e1, e1]
      exact this
  · have e1 : glE a n 256 = gPE a := by unfold glE; rw [if_pos he]
    have e2 : glB a n two = ⟨#[]⟩ := by unfold glB; rw [if_neg (by rw [e1]; exact he)]
    rw [e1, e2]
    have HA := hid (g_ratio w a ha hL)
    rw [if_neg he, if_neg he] at HA
    obtain ⟨x, hx⟩ : ∃ x, gPE a = x := ⟨_, rfl⟩
    rw [hx] at HA he ⊢
    have x0 : (x != 0) = true := by simpa using he
    clear ha hL he hx e1 e2
    go_enter Tryz.func111, Tryz.ntmps111
    go_wp2_with fail
    refine HA.out.mono ?_; rintro e w1 ⟨rfl, hb1⟩
    have B1 := hid hb1; clear hb1 HA
    go_wp2_with fail
    go_ret2
    exact ⟨rfl, B1.out⟩
set_option maxRecDepth 100000 in
set_option maxHeartbeats 1000000 in
theorem g_OneLateA (w : World) (a : ByteArray) (n : Int) (ha : a.size ≤ 100000) (hL : Lay w) :
    Calls Tryz.prog 59 #[.string a, .int .i64 n] w fun e w' => e = .returned (.tuple #[.string (glB a n false), .int .i64 (glE a n 256)]) ∧ Below w.heap.size w w' := by
  have H := hid (g_lateA w a n false ha hL)
  obtain ⟨o, ho⟩ : ∃ o, glB a n false = o := ⟨_, rfl⟩
  obtain ⟨x, hx⟩ : ∃ x, glE a n 256 = x := ⟨_, rfl⟩
  rw [ho, hx] at H ⊢
  clear ha hL ho hx
  go_enter Tryz.func59, Tryz.ntmps59
  go_wp2_with fail
  refine H.out.mono ?_; rintro e w1 ⟨rfl, hb1⟩
  have B1 := hid hb1; clear hb1
  go_wp2_with fail
  go_ret2
  exact ⟨rfl, B1.out⟩
end Go.Proofs.YtckihjfkafdncaaGreatDoor
namespace Go.Proofs.YtckihjfkafdncaaGreatDoor
open Go.RowKit
open Go.Lib (decDigits nDigits)
set_option linter.unusedVariables false
structure Few (ws : List Nat) : Prop where
  len : ws.length ≤ 64
  dig : ∀ x ∈ ws, nDigits x ≤ 300
  pos : 0 < ws.sum
section
variable {ws : List Nat} {m : Nat} (h : Few ws) (hm : m ≤ 256)
include h
include hm
omit hm
end
end Go.Proofs.YtckihjfkafdncaaGreatDoor
namespace Go.Proofs.YtckihjfkafdncaaGreatDoor
open Go.RowKit
open Go.Lib (decDigits nDigits)
set_option linter.unusedVariables false
theorem f_Inv (w : World) (v : Value) (q : Rat) (h : IsQ .u64 w v q) (h0 : q ≠ 0) :
    Calls Tryz.prog 105 #[v] w fun e w' => RetQ .u64 q⁻¹ e w' ∧ Below w.heap.size w w' := by
  obtain ⟨N, D, rfl, hn, hd⟩ := h.ex
  obtain ⟨m, hm⟩ : ∃ m, decide (q.num < 0) = m := ⟨_, rfl⟩
  have HN := hid hn; have HD := hid hd; have HM := hid hm; have H0 := hid h0
  rw [hm]
  obtain ⟨a1, c1, rfl, _⟩ := hn.openI
  obtain ⟨a2, c2, rfl, _⟩ := hd.openI
  clear hn hd hm h0 h
  go_enter Tryz.func105, Tryz.ntmps105
  go_wp2_with fail
  obtain ⟨p1, p2, p3⟩ := inv_num H0.out
  have B := ((Below.refl w.heap.size w).alloc (Nat.le_refl _) (.cells #[.bool m, .slice a1 (limbs q.num.natAbs).length c1, .slice a2 (limbs q.den).length c2] 133)).alloc (by simp) (.cells #[.bool m, .slice a2 (limbs q.den).length c2, .slice a1 (limbs q.num.natAbs).length c1] 133)
  refine bodyPost_ret (v := .agg #[.bool m, .slice a2 (limbs q.den).length c2, .slice a1 (limbs q.num.natAbs).length c1]) (by simp [results, Tryz.results105, go_sem]) rfl ⟨⟨_, rfl, ⟨_, _, rfl.trans ?_, by rw [p2]; exact HD.out.call B, by rw [p3]; exact HN.out.call B⟩⟩, B⟩
  rw [p1, HM.out]
def sgQ (q : Rat) : Int := if q.num = 0 then 0 else if q.num < 0 then -1 else 1
theorem sgQ_zero {q : Rat} (h : q.num = 0) : sgQ q = 0 := if_pos h
theorem sgQ_neg {q : Rat} (h : ¬ q.num = 0) (h2 : q.num < 0) : sgQ q = -1 := by rw [sgQ, if_neg h, if_pos h2]
theorem sgQ_pos {q : Rat} (h : ¬ q.num = 0) (h2 : ¬ q.num < 0) : sgQ q = 1 := by rw [sgQ, if_neg h, if_neg h2]
theorem f_Sign (w : World) (v : Value) (q : Rat) (h : IsQ .u64 w v q) :
    Calls Tryz.prog 104 #[v] w fun e w' => e = .returned (.int .i64 (sgQ q)) ∧ Below w.heap.size w w' := by
  obtain ⟨N, D, rfl, hn, hd⟩ := h.ex
  obtain ⟨m, hm⟩ : ∃ m, decide (q.num < 0) = m := ⟨_, rfl⟩
  have HN := hid hn; have HM := hid hm
  rw [hm]
  obtain ⟨a1, c1, rfl, _⟩ := hn.openI
  obtain ⟨a2, c2, rfl, _⟩ := hd.openI
  obtain ⟨k1, hk1⟩ : ∃ k, (limbs q.num.natAbs).length = k := ⟨_, rfl⟩
  obtain ⟨k2, hk2⟩ : ∃ k, (limbs q.den).length = k := ⟨_, rfl⟩
  rw [hk1] at HN ⊢
  rw [hk2]
  have b0 := hid ((Below.refl w.heap.size w).alloc (Nat.le_refl _) (.cells #[.bool m, .slice a1 k1 c1, .slice a2 k2 c2] 133))
  have N0 := hid (HN.out.call b0.out)
  clear hn hd hm h hk1 hk2
  go_enter Tryz.func104, Tryz.ntmps104
  go_wp2_with fail
  refine (l_Zero _ _ _ N0.out).mono ?_; rintro e w1 ⟨rfl, rfl⟩
  by_cases hz : q.num = 0
  · have h1 : isZ q.num.natAbs = true := isZ_iff.2 (by omega)
    rw [h1]
    have HZ := hid hz
    clear h1 hz
    go_wp2_with fail
    go_ret
    exact ⟨ret_int (sgQ_zero HZ.out).symm, b0.out⟩
  · have h1 : isZ q.num.natAbs = false := decide_eq_false (by omega)
    rw [h1]
    have HZ := hid hz
    clear h1 hz
    cases m
    · go_wp2_with fail
      go_ret
      exact ⟨ret_int (sgQ_pos HZ.out (of_decide_eq_false HM.out)).symm, b0.out⟩
    · go_wp2_with fail
      go_ret
      exact ⟨ret_int (sgQ_neg HZ.out (of_decide_eq_true HM.out)).symm, b0.out⟩
theorem neg_partsU {q : Rat} {m : Bool} (hm : decide (q.num < 0) = m) : decide ((-q).num < 0) = (!m && !isZ q.num.natAbs) ∧ (-q).num.natAbs = q.num.natAbs ∧ (-q).den = q.den := by
  refine ⟨?_, by rw [Rat.neg_num, Int.natAbs_neg], Rat.neg_den q⟩
  rw [Rat.neg_num, ← hm, Bool.eq_iff_iff]
  unfold isZ
  simp only [Bool.and_eq_true, Bool.not_eq_true', decide_eq_true_eq, decide_eq_false_iff_not]
  omega
set_option maxRecDepth 100000 in
set_option maxHeartbeats 1000000 in
theorem f_Neg (w : World) (v : Value) (q : Rat) (h : IsQ .u64 w v q) :
    Calls Tryz.prog 199 #[v] w fun e w' => RetQ .u64 (-q) e w' ∧ Below w.heap.size w w' := by
  obtain ⟨N, D, rfl, hn, hd⟩ := h.ex
  obtain ⟨m, hm⟩ : ∃ m, decide (q.num < 0) = m := ⟨_, rfl⟩
  have HN := hid hn; have HD := hid hd; have HP := hid (neg_partsU hm)
  rw [hm]
  obtain ⟨a1, c1, rfl, _⟩ := hn.openI
  obtain ⟨a2, c2, rfl, _⟩ := hd.openI
  obtain ⟨k1, hk1⟩ : ∃ k, (limbs q.num.natAbs).length = k := ⟨_, rfl⟩
  obtain ⟨k2, hk2⟩ : ∃ k, (limbs q.den).length = k := ⟨_, rfl⟩
  rw [hk1] at HN ⊢
  rw [hk2] at HD ⊢
  have HZ := fun W h => hid (l_Zero W (.slice a1 k1 c1) q.num.natAbs h)
  obtain ⟨z, hz⟩ : ∃ z, isZ q.num.natAbs = z := ⟨_, rfl⟩
  rw [hz] at HP HZ
  clear hn hd hm h hk1 hk2 hz
  have b1 := hid (((Below.refl w.heap.size w).alloc (Nat.le_refl _) (.cells #[.bool m, .slice a1 k1 c1, .slice a2 k2 c2] 133)).alloc (by simp) (.cells #[.bool false, .slice none 0 0, .slice none 0 0] 133))
  cases m
  · go_enter Tryz.func199, Tryz.ntmps199
    go_wp2_with fail
    refine region_tail 14 (by kernel_rfl) (by kernel_rfl) ?_
    simp only [List.take_succ_cons, List.take_zero, List.drop_succ_cons, List.drop_zero]
    iterate 6 still_step
    still_call ((HZ _ (HN.out.call b1.out.drew)).out.mono fun _ _ h => ⟨h.1, h.2.symm⟩)
    iterate 7 still_step
    refine wpStill_nil ?_
    go_wp2_with fail
    have b2 := (((Below.refl w.heap.size w).alloc (Nat.le_refl _) (.cells #[.bool false, .slice a1 k1 c1, .slice a2 k2 c2] 133)).alloc (by simp) (.cells #[.bool (!z), .slice a1 k1 c1, .slice a2 k2 c2] 133)).drew
    obtain ⟨p1, p2, p3⟩ := HP.out
    refine bodyPost_ret (v := .agg #[.bool (!z), .slice a1 k1 c1, .slice a2 k2 c2]) (by simp [results, Tryz.results199, go_sem]) rfl ⟨⟨_, rfl, ⟨.slice a1 k1 c1, .slice a2 k2 c2, ?_, ?_, ?_⟩⟩, b2⟩
    · rw [p1]; rfl
    · rw [p2]; exact HN.out.call b2
    · rw [p3]; exact HD.out.call b2
  · go_enter Tryz.func199, Tryz.ntmps199
    go_wp2_with fail
    refine region_tail 14 (by kernel_rfl) (by kernel_rfl) ?_
    simp only [List.take_succ_cons, List.take_zero, List.drop_succ_cons, List.drop_zero]
    iterate 14 still_step
    refine wpStill_nil ?_
    go_wp2_with fail
    have b2 := (((Below.refl w.heap.size w).alloc (Nat.le_refl _) (.cells #[.bool true, .slice a1 k1 c1, .slice a2 k2 c2] 133)).alloc (by simp) (.cells #[.bool false, .slice a1 k1 c1, .slice a2 k2 c2] 133)).drew
    obtain ⟨p1, p2, p3⟩ := HP.out
    refine bodyPost_ret (v := .agg #[.bool false, .slice a1 k1 c1, .slice a2 k2 c2]) (by simp [results, Tryz.results199, go_sem]) rfl ⟨⟨_, rfl, ⟨.slice a1 k1 c1, .slice a2 k2 c2, ?_, ?_, ?_⟩⟩, b2⟩
    · rw [p1]; rfl
    · rw [p2]; exact HN.out.call b2
    · rw [p3]; exact HD.out.call b2
end Go.Proofs.YtckihjfkafdncaaGreatDoor
namespace Go.Proofs.YtckihjfkafdncaaGreatDoor
open Go.RowKit
set_option linter.unusedVariables false
def cmF (p q : Rat) : Int := if sgQ p ≠ sgQ q then sgQ p - sgQ q else if p.num < 0 then -ordN (p.num.natAbs * q.den) (q.num.natAbs * p.den) else ordN (p.num.natAbs * q.den) (q.num.natAbs * p.den)
theorem sgQ_scale {q : Rat} {d : Nat} (hd : 0 < d) : sgQ q = sgnZ (q.num * (d : Int)) := by
  have hd' : (0 : Int) < (d : Int) := by omega
  unfold sgQ sgnZ
  by_cases h0 : q.num = 0
  · rw [if_pos h0, h0, Int.zero_mul, if_pos rfl]
  · rw [if_neg h0]
    have hne : q.num * (d : Int) ≠ 0 := Int.mul_ne_zero h0 (by omega)
    rw [if_neg hne]
    by_cases h1 : q.num < 0
    · rw [if_pos h1, if_pos (Int.mul_neg_of_neg_of_pos h1 hd')]
    · rw [if_neg h1, if_neg (by have := Int.mul_pos (a := q.num) (b := (d : Int)) (by omega) hd'; omega)]
theorem clamp_int {P Q : Int} {a b : Nat} (ha : P.natAbs = a) (hb : Q.natAbs = b) :
    max (-1) (min 1 (if sgnZ P ≠ sgnZ Q then sgnZ P - sgnZ Q else if P < 0 then -ordN a b else ordN a b)) = sgnZ (P - Q) := by
  unfold sgnZ ordN
  split <;> (repeat' split) <;> omega
theorem cmF_clamp (p q : Rat) : max (-1) (min 1 (cmF p q)) = ordQ p q := by
  have e1 : ordQ p q = sgnZ (p.num * q.den - q.num * p.den) := by
    have h := ordQ_mk (a := p.num) (b := p.den) (c := q.num) (d := q.den) p.den_nz q.den_nz
    rw [Rat.mkRat_self, Rat.mkRat_self] at h
    exact h
  have h1 := sgQ_scale (q := p) (d := q.den) q.den_pos
  have h2 := sgQ_scale (q := q) (d := p.den) p.den_pos
  have hP : (p.num * (q.den : Int)).natAbs = p.num.natAbs * q.den := by rw [Int.natAbs_mul, Int.natAbs_natCast]
  have hQ : (q.num * (p.den : Int)).natAbs = q.num.natAbs * p.den := by rw [Int.natAbs_mul, Int.natAbs_natCast]
  have hs : p.num < 0 ↔ p.num * (q.den : Int) < 0 := by
    have hd : (0 : Int) < (q.den : Int) := by have := q.den_pos; omega
    constructor
    · intro h; exact Int.mul_neg_of_neg_of_pos h hd
    · intro h
      rcases Int.lt_or_le p.num 0 with h' | h'
      · exact h'
      · exact absurd (Int.mul_nonneg h' (Int.le_of_lt hd)) (by omega)
  rw [e1, ← clamp_int hP hQ, ← h1, ← h2]
  unfold cmF
  simp only [hs]
end Go.Proofs.YtckihjfkafdncaaGreatDoor
namespace Go.Proofs.YtckihjfkafdncaaGreatDoor
open Go.RowKit
open Go.Lib (decDigits nDigits)
set_option linter.unusedVariables false
def mnB (s t : ByteArray) : ByteArray := if cmE s t = 0 then (if 0 < cmB s t then t else s) else ⟨#[]⟩
theorem cmB_three (s t : ByteArray) : cmB s t = -1 ∨ cmB s t = 0 ∨ cmB s t = 1 := by
  unfold cmB ordQ sgnQ
  split
  · split
    · simp
    · split <;> simp
  · simp
end Go.Proofs.YtckihjfkafdncaaGreatDoor
namespace Go.Proofs.YtckihjfkafdncaaGreatDoor
open Go.RowKit
open Go.Lib (decDigits nDigits)
set_option linter.unusedVariables false
set_option linter.unusedSimpArgs false
section
variable {N D : Nat} (h : N < D)
include h
omit h in
omit h in
omit h in
omit h in
end
theorem gV_one_neg {N D : Nat} (n : Nat) {v : Int} (hv : v < 0) : gV N D false n v = 0 := by rw [gV_one, if_neg (by omega)]
end Go.Proofs.YtckihjfkafdncaaGreatDoor
namespace Go.Proofs.YtckihjfkafdncaaGreatDoor
open Go.RowKit Go.Shelf
open Go.Lib (decDigits nDigits)
set_option linter.unusedVariables false
def wB (R : ByteArray) (s : ByteArray) : ByteArray := if qE s = 0 then R else ⟨#[]⟩
def wE (x : Int) (s : ByteArray) : Int := if qE s = 0 then x else qE s
theorem isQ_of {w : World} {v : Value} {s : ByteArray} (hq : qE s = 0) (h : IsF w v (iM (cW s)) (bN (iD (cW s))) (bN (qD s))) : IsQ .u64 w v (vQ s) := by
  obtain ⟨N, D, rfl, h1, h2⟩ := h
  obtain ⟨e1, e2, e3⟩ := vQ_ok hq
  exact ⟨N, D, by rw [e1], by rw [e2]; exact h1, by rw [e3]; exact h2⟩
end Go.Proofs.YtckihjfkafdncaaGreatDoor
namespace Go.Proofs.YtckihjfkafdncaaGreatDoor
open Go.RowKit Go.Shelf
open Go.Lib (decDigits nDigits)
set_option linter.unusedVariables false
set_option linter.unusedSimpArgs false
set_option maxRecDepth 100000 in
set_option maxHeartbeats 1000000 in
theorem q_with (w : World) (s : ByteArray) (F : Nat) (cs : Array Value) (R : ByteArray) (x : Int) (hs : s.size ≤ 1000000) (hL : Lay w)
    (hen : ∀ args w, (callFunc F args).run Tryz.prog w = .ok (.enter F args) w)
    (hF : ∀ W v, qE s = 0 → Below w.heap.size w W → IsQ .u64 W v (vQ s) → Lay W → Calls Tryz.prog F (#[v] ++ cs) W fun e w' => e = .returned (.tuple #[.string R, .int .i64 x]) ∧ Below W.heap.size W w') :
    Calls Tryz.prog 102 #[.string s, .func (.func F) #[] cs] w fun e w' => e = .returned (.tuple #[.string (wB R s), .int .i64 (wE x s)]) ∧ Below w.heap.size w w' := by
  have HP := hid (f_Parse w s hs hL)
  have HL := hid hL
  have HF := hid hF
  clear hF hs hL
  by_cases h1 : qE s = 0
  · have e1 : wB R s = R := if_pos h1
    have e2 : wE x s = x := if_pos h1
    rw [e1, e2]
    have HQ := hid h1
    rw [h1] at HP
    clear h1 e1 e2
    go_enter Tryz.func102, Tryz.ntmps102
    go_wp2_with fail
    refine HP.out.mono ?_; rintro e w1 ⟨⟨v, rfl, hv, -⟩, hb1⟩
    have hq := isQ_of HQ.out (hv rfl)
    have y1 := hid hb1
    obtain ⟨N, D, hvv, hN, hD⟩ := hv rfl
    subst hvv
    obtain ⟨a, c, rfl, _⟩ := hN.openI
    obtain ⟨a', c', rfl, _⟩ := hD.openI
    obtain ⟨k, hk⟩ : ∃ k, (limbs (bN (iD (cW s)))).length = k := ⟨_, rfl⟩
    obtain ⟨k', hk'⟩ : ∃ k, (limbs (bN (qD s))).length = k := ⟨_, rfl⟩
    obtain ⟨m, hm⟩ : ∃ m, iM (cW s) = m := ⟨_, rfl⟩
    rw [hk, hk', hm] at hq
    rw [hk, hk', hm]
    have Q1 := hid hq
    have X2 := hid (Blk.new w1 #[.bool m, .slice a k c, .slice a' k' c'] 133)
    have b2 := hid ((Below.refl w1.heap.size w1).alloc (Nat.le_refl _) (.cells #[.bool m, .slice a k c, .slice a' k' c'] 133))
    have y2 := hid (bnext y1.out b2.out)
    have Q2 := hid (hq.call b2.out)
    have r0 := X2.out.cell 0
    have r1 := X2.out.cell 1
    have r2 := X2.out.cell 2
    simp at r0 r1 r2
    clear hb1 hv hN hD hk hk' hm hq b2
    go_wp2_with fail
    refine (HF.out _ _ HQ.out y2.out Q2.out (HL.out.call y2.out)).mono ?_; rintro e w3 ⟨rfl, hb3⟩
    have y3 := hid (bnext y2.out hb3); clear hb3
    go_wp2_with fail
    go_ret2
    exact ⟨rfl, y3.out⟩
  · have e1 : wB R s = ⟨#[]⟩ := if_neg h1
    have e2 : wE x s = qE s := if_neg h1
    rw [e1, e2]
    obtain ⟨y, hy⟩ : ∃ y, qE s = y := ⟨_, rfl⟩
    rw [hy] at HP h1 ⊢
    have q0 : (y == 0) = false := by simpa using h1
    have q1 : (y != 0) = true := by simpa using h1
    have H1 := hid h1
    clear e1 e2 hy h1
    go_enter Tryz.func102, Tryz.ntmps102
    go_wp2_with fail
    refine HP.out.mono ?_; rintro e w1 ⟨⟨v, rfl, -, hv⟩, hb1⟩
    have hv' := hv H1.out
    subst hv'
    have y1 := hid hb1
    have y2 := hid (y1.out.alloc y1.out.size (.cells #[.bool false, .slice none 0 0, .slice none 0 0] 133))
    clear hb1 hv
    go_wp2_with fail
    go_ret2
    exact ⟨rfl, y2.out⟩
end Go.Proofs.YtckihjfkafdncaaGreatDoor
namespace Go.Proofs.YtckihjfkafdncaaGreatDoor
open Go.RowKit Go.Shelf
open Go.Lib (decDigits nDigits)
set_option linter.unusedVariables false
set_option linter.unusedSimpArgs false
def tB (R : ByteArray) (s t : ByteArray) : ByteArray := wB (wB R t) s
def tE (x : Int) (s t : ByteArray) : Int := wE (wE x t) s
set_option maxRecDepth 100000 in
set_option maxHeartbeats 1000000 in
theorem q_both11 (w : World) (v u : Value) (p q : Rat) (F g1 g2 : Nat) (R : ByteArray) (x : Int) (hv : IsQ .u64 w v p) (hu : IsQ .u64 w u q) (hL : Lay w)
    (hen : ∀ args w, (callFunc F args).run Tryz.prog w = .ok (.enter F args) w)
    (c1 : w.cell? ⟨g1, 0, none⟩ = some (.func (.func F) #[] #[])) (m : Bool) (a a' : Option Addr) (k c k' c' : Nat) (hv0 : v = .agg #[.bool m, .slice a k c, .slice a' k' c'])
    (c2 : Blk w g2 #[.bool m, .slice a k c, .slice a' k' c'] 133)
    (hF : ∀ W v u, IsQ .u64 W v p → IsQ .u64 W u q → Lay W → Calls Tryz.prog F #[v, u] W fun e w' => e = .returned (.tuple #[.string R, .int .i64 x]) ∧ Below W.heap.size W w') :
    Calls Tryz.prog 190 #[u, .pointer (some ⟨g1, 0, none⟩), .pointer (some ⟨g2, 0, none⟩)] w fun e w' => e = .returned (.tuple #[.string R, .int .i64 x]) ∧ Below w.heap.size w w' := by
  have HF := hid hF
  have HL := hid hL
  obtain ⟨N, D, rfl, hN, hD⟩ := hu.ex
  obtain ⟨a1, d1, rfl, _⟩ := hN.openI
  obtain ⟨a2, d2, rfl, _⟩ := hD.openI
  obtain ⟨k1, hk1⟩ : ∃ k, (limbs q.num.natAbs).length = k := ⟨_, rfl⟩
  obtain ⟨k2, hk2⟩ : ∃ k, (limbs q.den).length = k := ⟨_, rfl⟩
  obtain ⟨mu, hmu⟩ : ∃ m, decide (q.num < 0) = m := ⟨_, rfl⟩
  rw [hk1, hk2, hmu] at hu
  rw [hk1, hk2, hmu]
  subst hv0
  have X2 := hid (Blk.new w #[.bool mu, .slice a1 k1 d1, .slice a2 k2 d2] 133)
  have b2 := hid ((Below.refl w.heap.size w).alloc (Nat.le_refl _) (.cells #[.bool mu, .slice a1 k1 d1, .slice a2 k2 d2] 133))
  have V2 := hid (hv.call b2.out)
  have U2 := hid (hu.call b2.out)
  have C1 := (b2.out.cell (cell_lt c1)).trans c1
  have C2 := hid (c2.call b2.out)
  have r0 := X2.out.cell 0
  have r1 := X2.out.cell 1
  have r2 := X2.out.cell 2
  have s0 := C2.out.cell 0
  have s1 := C2.out.cell 1
  have s2 := C2.out.cell 2
  simp at r0 r1 r2 s0 s1 s2
  clear hk1 hk2 hmu hN hD hv hu c1 c2 hF hL
  go_enter Tryz.func190, Tryz.ntmps190
  go_wp2_with fail
  refine (HF.out _ _ _ V2.out U2.out (HL.out.call b2.out)).mono ?_; rintro e w3 ⟨rfl, hb3⟩
  have y3 := hid (bnext b2.out hb3); clear hb3
  go_wp2_with fail
  go_ret2
  exact ⟨rfl, y3.out⟩
set_option maxRecDepth 100000 in
set_option maxHeartbeats 1000000 in
theorem q_both1 (w : World) (v : Value) (t : ByteArray) (p : Rat) (F g1 g2 : Nat) (R : ByteArray) (x : Int) (ht : t.size ≤ 1000000) (hv : IsQ .u64 w v p) (hL : Lay w)
    (hen : ∀ args w, (callFunc F args).run Tryz.prog w = .ok (.enter F args) w)
    (c1 : w.cell? ⟨g1, 0, none⟩ = some (.string t)) (c2 : w.cell? ⟨g2, 0, none⟩ = some (.func (.func F) #[] #[]))
    (hF : ∀ W v u, qE t = 0 → IsQ .u64 W v p → IsQ .u64 W u (vQ t) → Lay W → Calls Tryz.prog F #[v, u] W fun e w' => e = .returned (.tuple #[.string R, .int .i64 x]) ∧ Below W.heap.size W w') :
    Calls Tryz.prog 189 #[v, .pointer (some ⟨g1, 0, none⟩), .pointer (some ⟨g2, 0, none⟩)] w fun e w' => e = .returned (.tuple #[.string (wB R t), .int .i64 (wE x t)]) ∧ Below w.heap.size w w' := by
  have HF := hid hF
  have HL := hid hL
  have HEN := hid hen
  obtain ⟨N, D, rfl, hN, hD⟩ := hv.ex
  obtain ⟨a1, d1, rfl, _⟩ := hN.openI
  obtain ⟨a2, d2, rfl, _⟩ := hD.openI
  obtain ⟨k1, hk1⟩ : ∃ k, (limbs p.num.natAbs).length = k := ⟨_, rfl⟩
  obtain ⟨k2, hk2⟩ : ∃ k, (limbs p.den).length = k := ⟨_, rfl⟩
  obtain ⟨mu, hmu⟩ : ∃ m, decide (p.num < 0) = m := ⟨_, rfl⟩
  rw [hk1, hk2, hmu] at hv
  rw [hk1, hk2, hmu]
  have X2 := hid (Blk.new w #[.bool mu, .slice a1 k1 d1, .slice a2 k2 d2] 133)
  have b2 := hid ((Below.refl w.heap.size w).alloc (Nat.le_refl _) (.cells #[.bool mu, .slice a1 k1 d1, .slice a2 k2 d2] 133))
  have V2 := hid (hv.call b2.out)
  have C1 := (b2.out.cell (cell_lt c1)).trans c1
  have C2 := hid ((b2.out.cell (cell_lt c2)).trans c2)
  have L2 := hid (HL.out.call b2.out)
  obtain ⟨w2, hw2⟩ : ∃ w2, w.alloc (.cells #[.bool mu, .slice a1 k1 d1, .slice a2 k2 d2] 133) = w2 := ⟨_, rfl⟩
  obtain ⟨g3, hg3⟩ : ∃ g, w.heap.size = g := ⟨_, rfl⟩
  have W2 := hid (q_with w2 t 190 #[.pointer (some ⟨g2, 0, none⟩), .pointer (some ⟨g3, 0, none⟩)] R x ht (hw2 ▸ L2.out) (enters_of Tryz.func190 (by kernel_rfl) rfl)
    (fun W u hq hb hu hLW => by
      subst hw2
      subst hg3
      have hVW := V2.out.call hb
      have hX := X2.out.call hb
      have hC := (hb.cell (cell_lt C2.out)).trans C2.out
      exact q_both11 W _ u p (vQ t) F g2 w.heap.size R x hVW hu hLW HEN.out hC mu a1 a2 k1 d1 k2 d2 rfl hX (fun W v u h1 h2 h3 => HF.out W v u hq h1 h2 h3)))
  rw [hw2] at C1
  clear hk1 hk2 hmu hN hD hv c1 c2 hF hL hen
  go_enter Tryz.func189, Tryz.ntmps189
  go_wp2_with fail
  refine W2.out.mono ?_; rintro e w3 ⟨rfl, hb3⟩
  have y3 := hid (bnext b2.out (hw2 ▸ hb3)); clear hb3
  go_wp2_with fail
  go_ret2
  exact ⟨rfl, y3.out⟩
end Go.Proofs.YtckihjfkafdncaaGreatDoor
namespace Go.Proofs.YtckihjfkafdncaaGreatDoor
open Go.RowKit
set_option linter.unusedVariables false
set_option linter.unusedSimpArgs false
def twoF (b : Nat) (m1 m2 : Bool) (n1 d1 n2 d2 : Value) (w : World) : Prop :=
  w.cell? ⟨b, 0, none⟩ = some (.bool m1) ∧ w.cell? ⟨b, 1, none⟩ = some n1 ∧ w.cell? ⟨b, 2, none⟩ = some d1 ∧ w.cell? ⟨b + 1, 0, none⟩ = some (.bool m2) ∧ w.cell? ⟨b + 1, 1, none⟩ = some n2 ∧ w.cell? ⟨b + 1, 2, none⟩ = some d2
structure Three (w W : World) (m1 m2 : Bool) (n1 d1 n2 d2 : Value) : Prop where
  below : Below w.heap.size w W
  size : W.heap.size = w.heap.size + 3
  b0 : Blk W w.heap.size #[.bool m1, n1, d1] 133
  b1 : Blk W (w.heap.size + 1) #[.bool m2, n2, d2] 133
  b2 : Blk W (w.heap.size + 1 + 1) #[.bool false, .slice none 0 0, .slice none 0 0] 133
theorem Three.mk' {w W : World} {m1 m2 : Bool} {n1 d1 n2 d2 : Value} (h : ((w.alloc (.cells #[.bool m1, n1, d1] 133)).alloc (.cells #[.bool m2, n2, d2] 133)).alloc (.cells #[.bool false, .slice none 0 0, .slice none 0 0] 133) = W) : Three w W m1 m2 n1 d1 n2 d2 := by
  subst h
  exact ⟨(((Below.refl _ _).alloc (Nat.le_refl _) _).alloc (by simp) _).alloc (by simp; omega) _, by simp, ((Blk.new w _ _).alloc _).alloc _, (Blk.made (w.alloc _) _ _ (by simp)).alloc _, Blk.made ((w.alloc _).alloc _) _ _ (by simp)⟩
theorem Three.cells {w W V : World} {m1 m2 : Bool} {n1 d1 n2 d2 : Value} (h : Three w W m1 m2 n1 d1 n2 d2) (hb : Below W.heap.size W V) : twoF w.heap.size m1 m2 n1 d1 n2 d2 V :=
  have y0 := h.b0.call hb
  have y1 := h.b1.call hb
  ⟨y0.cell 0, y0.cell 1, y0.cell 2, y1.cell 0, y1.cell 1, y1.cell 2⟩
theorem Three.stored {w W V : World} {m1 m2 : Bool} {n1 d1 n2 d2 : Value} (h : Three w W m1 m2 n1 d1 n2 d2) (hb : Below W.heap.size W V) (x y z : Value) : twoF w.heap.size m1 m2 n1 d1 n2 d2 (((V.setCell ⟨w.heap.size + 1 + 1, 0, none⟩ x).setCell ⟨w.heap.size + 1 + 1, 1, none⟩ y).setCell ⟨w.heap.size + 1 + 1, 2, none⟩ z) :=
  have y0 := ((((h.b0.call hb).other (a := ⟨w.heap.size + 1 + 1, 0, none⟩) (by simp; omega) x).other (a := ⟨w.heap.size + 1 + 1, 1, none⟩) (by simp; omega) y).other (a := ⟨w.heap.size + 1 + 1, 2, none⟩) (by simp; omega) z)
  have y1 := ((((h.b1.call hb).other (a := ⟨w.heap.size + 1 + 1, 0, none⟩) (by simp) x).other (a := ⟨w.heap.size + 1 + 1, 1, none⟩) (by simp) y).other (a := ⟨w.heap.size + 1 + 1, 2, none⟩) (by simp) z)
  ⟨y0.cell 0, y0.cell 1, y0.cell 2, y1.cell 0, y1.cell 1, y1.cell 2⟩
set_option maxRecDepth 100000 in
set_option maxHeartbeats 2000000 in
theorem f_Mul (w : World) (v u : Value) (p q : Rat) (hp : IsQ .u64 w v p) (hq : IsQ .u64 w u q)
    (h1 : (limbs p.num.natAbs).length ≤ 100000) (h2 : (limbs p.den).length ≤ 100000) (h3 : (limbs q.num.natAbs).length ≤ 100000) (h4 : (limbs q.den).length ≤ 100000) :
    Calls Tryz.prog 133 #[v, u] w fun e w' => RetQ .u64 (p * q) e w' ∧ Below w.heap.size w w' := by
  have hq0 := qmk_mul p q
  obtain ⟨Q, hQ⟩ : ∃ Q, p * q = Q := ⟨_, rfl⟩
  rw [hQ] at hq0 ⊢
  have hD := hid (Nat.mul_pos p.den_pos q.den_pos)
  obtain ⟨N1, D1, rfl, hn1, hd1⟩ := hp.ex
  obtain ⟨N2, D2, rfl, hn2, hd2⟩ := hq.ex
  clear hp hq hQ
  generalize decide (p.num < 0) = m1 at *
  generalize decide (q.num < 0) = m2 at *
  generalize p.num.natAbs = n1 at *
  generalize q.num.natAbs = n2 at *
  generalize p.den = d1 at *
  generalize q.den = d2 at *
  have HQ := hid hq0
  clear hq0
  have HN1 := hid hn1; have HD1 := hid hd1; have HN2 := hid hn2; have HD2 := hid hd2
  have L1 := hid (Nat.le_trans (len_mul h1 h3) (show 100000 + 100000 ≤ 1000000 by omega))
  have L2 := hid (Nat.le_trans (len_mul h2 h4) (show 100000 + 100000 ≤ 1000000 by omega))
  have H1 := hid (Nat.le_trans h1 (show 100000 ≤ 1000000 by omega))
  have H2 := hid (Nat.le_trans h2 (show 100000 ≤ 1000000 by omega))
  have H3 := hid (Nat.le_trans h3 (show 100000 ≤ 1000000 by omega))
  have H4 := hid (Nat.le_trans h4 (show 100000 ≤ 1000000 by omega))
  clear h1 h2 h3 h4
  obtain ⟨a1, c1, rfl, _⟩ := hn1.openI
  obtain ⟨a2, c2, rfl, _⟩ := hd1.openI
  obtain ⟨a3, c3, rfl, _⟩ := hn2.openI
  obtain ⟨a4, c4, rfl, _⟩ := hd2.openI
  clear hn1 hd1 hn2 hd2
  go_enter Tryz.func133, Tryz.ntmps133
  go_wp2_with fail
  obtain ⟨W, hW⟩ : ∃ W, ((w.alloc (.cells #[.bool m1, .slice a1 (limbs n1).length c1, .slice a2 (limbs d1).length c2] 133)).alloc (.cells #[.bool m2, .slice a3 (limbs n2).length c3, .slice a4 (limbs d2).length c4] 133)).alloc (.cells #[.bool false, .slice none 0 0, .slice none 0 0] 133) = W := ⟨_, rfl⟩
  have T := hid (Three.mk' hW)
  rw [hW]
  clear hW
  have hS := T.out.cells (Below.refl _ _).drew
  have B0 := hid (T.out.below.drew)
  have C0 := hid ((Below.refl W.heap.size W).drew)
  refine held_plain [0, 1, 2, 3, 4, 5, 6, 7, 8, 10, 11, 12, 13] 4 (twoF w.heap.size m1 m2 (.slice a1 (limbs n1).length c1) (.slice a2 (limbs d1).length c2) (.slice a3 (limbs n2).length c3) (.slice a4 (limbs d2).length c4)) (by kernel_rfl) (by kernel_rfl) (by kernel_rfl) (by kernel_rfl) hS ?_
  iterate 13
    refine ⟨_, rfl, ?_⟩
    apply Exists.intro
    refine ⟨.inl ⟨by rfl, ?_⟩, ?_⟩
    · (intro W' hW'; obtain ⟨q1, q2, q3, q4, q5, q6⟩ := hW'; go_simp; try (with_reducible rfl))
    (dsimp only [Act.put]; try simp only [List.setIfInBounds_toArray, List.set_cons_zero, List.set_cons_succ])
  clear hS
  refine held_one (i := 9) (by kernel_rfl) (by rfl) (by rfl) ?_
  go_wp2_with fail
  refine (l_Mul _ _ _ n1 n2 (HN1.out.call B0.out) (HN2.out.call B0.out) H1.out H3.out).mono ?_; rintro e w1 ⟨⟨v1, rfl, hv1⟩, hb1⟩
  have B1 := hid (B0.out.trans (hb1.mono B0.out.size)); have C1 := hid (bnext C0.out hb1); have V1 := hid hv1
  clear hb1 hv1
  go_wp2_with fail
  refine ⟨T.out.cells C1.out, ?_⟩
  refine held_one (i := 14) (by kernel_rfl) (by rfl) (by rfl) ?_
  go_wp2_with fail
  refine (l_Mul _ _ _ d1 d2 (HD1.out.call B1.out) (HD2.out.call B1.out) H2.out H4.out).mono ?_; rintro e w2 ⟨⟨v2, rfl, hv2⟩, hb2⟩
  have B2 := hid (B1.out.trans (hb2.mono B1.out.size)); have C2 := hid (bnext C1.out hb2); have V2 := hid hv2; have W1 := hid (V1.out.call hb2)
  clear hb2 hv2
  go_wp2_with fail
  refine ⟨T.out.cells C2.out, ?_⟩
  refine held_one (i := 15) (by kernel_rfl) (by rfl) (by rfl) ?_
  go_wp2_with fail
  refine (f_Make _ _ _ _ (n1 * n2) (d1 * d2) W1.out V2.out hD.out L1.out L2.out).mono ?_; rintro e w3 ⟨⟨v3, rfl, hv3⟩, hb3⟩
  have hbn : (!(m1 == m2)) = (m1 != m2) := rfl
  rw [hbn, HQ.out] at hv3
  clear hbn
  have B3 := hid (B2.out.trans (hb3.mono B2.out.size)); have C3 := hid (bnext C2.out hb3)
  clear hb3
  obtain ⟨N3, D3, rfl, hN3, hD3⟩ := hv3.ex
  obtain ⟨a5, c5, rfl, _⟩ := hN3.openI
  obtain ⟨a6, c6, rfl, _⟩ := hD3.openI
  obtain ⟨k5, hk5⟩ : ∃ k, (limbs Q.num.natAbs).length = k := ⟨_, rfl⟩
  obtain ⟨k6, hk6⟩ : ∃ k, (limbs Q.den).length = k := ⟨_, rfl⟩
  obtain ⟨mq, hmq⟩ : ∃ m, decide (Q.num < 0) = m := ⟨_, rfl⟩
  rw [hk5] at hN3 ⊢
  rw [hk6] at hD3 ⊢
  rw [hmq]
  have HN3 := hid hN3; have HD3 := hid hD3; have HMQ := hid hmq
  have Z := hid (T.out.b2.call C3.out)
  have t0 := Z.out.cell 0
  have t1 := Z.out.cell 1
  have t2 := Z.out.cell 2
  have t3 := Z.out.free 0
  have t4 := Z.out.free 1
  have t5 := Z.out.free 2
  simp at t0 t1 t2
  clear hv3 hN3 hD3 hk5 hk6 hmq
  go_wp2_with fail
  refine ⟨T.out.cells C3.out, ?_⟩
  refine held_one (i := 16) (by kernel_rfl) (by rfl) (by rfl) ?_
  go_wp2_with fail
  refine ⟨T.out.stored C3.out _ _ _, ?_⟩
  refine wpAnyH_done (by kernel_rfl) ?_ _
  simp only [Only]
  obtain ⟨s1, s2⟩ := set3 Z.out mq a5 a6 k5 c5 k6 c6
  have f0 := s2.cell 0
  have f1 := s2.cell 1
  have f2 := s2.cell 2
  simp at f0 f1 f2
  clear t0 t1 t2 t3 t4 t5
  go_wp2_with fail
  refine bodyPost_ret (v := .agg #[.bool mq, .slice a5 k5 c5, .slice a6 k6 c6]) (by simp [results, Tryz.results133, go_sem, f0, f1, f2]) rfl ⟨⟨_, rfl, ⟨.slice a5 k5 c5, .slice a6 k6 c6, by rw [HMQ.out], s1 _ _ _ HN3.out, s1 _ _ _ HD3.out⟩⟩, ?_⟩
  exact ((B3.out.setCell (by simp; omega) _).setCell (by simp; omega) _).setCell (by simp; omega) _
end Go.Proofs.YtckihjfkafdncaaGreatDoor
namespace Go.Proofs.YtckihjfkafdncaaGreatDoor
open Go.RowKit
set_option linter.unusedVariables false
set_option linter.unusedSimpArgs false
theorem q_add_same {p q : Rat} {m : Bool} (h1 : decide (p.num < 0) = m) (h2 : decide (q.num < 0) = m) : qmk m (p.num.natAbs * q.den + q.num.natAbs * p.den) (p.den * q.den) = p + q := by
  rw [q_add, h1, h2, sgn_same]; rfl
theorem q_add_less {p q : Rat} {m1 m2 : Bool} (h1 : decide (p.num < 0) = m1) (h2 : decide (q.num < 0) = m2) (h : m1 ≠ m2) (hl : p.num.natAbs * q.den < q.num.natAbs * p.den) : qmk m2 (q.num.natAbs * p.den - p.num.natAbs * q.den) (p.den * q.den) = p + q := by
  rw [q_add, h1, h2, sgn_less h hl]; rfl
theorem q_add_more {p q : Rat} {m1 m2 : Bool} (h1 : decide (p.num < 0) = m1) (h2 : decide (q.num < 0) = m2) (h : m1 ≠ m2) (hl : q.num.natAbs * p.den ≤ p.num.natAbs * q.den) : qmk m1 (p.num.natAbs * q.den - q.num.natAbs * p.den) (p.den * q.den) = p + q := by
  rw [q_add, h1, h2, sgn_more h hl]; rfl
set_option maxRecDepth 100000 in
set_option maxHeartbeats 4000000 in
theorem f_Add (w : World) (v u : Value) (p q : Rat) (hp : IsQ .u64 w v p) (hq : IsQ .u64 w u q)
    (h1 : (limbs p.num.natAbs).length ≤ 100000) (h2 : (limbs p.den).length ≤ 100000) (h3 : (limbs q.num.natAbs).length ≤ 100000) (h4 : (limbs q.den).length ≤ 100000) :
    Calls Tryz.prog 135 #[v, u] w fun e w' => RetQ .u64 (p + q) e w' ∧ Below w.heap.size w w' := by
  obtain ⟨m1, hm1⟩ : ∃ m, decide (p.num < 0) = m := ⟨_, rfl⟩
  obtain ⟨m2, hm2⟩ : ∃ m, decide (q.num < 0) = m := ⟨_, rfl⟩
  have s1 := fun (e : m1 = m2) => q_add_same (m := m1) hm1 (hm2.trans e.symm)
  have s2 := q_add_less hm1 hm2
  have s3 := q_add_more hm1 hm2
  obtain ⟨Q, hQ⟩ : ∃ Q, p + q = Q := ⟨_, rfl⟩
  rw [hQ] at s1 s2 s3 ⊢
  have hD := hid (Nat.mul_pos p.den_pos q.den_pos)
  obtain ⟨N1, D1, rfl, hn1, hd1⟩ := hp.ex
  obtain ⟨N2, D2, rfl, hn2, hd2⟩ := hq.ex
  rw [hm1, hm2]
  clear hp hq hQ hm1 hm2
  generalize p.num.natAbs = n1 at *
  generalize q.num.natAbs = n2 at *
  generalize p.den = d1 at *
  generalize q.den = d2 at *
  have S1 := hid s1; have S2 := hid s2; have S3 := hid s3
  have HN1 := hid hn1; have HD1 := hid hd1; have HN2 := hid hn2; have HD2 := hid hd2
  have lx := len_mul h1 h4
  have ly := len_mul h3 h2
  have ld := len_mul h2 h4
  have LX := hid (Nat.le_trans lx (show 100000 + 100000 ≤ 200000 by omega)); have LY := hid (Nat.le_trans ly (show 100000 + 100000 ≤ 200000 by omega)); have LD := hid (Nat.le_trans ld (show 100000 + 100000 ≤ 1000000 by omega))
  have LXY := hid (Nat.le_trans (len_add lx ly) (show 100000 + 100000 + (100000 + 100000) + 1 ≤ 1000000 by omega))
  have H1 := hid (Nat.le_trans h1 (show 100000 ≤ 1000000 by omega))
  have H2 := hid (Nat.le_trans h2 (show 100000 ≤ 1000000 by omega))
  have H3 := hid (Nat.le_trans h3 (show 100000 ≤ 1000000 by omega))
  have H4 := hid (Nat.le_trans h4 (show 100000 ≤ 1000000 by omega))
  clear h1 h2 h3 h4 lx ly ld s1 s2 s3
  obtain ⟨a1, c1, rfl, _⟩ := hn1.openI
  obtain ⟨a2, c2, rfl, _⟩ := hd1.openI
  obtain ⟨a3, c3, rfl, _⟩ := hn2.openI
  obtain ⟨a4, c4, rfl, _⟩ := hd2.openI
  clear hn1 hd1 hn2 hd2
  go_enter Tryz.func135, Tryz.ntmps135
  go_wp2_with fail
  obtain ⟨W, hW⟩ : ∃ W, ((w.alloc (.cells #[.bool m1, .slice a1 (limbs n1).length c1, .slice a2 (limbs d1).length c2] 133)).alloc (.cells #[.bool m2, .slice a3 (limbs n2).length c3, .slice a4 (limbs d2).length c4] 133)).alloc (.cells #[.bool false, .slice none 0 0, .slice none 0 0] 133) = W := ⟨_, rfl⟩
  have T := hid (Three.mk' hW)
  rw [hW]
  clear hW
  have hS := T.out.cells (Below.refl _ _).drew
  have B0 := hid (T.out.below.drew)
  have C0 := hid ((Below.refl W.heap.size W).drew)
  refine held_plain [0, 1, 2, 3, 5, 6, 7, 8] 4 (twoF w.heap.size m1 m2 (.slice a1 (limbs n1).length c1) (.slice a2 (limbs d1).length c2) (.slice a3 (limbs n2).length c3) (.slice a4 (limbs d2).length c4)) (by kernel_rfl) (by kernel_rfl) (by kernel_rfl) (by kernel_rfl) hS ?_
  iterate 8
    refine ⟨_, rfl, ?_⟩
    apply Exists.intro
    refine ⟨.inl ⟨by rfl, ?_⟩, ?_⟩
    · (intro W' hW'; obtain ⟨q1, q2, q3, q4, q5, q6⟩ := hW'; go_simp; try (with_reducible rfl))
    (dsimp only [Act.put]; try simp only [List.setIfInBounds_toArray, List.set_cons_zero, List.set_cons_succ])
  clear hS
  refine held_one (i := 4) (by kernel_rfl) (by rfl) (by rfl) ?_
  go_wp2_with fail
  refine (l_Mul _ _ _ n1 d2 (HN1.out.call B0.out) (HD2.out.call B0.out) H1.out H4.out).mono ?_; rintro e w1 ⟨⟨v1, rfl, hv1⟩, hb1⟩
  have B1 := hid (B0.out.trans (hb1.mono B0.out.size)); have C1 := hid (bnext C0.out hb1); have V1 := hid hv1
  clear hb1 hv1
  go_wp2_with fail
  refine ⟨T.out.cells C1.out, ?_⟩
  refine held_one (i := 9) (by kernel_rfl) (by rfl) (by rfl) ?_
  go_wp2_with fail
  refine (l_Mul _ _ _ n2 d1 (HN2.out.call B1.out) (HD1.out.call B1.out) H3.out H2.out).mono ?_; rintro e w2 ⟨⟨v2, rfl, hv2⟩, hb2⟩
  have B2 := hid (B1.out.trans (hb2.mono B1.out.size)); have C2 := hid (bnext C1.out hb2); have V2 := hid hv2; have W1 := hid (V1.out.call hb2)
  clear hb2 hv2
  go_wp2_with fail
  refine ⟨T.out.cells C2.out, ?_⟩
  refine held_more (is := [10, 11]) (g := 0) (by kernel_rfl) rfl (T.out.cells C2.out) (by kernel_rfl) ?_
  iterate 2
    refine ⟨_, rfl, ?_⟩
    apply Exists.intro
    refine ⟨.inl ⟨by rfl, ?_⟩, ?_⟩
    · (intro W' hW'; clear hW'; go_simp; try (with_reducible rfl))
    (dsimp only [Act.put]; try simp only [List.setIfInBounds_toArray, List.set_cons_zero, List.set_cons_succ])
  refine wpAnyH_done (by kernel_rfl) ?_ _
  simp only [Only]
  obtain ⟨k0, k1, k2, k3, k4, k5⟩ := T.out.cells C2.out
  go_wp2_with fail
  refine (l_Mul _ _ _ d1 d2 (HD1.out.call B2.out) (HD2.out.call B2.out) H2.out H4.out).mono ?_; rintro e w3 ⟨⟨v3, rfl, hv3⟩, hb3⟩
  have B3 := hid (B2.out.trans (hb3.mono B2.out.size)); have C3 := hid (bnext C2.out hb3); have V3 := hid hv3; have X1 := hid (W1.out.call hb3); have X2 := hid (V2.out.call hb3)
  clear hb3 hv3 k0 k1 k2 k3 k4 k5
  go_wp2_with fail
  refine (l_Cmp _ _ _ (n1 * d2) (n2 * d1) X1.out X2.out (Nat.le_trans LX.out (by omega))).mono ?_; rintro e w4 ⟨rfl, hb4⟩
  have B4 := hid (B3.out.trans (hb4.mono B3.out.size)); have C4 := hid (bnext C3.out hb4); have V4 := hid (V3.out.call hb4); have Y1 := hid (X1.out.call hb4); have Y2 := hid (X2.out.call hb4)
  clear hb4
  obtain ⟨k0, k1, k2, k3, k4, k5⟩ := T.out.cells C4.out
  clear B0 B1 B2 B3 C0 C1 C2 C3 V1 V2 V3 W1 X1 X2
  obtain ⟨X, hX⟩ : ∃ X, n1 * d2 = X := ⟨_, rfl⟩
  obtain ⟨Y, hY⟩ : ∃ X, n2 * d1 = X := ⟨_, rfl⟩
  obtain ⟨E, hE⟩ : ∃ X, d1 * d2 = X := ⟨_, rfl⟩
  rw [hX] at S1 S2 S3 LX LXY Y1 ⊢
  rw [hY] at S1 S2 S3 LY LXY Y2 ⊢
  rw [hE] at S1 S2 S3 LD V4 hD
  clear hX hY hE
  by_cases em : m1 = m2
  · have SA := hid (S1.out em)
    subst em
    have q0 : (m1 == m1) = true := beq_self_eq_true m1
    go_wp2_with fail
    have hS := T.out.cells C4.out.drew
    have B0 := hid B4.out.drew
    have C0 := hid C4.out.drew
    refine held_plain [0, 1, 2, 3, 5] 3 (twoF w.heap.size m1 m1 (.slice a1 (limbs n1).length c1) (.slice a2 (limbs d1).length c2) (.slice a3 (limbs n2).length c3) (.slice a4 (limbs d2).length c4)) (by kernel_rfl) (by kernel_rfl) (by kernel_rfl) (by kernel_rfl) hS ?_
    iterate 5
      refine ⟨_, rfl, ?_⟩
      apply Exists.intro
      refine ⟨.inl ⟨by rfl, ?_⟩, ?_⟩
      · (intro W' hW'; obtain ⟨q1, q2, q3, q4, q5, q6⟩ := hW'; go_simp; try (with_reducible rfl))
      (dsimp only [Act.put]; try simp only [List.setIfInBounds_toArray, List.set_cons_zero, List.set_cons_succ])
    clear hS
    refine held_one (i := 4) (by kernel_rfl) (by rfl) (by rfl) ?_
    go_wp2_with fail
    refine (l_Add _ _ _ X Y (Y1.out.call (Below.refl _ _).drew) (Y2.out.call (Below.refl _ _).drew) (Nat.le_trans LX.out (by omega)) (Nat.le_trans LY.out (by omega))).mono ?_; rintro e w5 ⟨⟨v5, rfl, hv5⟩, hb5⟩
    have B5 := hid (B0.out.trans (hb5.mono B0.out.size)); have C5 := hid (C0.out.trans (hb5.mono C0.out.size)); have V5 := hid hv5; have E5 := hid (V4.out.call (show Below w4.heap.size w4 w5 from (Below.refl _ _).drew.trans hb5))
    clear hb5 hv5
    go_wp2_with fail
    refine ⟨T.out.cells C5.out, ?_⟩
    refine held_one (i := 6) (by kernel_rfl) (by rfl) (by rfl) ?_
    go_wp2_with fail
    refine (f_Make _ _ _ _ (X + Y) E V5.out E5.out hD.out (LXY.out) LD.out).mono ?_; rintro e w6 ⟨⟨v3, rfl, hv3⟩, hb6⟩
    rw [SA.out] at hv3
    have B6 := hid (B5.out.trans (hb6.mono B5.out.size)); have C6 := hid (C5.out.trans (hb6.mono C5.out.size))
    clear hb6
    obtain ⟨N3, D3, rfl, hN3, hD3⟩ := hv3.ex
    obtain ⟨a5, c5, rfl, _⟩ := hN3.openI
    obtain ⟨a6, c6, rfl, _⟩ := hD3.openI
    obtain ⟨k5, hk5⟩ : ∃ k, (limbs Q.num.natAbs).length = k := ⟨_, rfl⟩
    obtain ⟨k6, hk6⟩ : ∃ k, (limbs Q.den).length = k := ⟨_, rfl⟩
    obtain ⟨mq, hmq⟩ : ∃ m, decide (Q.num < 0) = m := ⟨_, rfl⟩
    rw [hk5] at hN3 ⊢
    rw [hk6] at hD3 ⊢
    rw [hmq]
    have HN3 := hid hN3; have HD3 := hid hD3; have HMQ := hid hmq
    have Z := hid (T.out.b2.call C6.out)
    have t0 := Z.out.cell 0
    have t1 := Z.out.cell 1
    have t2 := Z.out.cell 2
    have t3 := Z.out.free 0
    have t4 := Z.out.free 1
    have t5 := Z.out.free 2
    simp at t0 t1 t2
    clear hv3 hN3 hD3 hk5 hk6 hmq
    go_wp2_with fail
    refine ⟨T.out.cells C6.out, ?_⟩
    refine held_one (i := 7) (by kernel_rfl) (by rfl) (by rfl) ?_
    go_wp2_with fail
    refine ⟨T.out.stored C6.out _ _ _, ?_⟩
    refine wpAnyH_done (by kernel_rfl) ?_ _
    simp only [Only]
    obtain ⟨s1, s2⟩ := set3 Z.out mq a5 a6 k5 c5 k6 c6
    have f0 := s2.cell 0
    have f1 := s2.cell 1
    have f2 := s2.cell 2
    simp at f0 f1 f2
    clear t0 t1 t2 t3 t4 t5
    go_wp2_with fail
    refine bodyPost_ret (v := .agg #[.bool mq, .slice a5 k5 c5, .slice a6 k6 c6]) (by simp [results, Tryz.results135, go_sem, f0, f1, f2]) rfl ⟨⟨_, rfl, ⟨.slice a5 k5 c5, .slice a6 k6 c6, by rw [HMQ.out], s1 _ _ _ HN3.out, s1 _ _ _ HD3.out⟩⟩, ?_⟩
    exact ((B6.out.setCell (by simp; omega) _).setCell (by simp; omega) _).setCell (by simp; omega) _
  · have q0 : (m1 == m2) = false := by simpa using em
    have HE := hid em
    clear em
    by_cases hc : X < Y
    · have HC := hid hc
      rw [ordN_lt hc]
      clear hc
      go_wp2_with fail
      have hS := T.out.cells C4.out.drew
      have B0 := hid B4.out.drew
      have C0 := hid C4.out.drew
      refine held_plain [0, 1, 2, 3, 5] 3 (twoF w.heap.size m1 m2 (.slice a1 (limbs n1).length c1) (.slice a2 (limbs d1).length c2) (.slice a3 (limbs n2).length c3) (.slice a4 (limbs d2).length c4)) (by kernel_rfl) (by kernel_rfl) (by kernel_rfl) (by kernel_rfl) hS ?_
      iterate 5
        refine ⟨_, rfl, ?_⟩
        apply Exists.intro
        refine ⟨.inl ⟨by rfl, ?_⟩, ?_⟩
        · (intro W' hW'; obtain ⟨q1, q2, q3, q4, q5, q6⟩ := hW'; go_simp; try (with_reducible rfl))
        (dsimp only [Act.put]; try simp only [List.setIfInBounds_toArray, List.set_cons_zero, List.set_cons_succ])
      clear hS
      refine held_one (i := 4) (by kernel_rfl) (by rfl) (by rfl) ?_
      go_wp2_with fail
      refine (l_Sub _ _ _ Y X (Y2.out.call (Below.refl _ _).drew) (Y1.out.call (Below.refl _ _).drew) (Nat.le_of_lt HC.out) (Nat.le_trans LY.out (by omega))).mono ?_; rintro e w5 ⟨⟨v5, rfl, hv5⟩, hb5⟩
      have B5 := hid (B0.out.trans (hb5.mono B0.out.size)); have C5 := hid (C0.out.trans (hb5.mono C0.out.size)); have V5 := hid hv5; have E5 := hid (V4.out.call (show Below w4.heap.size w4 w5 from (Below.refl _ _).drew.trans hb5))
      clear hb5 hv5
      go_wp2_with fail
      refine ⟨T.out.cells C5.out, ?_⟩
      refine held_one (i := 6) (by kernel_rfl) (by rfl) (by rfl) ?_
      go_wp2_with fail
      refine (f_Make _ _ _ _ (Y - X) E V5.out E5.out hD.out (Nat.le_trans (limbs_length_mono (Nat.sub_le Y X)) (Nat.le_trans LY.out (by omega))) LD.out).mono ?_; rintro e w6 ⟨⟨v3, rfl, hv3⟩, hb6⟩
      rw [S2.out HE.out HC.out] at hv3
      have B6 := hid (B5.out.trans (hb6.mono B5.out.size)); have C6 := hid (C5.out.trans (hb6.mono C5.out.size))
      clear hb6
      obtain ⟨N3, D3, rfl, hN3, hD3⟩ := hv3.ex
      obtain ⟨a5, c5, rfl, _⟩ := hN3.openI
      obtain ⟨a6, c6, rfl, _⟩ := hD3.openI
      obtain ⟨k5, hk5⟩ : ∃ k, (limbs Q.num.natAbs).length = k := ⟨_, rfl⟩
      obtain ⟨k6, hk6⟩ : ∃ k, (limbs Q.den).length = k := ⟨_, rfl⟩
      obtain ⟨mq, hmq⟩ : ∃ m, decide (Q.num < 0) = m := ⟨_, rfl⟩
      rw [hk5] at hN3 ⊢
      rw [hk6] at hD3 ⊢
      rw [hmq]
      have HN3 := hid hN3; have HD3 := hid hD3; have HMQ := hid hmq
      have Z := hid (T.out.b2.call C6.out)
      have t0 := Z.out.cell 0
      have t1 := Z.out.cell 1
      have t2 := Z.out.cell 2
      have t3 := Z.out.free 0
      have t4 := Z.out.free 1
      have t5 := Z.out.free 2
      simp at t0 t1 t2
      clear hv3 hN3 hD3 hk5 hk6 hmq
      go_wp2_with fail
      refine ⟨T.out.cells C6.out, ?_⟩
      refine held_one (i := 7) (by kernel_rfl) (by rfl) (by rfl) ?_
      go_wp2_with fail
      refine ⟨T.out.stored C6.out _ _ _, ?_⟩
      refine wpAnyH_done (by kernel_rfl) ?_ _
      simp only [Only]
      obtain ⟨s1, s2⟩ := set3 Z.out mq a5 a6 k5 c5 k6 c6
      have f0 := s2.cell 0
      have f1 := s2.cell 1
      have f2 := s2.cell 2
      simp at f0 f1 f2
      clear t0 t1 t2 t3 t4 t5
      go_wp2_with fail
      refine bodyPost_ret (v := .agg #[.bool mq, .slice a5 k5 c5, .slice a6 k6 c6]) (by simp [results, Tryz.results135, go_sem, f0, f1, f2]) rfl ⟨⟨_, rfl, ⟨.slice a5 k5 c5, .slice a6 k6 c6, by rw [HMQ.out], s1 _ _ _ HN3.out, s1 _ _ _ HD3.out⟩⟩, ?_⟩
      exact ((B6.out.setCell (by simp; omega) _).setCell (by simp; omega) _).setCell (by simp; omega) _
    · have HC := hid (show Y ≤ X by omega)
      have q1 : decide (ordN X Y < 0) = false := by
        rcases Nat.lt_or_ge Y X with h | h
        · rw [ordN_gt h]; rfl
        · rw [show X = Y by omega, ordN_eq]; rfl
      clear hc
      go_wp2_with fail
      have hS := T.out.cells C4.out.drew
      have B0 := hid B4.out.drew
      have C0 := hid C4.out.drew
      refine held_plain [0, 1, 2, 3, 5] 3 (twoF w.heap.size m1 m2 (.slice a1 (limbs n1).length c1) (.slice a2 (limbs d1).length c2) (.slice a3 (limbs n2).length c3) (.slice a4 (limbs d2).length c4)) (by kernel_rfl) (by kernel_rfl) (by kernel_rfl) (by kernel_rfl) hS ?_
      iterate 5
        refine ⟨_, rfl, ?_⟩
        apply Exists.intro
        refine ⟨.inl ⟨by rfl, ?_⟩, ?_⟩
        · (intro W' hW'; obtain ⟨q1, q2, q3, q4, q5, q6⟩ := hW'; go_simp; try (with_reducible rfl))
        (dsimp only [Act.put]; try simp only [List.setIfInBounds_toArray, List.set_cons_zero, List.set_cons_succ])
      clear hS
      refine held_one (i := 4) (by kernel_rfl) (by rfl) (by rfl) ?_
      go_wp2_with fail
      refine (l_Sub _ _ _ X Y (Y1.out.call (Below.refl _ _).drew) (Y2.out.call (Below.refl _ _).drew) HC.out (Nat.le_trans LX.out (by omega))).mono ?_; rintro e w5 ⟨⟨v5, rfl, hv5⟩, hb5⟩
      have B5 := hid (B0.out.trans (hb5.mono B0.out.size)); have C5 := hid (C0.out.trans (hb5.mono C0.out.size)); have V5 := hid hv5; have E5 := hid (V4.out.call (show Below w4.heap.size w4 w5 from (Below.refl _ _).drew.trans hb5))
      clear hb5 hv5
      go_wp2_with fail
      refine ⟨T.out.cells C5.out, ?_⟩
      refine held_one (i := 6) (by kernel_rfl) (by rfl) (by rfl) ?_
      go_wp2_with fail
      refine (f_Make _ _ _ _ (X - Y) E V5.out E5.out hD.out (Nat.le_trans (limbs_length_mono (Nat.sub_le X Y)) (Nat.le_trans LX.out (by omega))) LD.out).mono ?_; rintro e w6 ⟨⟨v3, rfl, hv3⟩, hb6⟩
      rw [S3.out HE.out HC.out] at hv3
      have B6 := hid (B5.out.trans (hb6.mono B5.out.size)); have C6 := hid (C5.out.trans (hb6.mono C5.out.size))
      clear hb6
      obtain ⟨N3, D3, rfl, hN3, hD3⟩ := hv3.ex
      obtain ⟨a5, c5, rfl, _⟩ := hN3.openI
      obtain ⟨a6, c6, rfl, _⟩ := hD3.openI
      obtain ⟨k5, hk5⟩ : ∃ k, (limbs Q.num.natAbs).length = k := ⟨_, rfl⟩
      obtain ⟨k6, hk6⟩ : ∃ k, (limbs Q.den).length = k := ⟨_, rfl⟩
      obtain ⟨mq, hmq⟩ : ∃ m, decide (Q.num < 0) = m := ⟨_, rfl⟩
      rw [hk5] at hN3 ⊢
      rw [hk6] at hD3 ⊢
      rw [hmq]
      have HN3 := hid hN3; have HD3 := hid hD3; have HMQ := hid hmq
      have Z := hid (T.out.b2.call C6.out)
      have t0 := Z.out.cell 0
      have t1 := Z.out.cell 1
      have t2 := Z.out.cell 2
      have t3 := Z.out.free 0
      have t4 := Z.out.free 1
      have t5 := Z.out.free 2
      simp at t0 t1 t2
      clear hv3 hN3 hD3 hk5 hk6 hmq
      go_wp2_with fail
      refine ⟨T.out.cells C6.out, ?_⟩
      refine held_one (i := 7) (by kernel_rfl) (by rfl) (by rfl) ?_
      go_wp2_with fail
      refine ⟨T.out.stored C6.out _ _ _, ?_⟩
      refine wpAnyH_done (by kernel_rfl) ?_ _
      simp only [Only]
      obtain ⟨s1, s2⟩ := set3 Z.out mq a5 a6 k5 c5 k6 c6
      have f0 := s2.cell 0
      have f1 := s2.cell 1
      have f2 := s2.cell 2
      simp at f0 f1 f2
      clear t0 t1 t2 t3 t4 t5
      go_wp2_with fail
      refine bodyPost_ret (v := .agg #[.bool mq, .slice a5 k5 c5, .slice a6 k6 c6]) (by simp [results, Tryz.results135, go_sem, f0, f1, f2]) rfl ⟨⟨_, rfl, ⟨.slice a5 k5 c5, .slice a6 k6 c6, by rw [HMQ.out], s1 _ _ _ HN3.out, s1 _ _ _ HD3.out⟩⟩, ?_⟩
      exact ((B6.out.setCell (by simp; omega) _).setCell (by simp; omega) _).setCell (by simp; omega) _
set_option maxRecDepth 100000 in
set_option maxHeartbeats 2000000 in
theorem f_Sub (w : World) (v u : Value) (p q : Rat) (hp : IsQ .u64 w v p) (hq : IsQ .u64 w u q)
    (h1 : (limbs p.num.natAbs).length ≤ 100000) (h2 : (limbs p.den).length ≤ 100000) (h3 : (limbs q.num.natAbs).length ≤ 100000) (h4 : (limbs q.den).length ≤ 100000) :
    Calls Tryz.prog 138 #[v, u] w fun e w' => RetQ .u64 (p - q) e w' ∧ Below w.heap.size w w' := by
  have e1 : p + -q = p - q := (Rat.sub_eq_add_neg p q).symm
  have F1 := fun V v h => hid (f_Neg V v q h)
  have F2 := fun V v u hv hu => hid (f_Add V v u p (-q) hv hu h1 h2 (by rw [Rat.neg_num, Int.natAbs_neg]; exact h3) (by rw [Rat.neg_den]; exact h4))
  rw [e1] at F2
  obtain ⟨Q, hQ⟩ : ∃ Q, p - q = Q := ⟨_, rfl⟩
  rw [hQ] at F2 ⊢
  have HP := hid hp; have HQ' := hid hq
  obtain ⟨N1, D1, rfl, hn1, hd1⟩ := hp.ex
  obtain ⟨N2, D2, rfl, hn2, hd2⟩ := hq.ex
  obtain ⟨a1, c1, rfl, _⟩ := hn1.openI
  obtain ⟨a2, c2, rfl, _⟩ := hd1.openI
  obtain ⟨a3, c3, rfl, _⟩ := hn2.openI
  obtain ⟨a4, c4, rfl, _⟩ := hd2.openI
  clear hp hq hQ e1 hn1 hd1 hn2 hd2 h1 h2 h3 h4
  obtain ⟨m1, hm1⟩ : ∃ m, decide (p.num < 0) = m := ⟨_, rfl⟩
  obtain ⟨m2, hm2⟩ : ∃ m, decide (q.num < 0) = m := ⟨_, rfl⟩
  obtain ⟨l1, hl1⟩ : ∃ m, (limbs p.num.natAbs).length = m := ⟨_, rfl⟩
  obtain ⟨l2, hl2⟩ : ∃ m, (limbs p.den).length = m := ⟨_, rfl⟩
  obtain ⟨l3, hl3⟩ : ∃ m, (limbs q.num.natAbs).length = m := ⟨_, rfl⟩
  obtain ⟨l4, hl4⟩ : ∃ m, (limbs q.den).length = m := ⟨_, rfl⟩
  rw [hm1, hl1, hl2] at HP
  rw [hm2, hl3, hl4] at HQ'
  rw [hm1, hm2, hl1, hl2, hl3, hl4]
  clear hm1 hm2 hl1 hl2 hl3 hl4
  go_enter Tryz.func138, Tryz.ntmps138
  go_wp2_with fail
  obtain ⟨W, hW⟩ : ∃ W, ((w.alloc (.cells #[.bool m1, .slice a1 l1 c1, .slice a2 l2 c2] 133)).alloc (.cells #[.bool m2, .slice a3 l3 c3, .slice a4 l4 c4] 133)).alloc (.cells #[.bool false, .slice none 0 0, .slice none 0 0] 133) = W := ⟨_, rfl⟩
  have T := hid (Three.mk' hW)
  rw [hW]
  clear hW
  have hS := T.out.cells (Below.refl _ _).drew
  have B0 := hid (T.out.below.drew)
  have C0 := hid ((Below.refl W.heap.size W).drew)
  refine held_plain [0, 1] 3 (twoF w.heap.size m1 m2 (.slice a1 l1 c1) (.slice a2 l2 c2) (.slice a3 l3 c3) (.slice a4 l4 c4)) (by kernel_rfl) (by kernel_rfl) (by kernel_rfl) (by kernel_rfl) hS ?_
  iterate 2
    refine ⟨_, rfl, ?_⟩
    apply Exists.intro
    refine ⟨.inl ⟨by rfl, ?_⟩, ?_⟩
    · (intro W' hW'; obtain ⟨q1, q2, q3, q4, q5, q6⟩ := hW'; go_simp; try (with_reducible rfl))
    (dsimp only [Act.put]; try simp only [List.setIfInBounds_toArray, List.set_cons_zero, List.set_cons_succ])
  clear hS
  refine held_one (i := 2) (by kernel_rfl) (by rfl) (by rfl) ?_
  go_wp2_with fail
  refine (F1 _ _ (HQ'.out.call B0.out)).out.mono ?_; rintro e w1 ⟨⟨v1, rfl, hv1⟩, hb1⟩
  have B1 := hid (B0.out.trans (hb1.mono B0.out.size)); have C1 := hid (bnext C0.out hb1); have V1 := hid hv1
  clear hb1 hv1
  go_wp2_with fail
  refine ⟨T.out.cells C1.out, ?_⟩
  refine held_one (i := 3) (by kernel_rfl) (by rfl) (by rfl) ?_
  go_wp2_with fail
  refine (F2 _ _ _ (HP.out.call B1.out) V1.out).out.mono ?_; rintro e w3 ⟨⟨v3, rfl, hv3⟩, hb3⟩
  have B3 := hid (B1.out.trans (hb3.mono B1.out.size)); have C3 := hid (bnext C1.out hb3)
  clear hb3
  obtain ⟨N3, D3, rfl, hN3, hD3⟩ := hv3.ex
  obtain ⟨a5, c5, rfl, _⟩ := hN3.openI
  obtain ⟨a6, c6, rfl, _⟩ := hD3.openI
  obtain ⟨k5, hk5⟩ : ∃ k, (limbs Q.num.natAbs).length = k := ⟨_, rfl⟩
  obtain ⟨k6, hk6⟩ : ∃ k, (limbs Q.den).length = k := ⟨_, rfl⟩
  obtain ⟨mq, hmq⟩ : ∃ m, decide (Q.num < 0) = m := ⟨_, rfl⟩
  rw [hk5] at hN3 ⊢
  rw [hk6] at hD3 ⊢
  rw [hmq]
  have HN3 := hid hN3; have HD3 := hid hD3; have HMQ := hid hmq
  have Z := hid (T.out.b2.call C3.out)
  have t0 := Z.out.cell 0
  have t1 := Z.out.cell 1
  have t2 := Z.out.cell 2
  have t3 := Z.out.free 0
  have t4 := Z.out.free 1
  have t5 := Z.out.free 2
  simp at t0 t1 t2
  clear hv3 hN3 hD3 hk5 hk6 hmq
  go_wp2_with fail
  refine ⟨T.out.cells C3.out, ?_⟩
  refine held_one (i := 4) (by kernel_rfl) (by rfl) (by rfl) ?_
  go_wp2_with fail
  refine ⟨T.out.stored C3.out _ _ _, ?_⟩
  refine wpAnyH_done (by kernel_rfl) ?_ _
  simp only [Only]
  obtain ⟨s1, s2⟩ := set3 Z.out mq a5 a6 k5 c5 k6 c6
  have f0 := s2.cell 0
  have f1 := s2.cell 1
  have f2 := s2.cell 2
  simp at f0 f1 f2
  clear t0 t1 t2 t3 t4 t5
  go_wp2_with fail
  refine bodyPost_ret (v := .agg #[.bool mq, .slice a5 k5 c5, .slice a6 k6 c6]) (by simp [results, Tryz.results138, go_sem, f0, f1, f2]) rfl ⟨⟨_, rfl, ⟨.slice a5 k5 c5, .slice a6 k6 c6, by rw [HMQ.out], s1 _ _ _ HN3.out, s1 _ _ _ HD3.out⟩⟩, ?_⟩
  exact ((B3.out.setCell (by simp; omega) _).setCell (by simp; omega) _).setCell (by simp; omega) _
end Go.Proofs.YtckihjfkafdncaaGreatDoor
namespace Go.Proofs.YtckihjfkafdncaaGreatDoor
open Go.RowKit Go.Shelf
open Go.Lib (decDigits nDigits)
set_option linter.unusedVariables false
set_option linter.unusedSimpArgs false
set_option maxRecDepth 100000 in
set_option maxHeartbeats 1000000 in
theorem q_both (w : World) (s t : ByteArray) (F : Nat) (R : ByteArray) (x : Int) (hs : s.size ≤ 1000000) (ht : t.size ≤ 1000000) (hL : Lay w)
    (hen : ∀ args w, (callFunc F args).run Tryz.prog w = .ok (.enter F args) w)
    (hF : ∀ W v u, qE s = 0 → qE t = 0 → IsQ .u64 W v (vQ s) → IsQ .u64 W u (vQ t) → Lay W → Calls Tryz.prog F #[v, u] W fun e w' => e = .returned (.tuple #[.string R, .int .i64 x]) ∧ Below W.heap.size W w') :
    Calls Tryz.prog 131 #[.string s, .string t, .func (.func F) #[] #[]] w fun e w' => e = .returned (.tuple #[.string (tB R s t), .int .i64 (tE x s t)]) ∧ Below w.heap.size w w' := by
  have HF := hid hF
  have HL := hid hL
  have HEN := hid hen
  have HT := hid ht
  have b1 := hid ((Below.refl w.heap.size w).alloc (Nat.le_refl _) (.cells #[.string t] 22))
  obtain ⟨w1, hw1⟩ : ∃ w1, w.alloc (.cells #[.string t] 22) = w1 := ⟨_, rfl⟩
  obtain ⟨g1, hg1⟩ : ∃ g, w.heap.size = g := ⟨_, rfl⟩
  have X1 := hid (Blk.new w #[.string t] 22)
  rw [hw1] at b1
  rw [hw1, hg1] at X1
  have b2 := hid ((Below.refl w1.heap.size w1).alloc (Nat.le_refl _) (.cells #[.func (.func F) #[] #[]] 159))
  obtain ⟨w2, hw2⟩ : ∃ w2, w1.alloc (.cells #[.func (.func F) #[] #[]] 159) = w2 := ⟨_, rfl⟩
  have X2 := hid (Blk.new w1 #[.func (.func F) #[] #[]] 159)
  have X12 := hid (X1.out.call b2.out)
  have y2 := hid (bnext b1.out b2.out)
  have hg2 : w1.heap.size = g1 + 1 := by rw [← hw1, ← hg1]; simp
  rw [hw2] at b2 X12 y2
  rw [hw2, hg2] at X2
  have L2 := hid (HL.out.call y2.out)
  have W2 := hid (q_with w2 s 189 #[.pointer (some ⟨g1, 0, none⟩), .pointer (some ⟨g1 + 1, 0, none⟩)] (wB R t) (wE x t) hs L2.out (enters_of Tryz.func189 (by kernel_rfl) rfl)
    (fun W v hq hb hv hLW => by
      have hX1 := (X12.out.call hb).cell 0
      have hX2 := (X2.out.call hb).cell 0
      exact q_both1 W v t (vQ s) F g1 (g1 + 1) R x HT.out hv hLW HEN.out hX1 hX2 (fun W v u h0 h1 h2 h3 => HF.out W v u hq h0 h1 h2 h3)))
  have HW1 := hid hw1; have HW2 := hid hw2; have HG1 := hid hg1
  clear hF hL hen hs ht hw1 hw2 hg1 hg2 b1
  go_enter Tryz.func131, Tryz.ntmps131
  go_wp2_with fail
  have hw1 := HW1.out; have hw2 := HW2.out; have hg1 := HG1.out
  rw [hw1, hg1, hw2]
  refine W2.out.mono ?_; rintro e w3 ⟨rfl, hb3⟩
  have y3 := hid (bnext y2.out hb3)
  clear hb3 hw1 hw2 hg1
  go_wp2_with fail
  go_ret2
  exact ⟨rfl, by have := y3.out; exact this⟩
end Go.Proofs.YtckihjfkafdncaaGreatDoor
namespace Go.Proofs.YtckihjfkafdncaaGreatDoor
open Go.RowKit Go.Shelf
open Go.Lib (decDigits nDigits)
set_option linter.unusedVariables false
set_option linter.unusedSimpArgs false
structure Sml (K : Nat) (q : Rat) : Prop where
  n : (limbs q.num.natAbs).length ≤ K
  d : (limbs q.den).length ≤ K
theorem sml_vQ {s : ByteArray} (h : qE s = 0) : Sml 1000 (vQ s) := by
  obtain ⟨-, e2, e3⟩ := vQ_ok h
  obtain ⟨-, -, -, l1, l2, -⟩ := valid h
  exact ⟨by rw [e2]; exact Nat.le_trans (limbs_of_digits l1) (by omega), by rw [e3]; exact Nat.le_trans (limbs_of_digits l2) (by omega)⟩
theorem Sml.up {K L : Nat} {q : Rat} (h : Sml K q) (hl : K ≤ L) : Sml L q := ⟨Nat.le_trans h.n hl, Nat.le_trans h.d hl⟩
theorem sml_neg {K : Nat} {q : Rat} (h : Sml K q) : Sml K (-q) := ⟨by rw [Rat.neg_num, Int.natAbs_neg]; exact h.n, by rw [Rat.neg_den]; exact h.d⟩
theorem sml_mk {K : Nat} {z : Int} {d : Nat} (hd : 0 < d) (h1 : (limbs z.natAbs).length ≤ K) (h2 : (limbs d).length ≤ K) : Sml K (mkRat z d) := by
  refine ⟨?_, ?_⟩
  · rw [Rat.num_mkRat, if_neg (by omega)]
    refine Nat.le_trans (limbs_length_mono ?_) h1
    exact Int.natAbs_ediv_le_natAbs _ _
  · rw [Rat.den_mkRat, if_neg (by omega)]
    exact Nat.le_trans (limbs_length_mono (Nat.div_le_self _ _)) h2
theorem sml_mulK {K L : Nat} {p q : Rat} (hp : Sml K p) (hq : Sml L q) : Sml (K + L) (p * q) := by
  rw [← qmk_mul]
  unfold qmk
  exact sml_mk (Nat.mul_pos p.den_pos q.den_pos) (by rw [sgn_natAbs]; exact limbs_mul hp.n hq.n) (limbs_mul hp.d hq.d)
theorem sml_addK {K L : Nat} {p q : Rat} (hp : Sml K p) (hq : Sml L q) : Sml (K + L + (K + L) + 1) (p + q) := by
  rw [q_add]
  refine sml_mk (Nat.mul_pos p.den_pos q.den_pos) ?_ (Nat.le_trans (limbs_mul hp.d hq.d) (by omega))
  refine Nat.le_trans (limbs_length_mono (sgn_abs_le _ _ _ _)) ?_
  exact Nat.le_trans (len_add (limbs_mul hp.n hq.d) (limbs_mul hq.n hp.d)) (by omega)
theorem sml_mul {p q : Rat} (hp : Sml 1000 p) (hq : Sml 1000 q) : Sml 10000 (p * q) := (sml_mulK hp hq).up (by omega)
theorem sml_add {p q : Rat} (hp : Sml 1000 p) (hq : Sml 1000 q) : Sml 10000 (p + q) := (sml_addK hp hq).up (by omega)
theorem sml_sub {p q : Rat} (hp : Sml 1000 p) (hq : Sml 1000 q) : Sml 10000 (p - q) := by rw [Rat.sub_eq_add_neg]; exact sml_add hp (sml_neg hq)
theorem t2B {f : Rat → Rat → Rat} {s t : ByteArray} : tB (outB (f (vQ s) (vQ t))) s t = op2B f s t := by
  unfold tB wB op2B
  by_cases h1 : qE s = 0 <;> by_cases h2 : qE t = 0 <;> simp [h1, h2]
theorem t2E {f : Rat → Rat → Rat} {s t : ByteArray} : tE (outE (f (vQ s) (vQ t))) s t = op2E f s t := by
  unfold tE wE op2E
  by_cases h1 : qE s = 0 <;> by_cases h2 : qE t = 0 <;> simp [h1, h2]
set_option maxRecDepth 100000 in
set_option maxHeartbeats 1000000 in
theorem q_Mul1 (w : World) (v u : Value) (p q : Rat) (hp : IsQ .u64 w v p) (hq : IsQ .u64 w u q) (sp : Sml 1000 p) (sq : Sml 1000 q) (hL : Lay w) :
    Calls Tryz.prog 132 #[v, u] w fun e w' => e = .returned (.tuple #[.string (outB (p * q)), .int .i64 (outE (p * q))]) ∧ Below w.heap.size w w' := by
  have F1 := fun V v u hv hu => hid (f_Mul V v u p q hv hu (Nat.le_trans sp.n (by omega)) (Nat.le_trans sp.d (by omega)) (Nat.le_trans sq.n (by omega)) (Nat.le_trans sq.d (by omega)))
  have SQ := sml_mul sp sq
  have F2 := fun V v hv hV => hid (f_Num V v (p * q) hv (Nat.le_trans SQ.n (by omega)) (Nat.le_trans SQ.d (by omega)) hV)
  obtain ⟨Q, hQ⟩ : ∃ Q, p * q = Q := ⟨_, rfl⟩
  rw [hQ] at F1 F2 ⊢
  have HL := hid hL
  obtain ⟨N1, D1, rfl, hn1, hd1⟩ := hp.ex
  obtain ⟨N2, D2, rfl, hn2, hd2⟩ := hq.ex
  obtain ⟨a1, c1, rfl, _⟩ := hn1.openI
  obtain ⟨a2, c2, rfl, _⟩ := hd1.openI
  obtain ⟨a3, c3, rfl, _⟩ := hn2.openI
  obtain ⟨a4, c4, rfl, _⟩ := hd2.openI
  obtain ⟨k1, hk1⟩ : ∃ k, (limbs p.num.natAbs).length = k := ⟨_, rfl⟩
  obtain ⟨k2, hk2⟩ : ∃ k, (limbs p.den).length = k := ⟨_, rfl⟩
  obtain ⟨k3, hk3⟩ : ∃ k, (limbs q.num.natAbs).length = k := ⟨_, rfl⟩
  obtain ⟨k4, hk4⟩ : ∃ k, (limbs q.den).length = k := ⟨_, rfl⟩
  obtain ⟨m1, hm1⟩ : ∃ m, decide (p.num < 0) = m := ⟨_, rfl⟩
  obtain ⟨m2, hm2⟩ : ∃ m, decide (q.num < 0) = m := ⟨_, rfl⟩
  rw [hk1, hk2, hm1] at hp ⊢
  rw [hk3, hk4, hm2] at hq ⊢
  have X1 := hid (Blk.new w #[.bool m1, .slice a1 k1 c1, .slice a2 k2 c2] 133)
  have b1 := hid ((Below.refl w.heap.size w).alloc (Nat.le_refl _) (.cells #[.bool m1, .slice a1 k1 c1, .slice a2 k2 c2] 133))
  have Y1 := hid (X1.out.alloc (.cells #[.bool m2, .slice a3 k3 c3, .slice a4 k4 c4] 133))
  have X2 := hid (Blk.new (w.alloc (.cells #[.bool m1, .slice a1 k1 c1, .slice a2 k2 c2] 133)) #[.bool m2, .slice a3 k3 c3, .slice a4 k4 c4] 133)
  have b2 := hid (b1.out.alloc b1.out.size (.cells #[.bool m2, .slice a3 k3 c3, .slice a4 k4 c4] 133))
  have P2 := hid (hp.call b2.out)
  have Q2 := hid (hq.call b2.out)
  have r0 := Y1.out.cell 0
  have r1 := Y1.out.cell 1
  have r2 := Y1.out.cell 2
  have s0 := X2.out.cell 0
  have s1 := X2.out.cell 1
  have s2 := X2.out.cell 2
  simp at r0 r1 r2 s0 s1 s2
  clear hk1 hk2 hk3 hk4 hm1 hm2 hn1 hn2 hd1 hd2 hp hq hL sp sq SQ hQ
  go_enter Tryz.func132, Tryz.ntmps132
  go_wp2_with fail
  refine (F1 _ _ _ P2.out Q2.out).out.mono ?_; rintro e w3 ⟨⟨v3, rfl, hv3⟩, hb3⟩
  have y3 := hid (bnext b2.out hb3)
  obtain ⟨N3, D3, rfl, hn3, hd3⟩ := hv3.ex
  obtain ⟨a5, c5, rfl, _⟩ := hn3.openI
  obtain ⟨a6, c6, rfl, _⟩ := hd3.openI
  obtain ⟨k5, hk5⟩ : ∃ k, (limbs Q.num.natAbs).length = k := ⟨_, rfl⟩
  obtain ⟨k6, hk6⟩ : ∃ k, (limbs Q.den).length = k := ⟨_, rfl⟩
  obtain ⟨m3, hm3⟩ : ∃ m, decide (Q.num < 0) = m := ⟨_, rfl⟩
  rw [hk5, hk6, hm3] at hv3 ⊢
  have V3 := hid hv3
  clear hb3 hv3 hn3 hd3 hk5 hk6 hm3
  go_wp2_with fail
  refine (F2 _ _ V3.out (HL.out.call y3.out)).out.mono ?_; rintro e w4 ⟨rfl, hb4⟩
  have y4 := hid (bnext y3.out hb4); clear hb4
  go_wp2_with fail
  go_ret2
  exact ⟨rfl, y4.out⟩
set_option maxRecDepth 100000 in
set_option maxHeartbeats 1000000 in
theorem q_Mul (w : World) (s t : ByteArray) (hs : s.size ≤ 1000000) (ht : t.size ≤ 1000000) (hL : Lay w) :
    Calls Tryz.prog 82 #[.string s, .string t] w fun e w' => e = .returned (.tuple #[.string (op2B (· * ·) s t), .int .i64 (op2E (· * ·) s t)]) ∧ Below w.heap.size w w' := by
  have H := hid (q_both w s t 132 (outB (vQ s * vQ t)) (outE (vQ s * vQ t)) hs ht hL (enters_of Tryz.func132 (by kernel_rfl) rfl)
    (fun W v u h1 h2 hv hu hLW => q_Mul1 W v u _ _ hv hu (sml_vQ h1) (sml_vQ h2) hLW))
  rw [t2B, t2E (f := (· * ·))] at H
  obtain ⟨B, hB⟩ : ∃ B, op2B (· * ·) s t = B := ⟨_, rfl⟩
  obtain ⟨E, hE⟩ : ∃ E, op2E (· * ·) s t = E := ⟨_, rfl⟩
  rw [hB, hE] at H ⊢
  clear hB hE hs ht hL
  go_enter Tryz.func82, Tryz.ntmps82
  go_wp2_with fail
  refine H.out.mono ?_; rintro e w1 ⟨rfl, hb1⟩
  have y1 := hid hb1; clear hb1
  go_wp2_with fail
  go_ret2
  exact ⟨rfl, y1.out⟩
set_option maxRecDepth 100000 in
set_option maxHeartbeats 1000000 in
theorem q_Add1 (w : World) (v u : Value) (p q : Rat) (hp : IsQ .u64 w v p) (hq : IsQ .u64 w u q) (sp : Sml 1000 p) (sq : Sml 1000 q) (hL : Lay w) :
    Calls Tryz.prog 134 #[v, u] w fun e w' => e = .returned (.tuple #[.string (outB (p + q)), .int .i64 (outE (p + q))]) ∧ Below w.heap.size w w' := by
  have F1 := fun V v u hv hu => hid (f_Add V v u p q hv hu (Nat.le_trans sp.n (by omega)) (Nat.le_trans sp.d (by omega)) (Nat.le_trans sq.n (by omega)) (Nat.le_trans sq.d (by omega)))
  have SQ := sml_add sp sq
  have F2 := fun V v hv hV => hid (f_Num V v (p + q) hv (Nat.le_trans SQ.n (by omega)) (Nat.le_trans SQ.d (by omega)) hV)
  obtain ⟨Q, hQ⟩ : ∃ Q, p + q = Q := ⟨_, rfl⟩
  rw [hQ] at F1 F2 ⊢
  have HL := hid hL
  obtain ⟨N1, D1, rfl, hn1, hd1⟩ := hp.ex
  obtain ⟨N2, D2, rfl, hn2, hd2⟩ := hq.ex
  obtain ⟨a1, c1, rfl, _⟩ := hn1.openI
  obtain ⟨a2, c2, rfl, _⟩ := hd1.openI
  obtain ⟨a3, c3, rfl, _⟩ := hn2.openI
  obtain ⟨a4, c4, rfl, _⟩ := hd2.openI
  obtain ⟨k1, hk1⟩ : ∃ k, (limbs p.num.natAbs).length = k := ⟨_, rfl⟩
  obtain ⟨k2, hk2⟩ : ∃ k, (limbs p.den).length = k := ⟨_, rfl⟩
  obtain ⟨k3, hk3⟩ : ∃ k, (limbs q.num.natAbs).length = k := ⟨_, rfl⟩
  obtain ⟨k4, hk4⟩ : ∃ k, (limbs q.den).length = k := ⟨_, rfl⟩
  obtain ⟨m1, hm1⟩ : ∃ m, decide (p.num < 0) = m := ⟨_, rfl⟩
  obtain ⟨m2, hm2⟩ : ∃ m, decide (q.num < 0) = m := ⟨_, rfl⟩
  rw [hk1, hk2, hm1] at hp ⊢
  rw [hk3, hk4, hm2] at hq ⊢
  have X1 := hid (Blk.new w #[.bool m1, .slice a1 k1 c1, .slice a2 k2 c2] 133)
  have b1 := hid ((Below.refl w.heap.size w).alloc (Nat.le_refl _) (.cells #[.bool m1, .slice a1 k1 c1, .slice a2 k2 c2] 133))
  have Y1 := hid (X1.out.alloc (.cells #[.bool m2, .slice a3 k3 c3, .slice a4 k4 c4] 133))
  have X2 := hid (Blk.new (w.alloc (.cells #[.bool m1, .slice a1 k1 c1, .slice a2 k2 c2] 133)) #[.bool m2, .slice a3 k3 c3, .slice a4 k4 c4] 133)
  have b2 := hid (b1.out.alloc b1.out.size (.cells #[.bool m2, .slice a3 k3 c3, .slice a4 k4 c4] 133))
  have P2 := hid (hp.call b2.out)
  have Q2 := hid (hq.call b2.out)
  have r0 := Y1.out.cell 0
  have r1 := Y1.out.cell 1
  have r2 := Y1.out.cell 2
  have s0 := X2.out.cell 0
  have s1 := X2.out.cell 1
  have s2 := X2.out.cell 2
  simp at r0 r1 r2 s0 s1 s2
  clear hk1 hk2 hk3 hk4 hm1 hm2 hn1 hn2 hd1 hd2 hp hq hL sp sq SQ hQ
  go_enter Tryz.func134, Tryz.ntmps134
  go_wp2_with fail
  refine (F1 _ _ _ P2.out Q2.out).out.mono ?_; rintro e w3 ⟨⟨v3, rfl, hv3⟩, hb3⟩
  have y3 := hid (bnext b2.out hb3)
  obtain ⟨N3, D3, rfl, hn3, hd3⟩ := hv3.ex
  obtain ⟨a5, c5, rfl, _⟩ := hn3.openI
  obtain ⟨a6, c6, rfl, _⟩ := hd3.openI
  obtain ⟨k5, hk5⟩ : ∃ k, (limbs Q.num.natAbs).length = k := ⟨_, rfl⟩
  obtain ⟨k6, hk6⟩ : ∃ k, (limbs Q.den).length = k := ⟨_, rfl⟩
  obtain ⟨m3, hm3⟩ : ∃ m, decide (Q.num < 0) = m := ⟨_, rfl⟩
  rw [hk5, hk6, hm3] at hv3 ⊢
  have V3 := hid hv3
  clear hb3 hv3 hn3 hd3 hk5 hk6 hm3
  go_wp2_with fail
  refine (F2 _ _ V3.out (HL.out.call y3.out)).out.mono ?_; rintro e w4 ⟨rfl, hb4⟩
  have y4 := hid (bnext y3.out hb4); clear hb4
  go_wp2_with fail
  go_ret2
  exact ⟨rfl, y4.out⟩
set_option maxRecDepth 100000 in
set_option maxHeartbeats 1000000 in
theorem q_Add (w : World) (s t : ByteArray) (hs : s.size ≤ 1000000) (ht : t.size ≤ 1000000) (hL : Lay w) :
    Calls Tryz.prog 83 #[.string s, .string t] w fun e w' => e = .returned (.tuple #[.string (op2B (· + ·) s t), .int .i64 (op2E (· + ·) s t)]) ∧ Below w.heap.size w w' := by
  have H := hid (q_both w s t 134 (outB (vQ s + vQ t)) (outE (vQ s + vQ t)) hs ht hL (enters_of Tryz.func134 (by kernel_rfl) rfl)
    (fun W v u h1 h2 hv hu hLW => q_Add1 W v u _ _ hv hu (sml_vQ h1) (sml_vQ h2) hLW))
  rw [t2B, t2E (f := (· + ·))] at H
  obtain ⟨B, hB⟩ : ∃ B, op2B (· + ·) s t = B := ⟨_, rfl⟩
  obtain ⟨E, hE⟩ : ∃ E, op2E (· + ·) s t = E := ⟨_, rfl⟩
  rw [hB, hE] at H ⊢
  clear hB hE hs ht hL
  go_enter Tryz.func83, Tryz.ntmps83
  go_wp2_with fail
  refine H.out.mono ?_; rintro e w1 ⟨rfl, hb1⟩
  have y1 := hid hb1; clear hb1
  go_wp2_with fail
  go_ret2
  exact ⟨rfl, y1.out⟩
set_option maxRecDepth 100000 in
set_option maxHeartbeats 1000000 in
theorem q_Sub1 (w : World) (v u : Value) (p q : Rat) (hp : IsQ .u64 w v p) (hq : IsQ .u64 w u q) (sp : Sml 1000 p) (sq : Sml 1000 q) (hL : Lay w) :
    Calls Tryz.prog 137 #[v, u] w fun e w' => e = .returned (.tuple #[.string (outB (p - q)), .int .i64 (outE (p - q))]) ∧ Below w.heap.size w w' := by
  have F1 := fun V v u hv hu => hid (f_Sub V v u p q hv hu (Nat.le_trans sp.n (by omega)) (Nat.le_trans sp.d (by omega)) (Nat.le_trans sq.n (by omega)) (Nat.le_trans sq.d (by omega)))
  have SQ := sml_sub sp sq
  have F2 := fun V v hv hV => hid (f_Num V v (p - q) hv (Nat.le_trans SQ.n (by omega)) (Nat.le_trans SQ.d (by omega)) hV)
  obtain ⟨Q, hQ⟩ : ∃ Q, p - q = Q := ⟨_, rfl⟩
  rw [hQ] at F1 F2 ⊢
  have HL := hid hL
  obtain ⟨N1, D1, rfl, hn1, hd1⟩ := hp.ex
  obtain ⟨N2, D2, rfl, hn2, hd2⟩ := hq.ex
  obtain ⟨a1, c1, rfl, _⟩ := hn1.openI
  obtain ⟨a2, c2, rfl, _⟩ := hd1.openI
  obtain ⟨a3, c3, rfl, _⟩ := hn2.openI
  obtain ⟨a4, c4, rfl, _⟩ := hd2.openI
  obtain ⟨k1, hk1⟩ : ∃ k, (limbs p.num.natAbs).length = k := ⟨_, rfl⟩
  obtain ⟨k2, hk2⟩ : ∃ k, (limbs p.den).length = k := ⟨_, rfl⟩
  obtain ⟨k3, hk3⟩ : ∃ k, (limbs q.num.natAbs).length = k := ⟨_, rfl⟩
  obtain ⟨k4, hk4⟩ : ∃ k, (limbs q.den).length = k := ⟨_, rfl⟩
  obtain ⟨m1, hm1⟩ : ∃ m, decide (p.num < 0) = m := ⟨_, rfl⟩
  obtain ⟨m2, hm2⟩ : ∃ m, decide (q.num < 0) = m := ⟨_, rfl⟩
  rw [hk1, hk2, hm1] at hp ⊢
  rw [hk3, hk4, hm2] at hq ⊢
  have X1 := hid (Blk.new w #[.bool m1, .slice a1 k1 c1, .slice a2 k2 c2] 133)
  have b1 := hid ((Below.refl w.heap.size w).alloc (Nat.le_refl _) (.cells #[.bool m1, .slice a1 k1 c1, .slice a2 k2 c2] 133))
  have Y1 := hid (X1.out.alloc (.cells #[.bool m2, .slice a3 k3 c3, .slice a4 k4 c4] 133))
  have X2 := hid (Blk.new (w.alloc (.cells #[.bool m1, .slice a1 k1 c1, .slice a2 k2 c2] 133)) #[.bool m2, .slice a3 k3 c3, .slice a4 k4 c4] 133)
  have b2 := hid (b1.out.alloc b1.out.size (.cells #[.bool m2, .slice a3 k3 c3, .slice a4 k4 c4] 133))
  have P2 := hid (hp.call b2.out)
  have Q2 := hid (hq.call b2.out)
  have r0 := Y1.out.cell 0
  have r1 := Y1.out.cell 1
  have r2 := Y1.out.cell 2
  have s0 := X2.out.cell 0
  have s1 := X2.out.cell 1
  have s2 := X2.out.cell 2
  simp at r0 r1 r2 s0 s1 s2
  clear hk1 hk2 hk3 hk4 hm1 hm2 hn1 hn2 hd1 hd2 hp hq hL sp sq SQ hQ
  go_enter Tryz.func137, Tryz.ntmps137
  go_wp2_with fail
  refine (F1 _ _ _ P2.out Q2.out).out.mono ?_; rintro e w3 ⟨⟨v3, rfl, hv3⟩, hb3⟩
  have y3 := hid (bnext b2.out hb3)
  obtain ⟨N3, D3, rfl, hn3, hd3⟩ := hv3.ex
  obtain ⟨a5, c5, rfl, _⟩ := hn3.openI
  obtain ⟨a6, c6, rfl, _⟩ := hd3.openI
  obtain ⟨k5, hk5⟩ : ∃ k, (limbs Q.num.natAbs).length = k := ⟨_, rfl⟩
  obtain ⟨k6, hk6⟩ : ∃ k, (limbs Q.den).length = k := ⟨_, rfl⟩
  obtain ⟨m3, hm3⟩ : ∃ m, decide (Q.num < 0) = m := ⟨_, rfl⟩
  rw [hk5, hk6, hm3] at hv3 ⊢
  have V3 := hid hv3
  clear hb3 hv3 hn3 hd3 hk5 hk6 hm3
  go_wp2_with fail
  refine (F2 _ _ V3.out (HL.out.call y3.out)).out.mono ?_; rintro e w4 ⟨rfl, hb4⟩
  have y4 := hid (bnext y3.out hb4); clear hb4
  go_wp2_with fail
  go_ret2
  exact ⟨rfl, y4.out⟩
set_option maxRecDepth 100000 in
set_option maxHeartbeats 1000000 in
theorem q_Sub (w : World) (s t : ByteArray) (hs : s.size ≤ 1000000) (ht : t.size ≤ 1000000) (hL : Lay w) :
    Calls Tryz.prog 85 #[.string s, .string t] w fun e w' => e = .returned (.tuple #[.string (op2B (· - ·) s t), .int .i64 (op2E (· - ·) s t)]) ∧ Below w.heap.size w w' := by
  have H := hid (q_both w s t 137 (outB (vQ s - vQ t)) (outE (vQ s - vQ t)) hs ht hL (enters_of Tryz.func137 (by kernel_rfl) rfl)
    (fun W v u h1 h2 hv hu hLW => q_Sub1 W v u _ _ hv hu (sml_vQ h1) (sml_vQ h2) hLW))
  rw [t2B, t2E (f := (· - ·))] at H
  obtain ⟨B, hB⟩ : ∃ B, op2B (· - ·) s t = B := ⟨_, rfl⟩
  obtain ⟨E, hE⟩ : ∃ E, op2E (· - ·) s t = E := ⟨_, rfl⟩
  rw [hB, hE] at H ⊢
  clear hB hE hs ht hL
  go_enter Tryz.func85, Tryz.ntmps85
  go_wp2_with fail
  refine H.out.mono ?_; rintro e w1 ⟨rfl, hb1⟩
  have y1 := hid hb1; clear hb1
  go_wp2_with fail
  go_ret2
  exact ⟨rfl, y1.out⟩
end Go.Proofs.YtckihjfkafdncaaGreatDoor
namespace Go.Proofs.YtckihjfkafdncaaGreatDoor
open Go.RowKit Go.Shelf
open Go.Lib (decDigits nDigits)
set_option linter.unusedVariables false
set_option linter.unusedSimpArgs false
theorem sml_inv {K : Nat} {q : Rat} (h0 : q ≠ 0) (h : Sml K q) : Sml K q⁻¹ := ⟨by rw [(inv_num h0).2.1]; exact h.d, by rw [(inv_num h0).2.2]; exact h.n⟩
theorem sg_ne {q : Rat} (h : q ≠ 0) : (sgQ q == 0) = false := by
  rw [beq_eq_false_iff_ne]
  have : q.num ≠ 0 := fun e => h (Rat.num_eq_zero.1 e)
  unfold sgQ
  repeat' split
  all_goals first | omega | (intro h; omega) | simp_all
end Go.Proofs.YtckihjfkafdncaaGreatDoor
namespace Go.Proofs.YtckihjfkafdncaaGreatDoor
open Go.RowKit Go.Shelf
open Go.Lib (decDigits nDigits)
set_option linter.unusedVariables false
set_option linter.unusedSimpArgs false
theorem sgn_pow (m : Bool) (a : Nat) : ∀ n : Nat, (sgn m a) ^ n = sgn (m && decide (n % 2 = 1)) (a ^ n)
  | 0 => by simp [sgn]
  | n + 1 => by
    rw [Int.pow_succ, sgn_pow m a n, Nat.pow_succ]
    rcases Nat.mod_two_eq_zero_or_one n with h | h
    · have e : (n + 1) % 2 = 1 := by omega
      cases m <;> simp [sgn, h, e, Int.mul_neg]
    · have e : (n + 1) % 2 = 0 := by omega
      cases m <;> simp [sgn, h, e, Int.mul_neg, Int.neg_mul]
theorem pow_parts (q : Rat) (n : Nat) : decide ((q ^ n).num < 0) = (decide (q.num < 0) && decide (n % 2 = 1)) ∧ (q ^ n).num.natAbs = q.num.natAbs ^ n ∧ (q ^ n).den = q.den ^ n := by
  have h1 : (q ^ n).num = sgn (decide (q.num < 0) && decide (n % 2 = 1)) (q.num.natAbs ^ n) := by
    rw [Rat.num_pow, ← sgn_pow, sgn_of]
  refine ⟨?_, by rw [h1, sgn_natAbs], Rat.den_pow q n⟩
  rw [h1]
  by_cases hq : q.num < 0
  · rw [sgn_neg (Nat.pow_pos (by omega))]
  · have : decide (q.num < 0) = false := by simpa using hq
    rw [this]
    simp [sgn]
    exact Int.natCast_nonneg _
theorem pow_over {q : Rat} {n : Nat} (h : 4000 < nDigits (q.num.natAbs ^ n) ∨ 4000 < nDigits (q.den ^ n)) : outB (q ^ n) = ⟨#[]⟩ ∧ outE (q ^ n) = 5 := by
  obtain ⟨-, h2, h3⟩ := pow_parts q n
  have : ovQ (q ^ n) := by unfold ovQ; rw [h2, h3]; exact h
  exact ⟨if_pos this, if_pos this⟩
set_option maxRecDepth 100000 in
set_option maxHeartbeats 1000000 in
theorem q_Pow1 (w : World) (v : Value) (q : Rat) (n g1 : Nat) (hp : IsQ .u64 w v q) (sp : Sml 1000 q) (hn : n ≤ 9223372036854775807) (hL : Lay w) (c1 : w.cell? ⟨g1, 0, none⟩ = some (.int .i64 (n : Nat))) :
    Calls Tryz.prog 103 #[v, .pointer (some ⟨g1, 0, none⟩)] w fun e w' => e = .returned (.tuple #[.string (outB (q ^ n)), .int .i64 (outE (q ^ n))]) ∧ Below w.heap.size w w' := by
  have F1 := fun V v hv hV => hid (l_Pow V v q.num.natAbs n hv (Nat.le_trans sp.n (by omega)) (by omega) hV)
  have F2 := fun V v hv hV => hid (l_Pow V v q.den n hv (Nat.le_trans sp.d (by omega)) (by omega) hV)
  obtain ⟨e1, e2, e3⟩ := pow_parts q n
  have HOV := hid (fun h => pow_over (q := q) (n := n) h)
  have F3 := fun V v hv hV (h1 : nDigits (q.num.natAbs ^ n) ≤ 4000) (h2 : nDigits (q.den ^ n) ≤ 4000) => hid (f_Num V v (q ^ n) hv (by rw [e2]; exact Nat.le_trans (limbs_of_digits h1) (by omega)) (by rw [e3]; exact Nat.le_trans (limbs_of_digits h2) (by omega)) hV)
  obtain ⟨B, hB⟩ : ∃ B, outB (q ^ n) = B := ⟨_, rfl⟩
  obtain ⟨E, hE⟩ : ∃ E, outE (q ^ n) = E := ⟨_, rfl⟩
  rw [hB, hE] at F3 HOV ⊢
  clear hB hE
  have HL := hid hL
  obtain ⟨N1, D1, rfl, hn1, hd1⟩ := hp.ex
  obtain ⟨a1, c1', rfl, _⟩ := hn1.openI
  obtain ⟨a2, c2', rfl, _⟩ := hd1.openI
  obtain ⟨k1, hk1⟩ : ∃ k, (limbs q.num.natAbs).length = k := ⟨_, rfl⟩
  obtain ⟨k2, hk2⟩ : ∃ k, (limbs q.den).length = k := ⟨_, rfl⟩
  obtain ⟨m1, hm1⟩ : ∃ m, decide (q.num < 0) = m := ⟨_, rfl⟩
  rw [hk1, hk2, hm1] at hp ⊢
  rw [hk1] at hn1
  rw [hk2] at hd1
  rw [hm1] at e1
  have X1 := hid (Blk.new w #[.bool m1, .slice a1 k1 c1', .slice a2 k2 c2'] 133)
  have b1 := hid ((Below.refl w.heap.size w).alloc (Nat.le_refl _) (.cells #[.bool m1, .slice a1 k1 c1', .slice a2 k2 c2'] 133))
  have N2 := hid (hn1.call b1.out)
  have D2 := hid (hd1.call b1.out)
  have r0 := X1.out.cell 0
  have r1 := X1.out.cell 1
  have r2 := X1.out.cell 2
  have C1 := (b1.out.cell (cell_lt c1)).trans c1
  simp at r0 r1 r2
  have q0 : decide ((n : Int) < 0) = false := by simp
  have w0 : IntKind.u64.wrap (n : Int) = (n : Int) := IntWalk.u64_in _ ⟨by omega, by omega⟩
  have E1 := hid e1; have E2 := hid e2; have E3 := hid e3; have HN := hid hn
  clear hk1 hk2 hm1 hn1 hd1 hp hL sp e1 e2 e3 c1 hn
  go_enter Tryz.func103, Tryz.ntmps103
  go_wp2_with fail
  refine (F1 _ _ N2.out (HL.out.call b1.out)).out.mono ?_; rintro e w3 ⟨hr3, hb3⟩
  have y3 := hid (bnext b1.out hb3); have X3 := hid (X1.out.call hb3); have C3 := (hb3.cell (cell_lt C1)).trans C1; have D3 := hid (D2.out.call hb3)
  clear hb3 r0 r1 r2 C1
  have r0 := X3.out.cell 0
  have r1 := X3.out.cell 1
  have r2 := X3.out.cell 2
  simp at r0 r1 r2
  rcases hr3 with ⟨l3, v3, rfl, hv3⟩ | ⟨l3, rfl⟩
  · obtain ⟨a3, c3, rfl, _⟩ := hv3.openI
    obtain ⟨k3, hk3⟩ : ∃ k, (limbs (q.num.natAbs ^ n)).length = k := ⟨_, rfl⟩
    rw [hk3] at hv3 ⊢
    have V3 := hid hv3; have L3 := hid l3
    clear hk3 hv3 l3
    go_wp2_with fail
    refine (F2 _ _ D3.out (HL.out.call y3.out)).out.mono ?_; rintro e w4 ⟨hr4, hb4⟩
    have y4 := hid (bnext y3.out hb4); have X4 := hid (X3.out.call hb4); have C4 := (hb4.cell (cell_lt C3)).trans C3; have V4 := hid (V3.out.call hb4)
    clear hb4 r0 r1 r2 C3
    have r0 := X4.out.cell 0
    have r1 := X4.out.cell 1
    have r2 := X4.out.cell 2
    simp at r0 r1 r2
    rcases hr4 with ⟨l4, v4, rfl, hv4⟩ | ⟨l4, rfl⟩
    · obtain ⟨a4, c4, rfl, _⟩ := hv4.openI
      obtain ⟨k4, hk4⟩ : ∃ k, (limbs (q.den ^ n)).length = k := ⟨_, rfl⟩
      rw [hk4] at hv4 ⊢
      have W4 := hid hv4; have L4 := hid l4
      clear hk4 hv4 l4
      have M := hid (show IsQ .u64 w4 (.agg #[.bool (m1 && decide (n % 2 = 1)), .slice a3 k3 c3, .slice a4 k4 c4]) (q ^ n) from ⟨_, _, by rw [E1.out], by rw [E2.out]; exact V4.out, by rw [E3.out]; exact W4.out⟩)
      obtain ⟨Q, hQ⟩ : ∃ Q, q ^ n = Q := ⟨_, rfl⟩
      rw [hQ] at F3 M
      clear hQ HOV F1 F2
      have F4 := F3 _ _ M.out (HL.out.call y4.out) L3.out L4.out
      cases m1
      · simp only [Bool.false_and] at F4
        go_wp2_with fail
        refine F4.out.mono ?_; rintro e w5 ⟨rfl, hb5⟩
        have y5 := hid (bnext y4.out hb5); clear hb5
        go_wp2_with fail
        go_ret2
        exact ⟨rfl, y5.out⟩
      · simp only [Bool.true_and] at F4
        have e9 : ((n : Int) % 2 == 1) = decide (n % 2 = 1) := by
          rw [Bool.eq_iff_iff, beq_iff_eq, decide_eq_true_eq]; omega
        rw [← e9] at F4
        clear e9
        go_wp2_with fail
        refine F4.out.mono ?_; rintro e w5 ⟨rfl, hb5⟩
        have y5 := hid (bnext y4.out hb5); clear hb5
        go_wp2_with fail
        go_ret2
        exact ⟨rfl, y5.out⟩
    · have e7 := hid (HOV.out (.inr l4))
      clear l4
      go_wp2_with fail
      go_ret2
      exact ⟨by rw [e7.out.1, e7.out.2]; rfl, y4.out⟩
  · have e7 := hid (HOV.out (.inl l3))
    clear l3
    go_wp2_with fail
    refine (F2 _ _ D3.out (HL.out.call y3.out)).out.mono ?_; rintro e w4 ⟨hr4, hb4⟩
    have y4 := hid (bnext y3.out hb4)
    rcases hr4 with ⟨l4, v4, rfl, hv4⟩ | ⟨l4, rfl⟩
    · obtain ⟨a4, c4, rfl, _⟩ := hv4.openI
      obtain ⟨k4, hk4⟩ : ∃ k, (limbs (q.den ^ n)).length = k := ⟨_, rfl⟩
      rw [hk4]
      clear hk4 hv4 l4 hb4
      go_wp2_with fail
      go_ret2
      exact ⟨by rw [e7.out.1, e7.out.2]; rfl, y4.out⟩
    · clear l4 hb4
      go_wp2_with fail
      go_ret2
      exact ⟨by rw [e7.out.1, e7.out.2]; rfl, y4.out⟩
def pwB (n : Nat) (s : ByteArray) : ByteArray := op1B (· ^ n) s
def pwE (n : Nat) (s : ByteArray) : Int := op1E (· ^ n) s
set_option maxRecDepth 100000 in
set_option maxHeartbeats 1000000 in
theorem q_Pow (w : World) (s : ByteArray) (n : Nat) (hs : s.size ≤ 1000000) (hn : n ≤ 9223372036854775807) (hL : Lay w) :
    Calls Tryz.prog 51 #[.string s, .int .i64 (n : Nat)] w fun e w' => e = .returned (.tuple #[.string (pwB n s), .int .i64 (pwE n s)]) ∧ Below w.heap.size w w' := by
  have HL := hid hL
  have b1 := hid ((Below.refl w.heap.size w).alloc (Nat.le_refl _) (.cells #[.int .i64 (n : Nat)] 3))
  have X1 := hid (Blk.new w #[.int .i64 (n : Nat)] 3)
  obtain ⟨g1, hg1⟩ : ∃ g, w.heap.size = g := ⟨_, rfl⟩
  obtain ⟨w1, hw1⟩ : ∃ w1, w.alloc (.cells #[.int .i64 (n : Nat)] 3) = w1 := ⟨_, rfl⟩
  have L1 := hid (HL.out.call b1.out)
  have b1' := b1
  rw [hw1] at b1 X1 L1
  rw [hg1] at X1
  have W1 := hid (q_with w1 s 103 #[.pointer (some ⟨g1, 0, none⟩)] (outB (vQ s ^ n)) (outE (vQ s ^ n)) hs L1.out (enters_of Tryz.func103 (by kernel_rfl) rfl)
    (fun W v hq hb hv hLW => q_Pow1 W v (vQ s) n g1 hv (sml_vQ hq) hn hLW ((X1.out.call hb).cell 0)))
  have e1 : wB (outB (vQ s ^ n)) s = pwB n s := rfl
  have e2 : wE (outE (vQ s ^ n)) s = pwE n s := rfl
  rw [e1, e2] at W1
  obtain ⟨B, hB⟩ : ∃ B, pwB n s = B := ⟨_, rfl⟩
  obtain ⟨E, hE⟩ : ∃ E, pwE n s = E := ⟨_, rfl⟩
  rw [hB, hE] at W1 ⊢
  have HW := hid hw1; have HG := hid hg1
  clear hB hE hs hL hn e1 e2 hw1 hg1 b1'
  go_enter Tryz.func51, Tryz.ntmps51
  go_wp2_with fail
  have hw1 := HW.out; have hg1 := HG.out
  rw [hw1, hg1]
  refine W1.out.mono ?_; rintro e w2 ⟨rfl, hb2⟩
  have y2 := hid (bnext b1.out hb2)
  clear hb2 hw1 hg1
  go_wp2_with fail
  go_ret2
  exact ⟨rfl, y2.out⟩
end Go.Proofs.YtckihjfkafdncaaGreatDoor
namespace Go.Proofs.YtckihjfkafdncaaGreatDoor
open Go.RowKit
set_option linter.unusedVariables false
set_option linter.unusedSimpArgs false
def p3 (N D n i k s : Nat) (v : Int) : Nat := if (k : Int) - (i : Int) = v then sumN (fun s' => edn N D k s' * cw (n - s') (oneP N D i)) s else 0
def q3 (N D n i k : Nat) (v : Int) : Nat := sumN (fun k' => p3 N D n i k' (n + 1) v) k
def t3 (N D n i : Nat) (v : Int) : Nat := sumN (fun i' => q3 N D n i' (n + 1) v) i
def c3 (N D n i k s : Nat) (v : Int) : Nat := t3 N D n i v + q3 N D n i k v + p3 N D n i k s v
end Go.Proofs.YtckihjfkafdncaaGreatDoor
namespace Go.Proofs.YtckihjfkafdncaaGreatDoor
open Go.RowKit
theorem below_grown {w w' : World} (h : Below w.heap.size w w') (row : Option Nat) : w.grownBy w' row := ⟨h.os, h.tape, h.output, h.size, fun k hk _ => h.block k hk⟩
end Go.Proofs.YtckihjfkafdncaaGreatDoor
namespace Go.Proofs.YtckihjfkafdncaaGreatDoor
open Go.RowKit Go.Shelf
open Go.Lib (decDigits nDigits)
set_option linter.unusedVariables false
theorem make_ints (n : Nat) (hn : n ≤ 3000000) (W : World) : (Instr.makeSlice 24 (.int .i64 (n : Int)) (.int .i64 (n : Int))).run Tryz.prog W = .ok (.slice (some ⟨W.heap.size, 0, none⟩) n n) (W.alloc (.cells (madeCells #[.int .i64 0] n) 3)) :=
  run_make_row' (P := Tryz.prog) 24 3 (.int .i64 0) 8 Tryz.underlying24 (by kernel_rfl) rfl .i64 .i64 n (by omega) (by omega) W
end Go.Proofs.YtckihjfkafdncaaGreatDoor
namespace Go.Proofs.YtckihjfkafdncaaGreatDoor
open Go.RowKit Go.Shelf
open Go.Lib (decDigits nDigits)
set_option linter.unusedVariables false
theorem shB_ne {a b : Nat} (hb : b ≠ 0) (h1 : nDigits a ≤ 4000) (h2 : nDigits b ≤ 4000) (ha : a ≠ 0) : shB a b ≠ ⟨#[48]⟩ := fun e => by
  rw [← shB_zero b, shB_tx hb h1 h2, shB_tx hb (by rw [nDigits_zero]; omega) h2] at e
  have e' := congrArg vQ e
  rw [vQ_txQ, vQ_txQ] at e'
  have h3 := (Rat.mkRat_eq_iff hb hb).1 e'
  have h4 : ((a * b : Nat) : Int) = 0 := by rw [Int.natCast_mul, h3]; simp
  have hp : 0 < a * b := Nat.mul_pos (by omega) (by omega)
  omega
end Go.Proofs.YtckihjfkafdncaaGreatDoor
namespace Go.Proofs.YtckihjfkafdncaaGreatDoor
open Go.RowKit
open Go.Lib (decDigits nDigits)
set_option linter.unusedVariables false
set_option linter.unusedSectionVars false
set_option linter.unusedSimpArgs false
theorem ratio_q {a : ByteArray} (h : gPE a = 0) : qE a = 0 ∧ iM (cW a) = false := by
  unfold gPE at h
  split at h
  · rename_i he; exact absurd h he
  · rename_i he
    split at h
    · cases h
    · rename_i hm
      refine ⟨by simpa using he, ?_⟩
      cases hi : iM (cW a)
      · rfl
      · exact absurd (.inl hi) hm
theorem ratio_pos {a : ByteArray} (h : gPE a = 0) (h0 : a ≠ ⟨#[48]⟩) : 0 < bN (cW a) := by
  obtain ⟨h1, h2⟩ := ratio_q h
  obtain ⟨v1, v2, -, -, -, v6⟩ := valid h1
  rw [iD_plain h2] at v1 v6
  rcases Nat.eq_zero_or_pos (bN (cW a)) with e | e
  · refine absurd ?_ h0
    rw [e, Nat.gcd_zero_left] at v1
    rw [v6, e, v1, h2]
    apply ba_ext
    rw [txB_list, dec_zero]
    rfl
  · exact e
section
variable {N D : Nat} (h : N < D)
include h
def o3 (N D n i j : Nat) : Nat := if n ≤ j ∧ j < n + i then gV N D false n ((j : Int) - n) else 0
omit h in
end
end Go.Proofs.YtckihjfkafdncaaGreatDoor
namespace Go.Proofs.YtckihjfkafdncaaGreatDoor
open Go.RowKit
open Go.Lib (decDigits nDigits)
set_option linter.unusedVariables false
def pngB (n : Nat) (s : ByteArray) : ByteArray := op1B (fun q => q⁻¹ ^ n) s
def pngE (n : Nat) (s : ByteArray) : Int := op1E (fun q => q⁻¹ ^ n) s
def ivrE (a : ByteArray) : Int := if gPE a ≠ 0 then gPE a else if a = ⟨#[48]⟩ then 6 else 0
def fltX (a : ByteArray) (n many : Int) : Int := if gPE a ≠ 0 then gPE a else if n < 0 ∨ 256 < n ∨ many < 1 ∨ 256 < many then 2 else 0
def fltT (a : ByteArray) (n many : Int) : ByteArray := op2B (· * ·) (glB a n false) (numB many.toNat)
def fltB (a : ByteArray) (n many : Int) : ByteArray := if fltX a n many ≠ 0 then ⟨#[]⟩ else mnB (fltT a n many) ⟨#[49]⟩
def fltE (a : ByteArray) (n many : Int) : Int := if fltX a n many ≠ 0 then fltX a n many else cmE (fltT a n many) ⟨#[49]⟩
def ffX (a : ByteArray) (reach : Int) : Int := if ivrE a ≠ 0 then ivrE a else if reach < 0 ∨ 10000 < reach then 2 else 0
def ffM (reach : Int) (one : Bool) : Nat := if one = true then reach.toNat else 2 * reach.toNat
def ffB (a : ByteArray) (reach : Int) (one : Bool) : ByteArray := if ffX a reach ≠ 0 then ⟨#[]⟩ else pngB (ffM reach one) a
def ffE (a : ByteArray) (reach : Int) (one : Bool) : Int := if ffX a reach ≠ 0 then ffX a reach else pngE (ffM reach one) a
theorem glB_size (a : ByteArray) (n : Int) (two : Bool) : (glB a n two).size ≤ 10000 := by
  unfold glB
  split
  · exact outB_size _
  · exact Nat.zero_le _
theorem fx_size (f : Rat → Rat → Rat) (s t : ByteArray) : (op2B f s t).size ≤ 10000 := by
  unfold op2B
  split
  · exact outB_size _
  · exact Nat.zero_le _
theorem ivrE_ok {a : ByteArray} (h : ivrE a = 0) : gPE a = 0 ∧ a ≠ ⟨#[48]⟩ := by
  unfold ivrE at h
  split at h
  · rename_i h1; exact absurd h h1
  · rename_i h1
    refine ⟨Classical.byContradiction h1, fun e => ?_⟩
    rw [if_pos e] at h; cases h
theorem iv_pos {a : ByteArray} (h : ivrE a = 0) : qE a = 0 ∧ 0 < (vQ a).num := by
  obtain ⟨h1, h2⟩ := ivrE_ok h
  obtain ⟨hq, hm⟩ := ratio_q h1
  obtain ⟨e1, e2, e3⟩ := vQ_ok hq
  refine ⟨hq, ?_⟩
  have hp := ratio_pos h1 h2
  have e4 : iD (cW a) = cW a := iD_plain hm
  rw [e4] at e2
  have h3 : ¬ (vQ a).num < 0 := by
    have := e1
    rw [hm] at this
    simpa using this
  omega
theorem iv_ne {a : ByteArray} (h : ivrE a = 0) : vQ a ≠ 0 := fun e => by
  have := (iv_pos h).2
  rw [e] at this
  exact absurd this (by decide)
structure PkOk (c : List Int) (a : ByteArray) (b : List ByteArray) : Prop where
  pos : 1 ≤ c.length
  le : c.length ≤ 256
  rng : ∀ x ∈ c, -1125899906842624 ≤ x ∧ x ≤ 1125899906842624
  a : gPE a = 0
  len : b.length = c.length
  b : ∀ s ∈ b, chkE s = 0
theorem qnE_ok {c : List Int} {a : ByteArray} (h : qnE c a = 0) : 1 ≤ c.length ∧ c.length ≤ 256 ∧ (∀ x ∈ c, -1125899906842624 ≤ x ∧ x ≤ 1125899906842624) ∧ gPE a = 0 := by
  unfold qnE at h
  split at h
  · rename_i h1; exact absurd h h1
  · rename_i h1
    have h1 : ctE c = 0 := Classical.byContradiction h1
    unfold ctE at h1
    split at h1
    · cases h1
    · rename_i h2
      unfold zE at h1
      split at h1
      · cases h1
      · rename_i h3
        split at h1
        · cases h1
        · rename_i h4
          refine ⟨by omega, by omega, fun x hx => ?_, h⟩
          have : wildB x = false := by
            cases hw : wildB x
            · rfl
            · exact absurd (List.any_eq_true.2 ⟨x, hx, hw⟩) h4
          unfold wildB at this
          simp only [Bool.or_eq_false_iff, decide_eq_false_iff_not] at this
          omega
theorem wdE_ok {b : List ByteArray} {m : Int} (h : wdE b m = 0) : (b.length : Int) = m ∧ ∀ s ∈ b, chkE s = 0 := by
  unfold wdE at h
  split at h
  · rename_i h1; exact ⟨h1, bsE_zero.1 h⟩
  · cases h
theorem pkE_ok {c : List Int} {a : ByteArray} {b : List ByteArray} (h : pkE c a b = 0) : PkOk c a b := by
  unfold pkE at h
  split at h
  · rename_i h1; exact absurd h h1
  · rename_i h1
    have h1 : qnE c a = 0 := Classical.byContradiction h1
    obtain ⟨q1, q2, q3, q4⟩ := qnE_ok h1
    obtain ⟨w1, w2⟩ := wdE_ok h
    exact ⟨q1, q2, q3, q4, by omega, w2⟩
end Go.Proofs.YtckihjfkafdncaaGreatDoor
namespace Go.Proofs.YtckihjfkafdncaaGreatDoor
open Go.RowKit Go.Shelf
open Go.Lib (decDigits nDigits)
set_option linter.unusedVariables false
set_option linter.unusedSimpArgs false
theorem noisy_end {c : List Int} {a : ByteArray} {b : List ByteArray} {xs : List (Int × Int)} (hl : c.length = b.length) (h1 : NzOk c a b xs) (h2 : nzStop c a b xs) :
    (xs.length = c.length ∧ nzO false a c b = some (xs.map Prod.snd)) ∨ (xs.length < c.length ∧ nzO false a c b = none) := by
  rcases h2 with h2 | ⟨n, s, h3, h4, h5⟩
  · refine .inl ⟨h2, nzO_all hl (by rw [List.length_map]; exact h2) fun k x y hx hy => ?_⟩
    have hk : k < xs.length := by have := (List.getElem?_eq_some_iff.1 hx).1; omega
    obtain ⟨n, s, g1, g2, g3, g4⟩ := h1 k xs[k] (List.getElem?_eq_getElem hk)
    rw [hx] at g1; rw [hy] at g2; cases g1; cases g2
    rw [g4, List.getElem?_map, List.getElem?_eq_getElem hk]; rfl
  · exact .inr ⟨(List.getElem?_eq_some_iff.1 h3).1, nzO_late _ n s h3 h4 h5⟩
set_option maxRecDepth 100000 in
set_option maxHeartbeats 4000000 in
theorem fd_Peak (w : World) (v u : Value) (c : List Int) (a : ByteArray) (b : List ByteArray) (hv : Row w v (zs c)) (hu : Row w u (strs b)) (ha : a.size ≤ 100000) (hb : ∀ x ∈ b, x.size ≤ 100000000) (hL : Lay w) :
    Calls Tryz.prog 11 #[v, .string a, u] w fun e w' => e = .returned (.tuple #[.int .i64 (pkA c a b).1, .bool (pkA c a b).2, .int .i64 (pkE c a b)]) ∧ Below w.heap.size w w' := by
  have HQ := hid (fd_question w v c a hv ha hL)
  have HW := fun V h => hid (fd_words V u b (c.length : Nat) h hb)
  have HV := hid hv; have HU := hid hu; have HL := hid hL
  obtain ⟨s, cp, rfl, q1, q2, q3⟩ := hv.openZ
  obtain ⟨t, cq, rfl, p1, p2, p3⟩ := hu.openS
  have eor : orZ [qnE c a, wdE b (c.length : Nat)] = pkE c a b := by
    simp only [orZ, pkE]
    by_cases h : qnE c a = 0
    · by_cases h2 : wdE b (c.length : Nat) = 0
      · simp [h, h2]
      · simp [h, h2]
    · simp [h]
  obtain ⟨qe, hqe⟩ : ∃ z, qnE c a = z := ⟨_, rfl⟩
  obtain ⟨we, hwe⟩ : ∃ z, wdE b (c.length : Nat) = z := ⟨_, rfl⟩
  obtain ⟨n, hn⟩ : ∃ n, c.length = n := ⟨_, rfl⟩
  obtain ⟨n2, hn2⟩ : ∃ n, b.length = n := ⟨_, rfl⟩
  rw [hqe] at HQ eor
  rw [hwe] at HW eor
  have CO := fun V v h => hid (s_OrE V v [qe, we] h)
  rw [eor] at CO
  rw [hn] at HQ HW HV q1 ⊢
  simp only [hn2] at HW
  rw [hn2] at HU p1 ⊢
  by_cases h0 : pkE c a b = 0
  case neg =>
    have e2 : pkA c a b = (0, false) := by unfold pkA; rw [if_neg h0]
    rw [e2]
    obtain ⟨z, hz⟩ : ∃ z, pkE c a b = z := ⟨_, rfl⟩
    rw [hz] at CO h0 ⊢
    have t0 : (z == 0) = false := by rw [beq_eq_false_iff_ne]; exact h0
    clear hv hu q3 p3 e2 hz hn hn2 h0 hqe hwe eor
    go_enter Tryz.func11, Tryz.ntmps11
    go_wp2_with fail
    refine HQ.out.mono ?_; rintro e w1 ⟨rfl, hb1⟩
    have y1 := hid hb1; clear hb1
    go_wp2_with fail
    refine (HW _ (HU.out.call y1.out)).out.mono ?_; rintro e w2 ⟨rfl, hb2⟩
    have y2 := hid (bnext y1.out hb2); clear hb2
    go_wp2_with fail
    refine (CO _ _ (row_two _ _ _ _)).out.mono ?_; rintro e w3 ⟨rfl, rfl⟩
    go_wp2_with fail
    go_ret3
    exact ⟨rfl, y2.out.alloc y2.out.size _⟩
  have OK := pkE_ok h0
  have e2 : pkA c a b = (match nzO false a c b with | none => (0, false) | some l => ((amx l : Nat), true)) := by unfold pkA; rw [if_pos h0]; rfl
  obtain ⟨R, hR⟩ : ∃ R, pkA c a b = R := ⟨_, rfl⟩
  rw [hR] at e2 ⊢
  rw [h0] at CO ⊢
  have hlen := OK.len
  have HOK := hid OK; have HR := hid e2; have HN := hid hn; have HN2 := hid hn2; have HA := hid ha
  rw [hn, hn2] at hlen
  subst hlen
  clear hv hu q3 p3 hn hn2 h0 e2 hR OK ha hb hqe hwe eor hL
  go_enter Tryz.func11, Tryz.ntmps11
  go_wp2_with fail
  refine HQ.out.mono ?_; rintro e w1 ⟨rfl, hb1⟩
  have y1 := hid hb1; clear hb1
  go_wp2_with fail
  refine (HW _ (HU.out.call y1.out)).out.mono ?_; rintro e w2 ⟨rfl, hb2⟩
  have y2 := hid (bnext y1.out hb2); clear hb2
  go_wp2_with fail
  refine (CO _ _ (row_two _ _ _ _)).out.mono ?_; rintro e w3 ⟨rfl, rfl⟩
  have y3 := hid (y2.out.alloc y2.out.size (.cells #[.int .i64 qe, .int .i64 we] 27))
  go_wp2_with fail
  obtain ⟨w3, hw3⟩ : ∃ w3, w2.alloc (.cells #[.int .i64 qe, .int .i64 we] 27) = w3 := ⟨_, rfl⟩
  rw [hw3] at y3
  try rw [hw3]
  refine (fd_noisy _ _ _ _ _ _ _ _).mono ?_; rintro e w4 ⟨rfl, rfl⟩
  have y4 := hid ((((y3.out.alloc y3.out.size (.cells #[.slice s n2 cp] 24)).alloc (y3.out.alloc y3.out.size _).size (.cells #[.string a] 22)).alloc ((y3.out.alloc y3.out.size _).alloc (y3.out.alloc y3.out.size _).size _).size (.cells #[.slice t n2 cq] 30)))
  have X1 := hid (((Blk.new w3 #[.slice s n2 cp] 24).alloc (.cells #[.string a] 22)).alloc (.cells #[.slice t n2 cq] 30))
  have X2 := hid ((Blk.made (w3.alloc (.cells #[.slice s n2 cp] 24)) #[.string a] 22 (n := w3.heap.size + 1) (by simp)).alloc (.cells #[.slice t n2 cq] 30))
  have X3 := hid (Blk.made ((w3.alloc (.cells #[.slice s n2 cp] 24)).alloc (.cells #[.string a] 22)) #[.slice t n2 cq] 30 (n := w3.heap.size + 1 + 1) (by simp))
  obtain ⟨W, hW⟩ : ∃ W, ((w3.alloc (.cells #[.slice s n2 cp] 24)).alloc (.cells #[.string a] 22)).alloc (.cells #[.slice t n2 cq] 30) = W := ⟨_, rfl⟩
  have hsz : W.heap.size = w3.heap.size + 1 + 1 + 1 := by rw [← hW]; simp
  rw [hW] at y4 X1 X2 X3 ⊢
  have hread : ∀ W1 W2, Below W.heap.size W W1 → KpC W.heap.size W1 W2 → W2.cell? ⟨w3.heap.size, 0, none⟩ = some (.slice s n2 cp) ∧ W2.cell? ⟨w3.heap.size + 1, 0, none⟩ = some (.string a) ∧ W2.cell? ⟨w3.heap.size + 1 + 1, 0, none⟩ = some (.slice t n2 cq) ∧ Row W2 (.slice s n2 cp) (zs c) ∧ Row W2 (.slice t n2 cq) (strs b) ∧ Lay W2 := fun W1 W2 b1 b2 => by
    have b3 : Below W.heap.size W W2 := b1.trans (b2.rest b1.size)
    have b4 : Below w.heap.size w W2 := y4.out.trans (b3.mono y4.out.size)
    exact ⟨(X1.out.call b3).cell 0, (X2.out.call b3).cell 0, (X3.out.call b3).cell 0, HV.out.call b4, HU.out.call b4, HL.out.call b4⟩
  have HF := noisy_feeds (Kp := KpC W.heap.size) 8 (by omega) W w3.heap.size (w3.heap.size + 1) (w3.heap.size + 1 + 1) (.slice s n2 cp) (.slice t n2 cq) c a b HA.out (fun x hx => chk_size (HOK.out.b x hx)) (by rw [HN.out, HN2.out]) HOK.out.le HOK.out.rng (KpC.refl _) KpC.trans hread (fun _ _ => KpC.of_below)
  have PF := hid (fd_fold W 91 _ (nzNext c a b) _ (fun pre x h => by
    obtain ⟨n, b', h1, h2, h3, h4⟩ := h
    have := (List.getElem?_eq_some_iff.1 h1).1
    have := HOK.out.le
    exact ⟨h3, by omega⟩) HF (enters_of Tryz.func91 (by kernel_rfl) rfl))
  clear hread HF hW hsz X1 X2 X3
  go_wp2_with fail
  refine PF.out.mono ?_; rintro e w5 ⟨⟨xs, ⟨h1, h2⟩, rfl⟩, hb5⟩
  have y5 := hid (y4.out.trans (hb5.mono y4.out.size))
  have hend := noisy_end (by rw [HN.out, HN2.out]) h1 h2
  rw [HN.out] at hend
  obtain ⟨m, hm⟩ : ∃ m, xs.length = m := ⟨_, rfl⟩
  obtain ⟨k, hk⟩ : ∃ k, (amS (xs.map Prod.snd)).2.1 = k := ⟨_, rfl⟩
  rw [hm] at hend ⊢
  rw [hk]
  clear hb5 h1 h2 hm PF
  rcases hend with ⟨h1, h2⟩ | ⟨h1, h2⟩
  · have HM := hid h1
    have HE : Hid (R = ((k : Int), true)) := by
      show R = _
      rw [HR.out, h2, ← hk]; rfl
    clear h1 h2 hk
    go_wp2_with fail
    · rename_i hx
      exact absurd hx (by have := HM.out; omega)
    · go_ret3
      exact ⟨by rw [HE.out]; rfl, y5.out⟩
  · have HM := hid h1
    have HE : Hid (R = (0, false)) := by
      show R = _
      rw [HR.out, h2]
    clear h1 h2 hk
    go_wp2_with fail
    · go_ret3
      exact ⟨by rw [HE.out]; rfl, y5.out⟩
    all_goals
      rename_i hx
      exact absurd HM.out hx
end Go.Proofs.YtckihjfkafdncaaGreatDoor
