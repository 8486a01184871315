/- Texts that the proof rests on, merged: Nz1, LtP, Rt6, Rt7, Fac0, Gm0, Gn1, Cr0, Lr0, Fx0, Tz, Pq0, Nz2, Nz3, Nx0, Nx1, Nd0, Nla, Na2, Fd12, Nap, Sf0, KoI, Nad. -/
import Derived.Test.YtgphopkifomffaaGreatDoorMp5
import Derived.IntWalk
import Derived.RangeFuncBox
import Derived.Scope
set_option linter.unusedVariables false
set_option linter.unusedSimpArgs false
set_option linter.unusedSectionVars false
set_option maxRecDepth 100000
set_option maxHeartbeats 8000000
namespace Go.Proofs.YtgphopkifomffaaGreatDoor
open Go.RowKit
open Go.Lib (decDigits nDigits)
def zA (c zs : List Int) : List Int := List.zipWith (· + ·) c zs
def zD (c d : List Int) : List Int := List.zipWith (· - ·) c d
theorem fm_sum {α β : Type} (f : α → List β) (h : β → Nat) : ∀ l : List α, ((l.flatMap f).map h).sum = (l.map fun v => ((f v).map h).sum).sum
 | [] => rfl
 | v :: r => by simp [fm_sum f h r]
theorem nzX_sum {g : Int → Nat} {n : Nat} {vs : List Int} (rv : Runs g n vs) (h : List Int → Nat → Nat) (h0 : ∀ ys, h ys 0 = 0) : ∀ (c dn : List Int) (x : Nat), ((nzX g vs c dn x).map fun p => h p.1 p.2).sum = vw n (List.replicate c.length one1) (fun zs => h (dn ++ zA c zs) (x * prW (List.replicate c.length g) zs))
 | [], dn, x => by simp [nzX, vw, prW, zA]
 | c :: cs, dn, x => by
  have key : ∀ v, ((nzX g vs cs (dn ++ [c + v]) (x * g v)).map fun p => h p.1 p.2).sum = _ := fun v => nzX_sum rv h h0 cs (dn ++ [c + v]) (x * g v)
  rw [nzX, fm_sum]
  show sV _ vs = _
  rw [rv _ (fun v hv => by
   show ((nzX g vs cs (dn ++ [c + v]) (x * g v)).map fun p => h p.1 p.2).sum = 0
   rw [key, hv, vw_congr (G := fun _ => 0) (fun zs _ _ => by rw [Nat.mul_zero, Nat.zero_mul, h0]), vw_zero]), List.length_cons, List.replicate_succ, vw]
  refine zS_congr fun v _ _ => ?_
  rw [key]
  unfold one1
  rw [Nat.one_mul]
  refine vw_congr fun zs _ _ => ?_
  rw [List.replicate_succ, prW, Nat.mul_assoc]
  congr 1
  simp [zA]
theorem wN_other {g : Int → Nat} : ∀ {c d zs : List Int}, zs.length = c.length → d.length = c.length → wN g d (zA c zs) = prW (shL g (zD c d)) zs
 | [], [], [], _, _ => rfl
 | c :: cs, d :: ds, z :: zs, h, h2 => by
  have ih := wN_other (g := g) (c := cs) (d := ds) (zs := zs) (by simpa using h) (by simpa using h2)
  rw [show shL g (zD (c :: cs) (d :: ds)) = (fun x => g (x + (c - d))) :: shL g (zD cs ds) from rfl, prW, ← ih]
  show g (c + z - d) * _ = _
  rw [show c + z - d = z + (c - d) by omega]; rfl
theorem zS_term {g : Int → Nat} {n : Nat} (hg : ∀ v : Int, v < -(n : Int) ∨ (n : Int) < v → g v = 0) (v : Int) : g v ≤ zS n g := by
 by_cases h : v < -(n : Int) ∨ (n : Int) < v
 ·rw [hg v h]; exact Nat.zero_le _
 ·rw [← zS_pick (n := n) (x := v) (by omega) (by omega) (g v)]
  refine zS_le fun u _ _ => ?_
  split
  ·rename_i e; rw [e]; exact Nat.le_refl _
  ·exact Nat.zero_le _
section
variable {g : Int → Nat} {n : Nat} (hg : ∀ v : Int, v < -(n : Int) ∨ (n : Int) < v → g v = 0) (hz : zS n g ≤ 2 ^ n)
def nzR (g : Int → Nat) (n K : Nat) : Nat := 2 ^ (n * K) - zS n g ^ K
def nzM (M : Nat) (p : List Int × Nat) : ByteArray × ByteArray := (jn p.1, dyB p.2 M)
def nyP (g : Int → Nat) (vs : List Int) (n : Nat) (c : List Int) : List (ByteArray × ByteArray) := (nzX g vs c [] 1).map (nzM (n * c.length)) ++ if nzR g n c.length = 0 then [] else [(lateB, dyB (nzR g n c.length) (n * c.length))]
theorem nzR_le (g : Int → Nat) (n K : Nat) : nzR g n K ≤ 2 ^ (n * K) := Nat.sub_le _ _
theorem chA_mem (hg : ∀ v : Int, v < -(n : Int) ∨ (n : Int) < v → g v = 0) (v : Int) : v ∈ chA g n ↔ g v ≠ 0 := by
 constructor
 ·exact fun h => (chA_g h).2.2
 ·intro h
  have hb : ¬(v < -(n : Int) ∨ (n : Int) < v) := fun hh => h (hg v hh)
  exact chV_mem.2 ⟨(v + n).toNat, by omega, by omega, h⟩
theorem chA_nd (g : Int → Nat) (n : Nat) : (chA g n).Nodup := by
 unfold chA chV
 refine List.Pairwise.filter _ ?_
 rw [List.pairwise_map]
 refine List.Pairwise.imp ?_ List.nodup_range
 intro a b h e
 exact h (by omega)
theorem nyP_mem {vs : List Int} (hv : ∀ v, v ∈ vs ↔ g v ≠ 0) {c : List Int} {p : ByteArray × ByteArray} : p ∈ nyP g vs n c ↔ (∃ ys, wN g c ys ≠ 0 ∧ p = (jn ys, dyB (wN g c ys) (n * c.length))) ∨ (nzR g n c.length ≠ 0 ∧ p = (lateB, dyB (nzR g n c.length) (n * c.length))) := by
 unfold nyP
 rw [List.mem_append, List.mem_map]
 refine or_congr ?_ ?_
 ·constructor
  ·rintro ⟨q, hq, rfl⟩
   obtain ⟨ys, h1, rfl⟩ := (nzX_mem hv).1 hq
   exact ⟨ys, h1, by simp [nzM]⟩
  ·rintro ⟨ys, h1, rfl⟩
   exact ⟨(ys, wN g c ys), (nzX_mem hv).2 ⟨ys, h1, by simp⟩, rfl⟩
 ·split
  ·rename_i h; simp [h]
  ·rename_i h; simp [h]
theorem nyP_nd {vs : List Int} (nd : vs.Nodup) (c : List Int) : ((nyP g vs n c).map keyL).Nodup := by
 have h1 : (((nzX g vs c [] 1).map (nzM (n * c.length))).map keyL).Nodup := by
  rw [List.map_map]
  show List.Pairwise _ _
  rw [List.pairwise_map]
  refine List.Pairwise.imp ?_ (nzX_nd nd c [] 1)
  intro p q h e
  exact h (jn_inj (ba_ext e))
 unfold nyP
 split
 ·rw [List.append_nil]; exact h1
 ·rw [List.map_append, List.nodup_append]
  refine ⟨h1, by simp, ?_⟩
  intro a ha b hb e
  rw [List.mem_map] at ha
  obtain ⟨p, hp, rfl⟩ := ha
  obtain ⟨q, -, rfl⟩ := List.mem_map.1 hp
  simp at hb
  subst hb
  exact jn_late _ (ba_ext e)
include hg
theorem nyP_same {vs : List Int} (hp : vs.Perm (chA g n)) (c : List Int) : sortM (nyP g vs n c) = sortM (nyP g (chA g n) n c) :=
 sortM_same (nyP_nd (hp.nodup_iff.2 (chA_nd g n)) c) (nyP_nd (chA_nd g n) c) fun p => by
  rw [nyP_mem fun v => (hp.mem_iff).trans (chA_mem hg v), nyP_mem (chA_mem hg)]
theorem nz_val (c ys : List Int) : valM (sortM (nyP g (chA g n) n c)) (jn ys) = dyB (wN g c ys) (n * c.length) := by
 by_cases h : wN g c ys = 0
 ·rw [h, dy_zero]
  refine valM_none fun p hp e => ?_
  rw [sortM_mem, nyP_mem (chA_mem hg)] at hp
  rcases hp with ⟨zs, h1, rfl⟩ | ⟨-, rfl⟩
  ·exact h1 (by rw [jn_inj e]; exact h)
  ·exact jn_late ys e.symm
 ·exact valM_some (sortM_mem.2 ((nyP_mem (chA_mem hg)).2 (.inl ⟨ys, h, rfl⟩))) (sortM_nd (nyP_nd (chA_nd g n) c))
theorem nz_lateV (c : List Int) : valM (sortM (nyP g (chA g n) n c)) lateB = dyB (nzR g n c.length) (n * c.length) := by
 by_cases h : nzR g n c.length = 0
 ·rw [h, dy_zero]
  refine valM_none fun p hp e => ?_
  rw [sortM_mem, nyP_mem (chA_mem hg)] at hp
  rcases hp with ⟨zs, h1, rfl⟩ | ⟨h1, rfl⟩
  ·exact jn_late zs e
  ·exact h1 h
 ·exact valM_some (sortM_mem.2 ((nyP_mem (chA_mem hg)).2 (.inr ⟨h, rfl⟩))) (sortM_nd (nyP_nd (chA_nd g n) c))
omit hg in
theorem nz_length (c : List Int) : (sortM (nyP g (chA g n) n c)).length ≤ (2 * n + 1) ^ c.length + 1 := by
 rw [sortM_length]
 unfold nyP
 rw [List.length_append, List.length_map, nzX_len]
 have := Nat.pow_le_pow_left (chA_length g n) c.length
 split <;> simp <;> omega
include hz
theorem wN_le : ∀ c ys : List Int, wN g c ys ≤ 2 ^ (n * c.length)
 | [], [] => by simp [wN]
 | [], _ :: _ => Nat.zero_le _
 | _ :: _, [] => Nat.zero_le _
 | c :: cs, y :: ys => by
  rw [wN, List.length_cons, Nat.mul_add, Nat.mul_one, Nat.add_comm, Nat.pow_add]
  exact Nat.mul_le_mul (Nat.le_trans (zS_term hg _) hz) (wN_le cs ys)
end
theorem cmB_three (s t : ByteArray) : cmB s t = -1 ∨ cmB s t = 0 ∨ cmB s t = 1 := by
 unfold cmB ordQ sgnQ
 split
 ·split
  ·simp
  ·split <;> simp
 ·simp
open Go.Shelf
theorem sml_inv {K : Nat} {q : Rat} (h0 : q ≠ 0) (h : Sml K q) : Sml K q⁻¹ := ⟨by rw [(inv_num h0).2.1]; exact h.d, by rw [(inv_num h0).2.2]; exact h.n⟩
theorem sg_ne {q : Rat} (h : q ≠ 0) : (sgQ q == 0) = false := by
 rw [beq_eq_false_iff_ne]
 have : q.num ≠ 0 := fun e => h (Rat.num_eq_zero.1 e)
 unfold sgQ
 repeat' split
 all_goals first | omega | (intro h; omega) | simp_all
theorem sgn_pow (m : Bool) (a : Nat) : ∀ n : Nat, (sgn m a) ^ n = sgn (m && decide (n % 2 = 1)) (a ^ n)
 | 0 => by simp [sgn]
 | n + 1 => by
  rw [Int.pow_succ, sgn_pow m a n, Nat.pow_succ]
  rcases Nat.mod_two_eq_zero_or_one n with h | h
  ·have e : (n + 1) % 2 = 1 := by omega
   cases m <;> simp [sgn, h, e, Int.mul_neg]
  ·have e : (n + 1) % 2 = 0 := by omega
   cases m <;> simp [sgn, h, e, Int.mul_neg, Int.neg_mul]
theorem pow_parts (q : Rat) (n : Nat) : decide ((q ^ n).num < 0) = (decide (q.num < 0) && decide (n % 2 = 1)) ∧ (q ^ n).num.natAbs = q.num.natAbs ^ n ∧ (q ^ n).den = q.den ^ n := by
 have h1 : (q ^ n).num = sgn (decide (q.num < 0) && decide (n % 2 = 1)) (q.num.natAbs ^ n) := by
  rw [Rat.num_pow, ← sgn_pow, sgn_of]
 refine ⟨?_, by rw [h1, sgn_natAbs], Rat.den_pow q n⟩
 rw [h1]
 by_cases hq : q.num < 0
 ·rw [sgn_neg (Nat.pow_pos (by omega))]
 ·have : decide (q.num < 0) = false := by simpa using hq
  rw [this]
  simp [sgn]
  exact Int.natCast_nonneg _
theorem pow_over {q : Rat} {n : Nat} (h : 4000 < nDigits (q.num.natAbs ^ n) ∨ 4000 < nDigits (q.den ^ n)) : outB (q ^ n) = ⟨#[]⟩ ∧ outE (q ^ n) = 5 := by
 obtain ⟨-, h2, h3⟩ := pow_parts q n
 have : ovQ (q ^ n) := by unfold ovQ; rw [h2, h3]; exact h
 exact ⟨if_pos this, if_pos this⟩
theorem q_Pow1 (w : World) (v : Value) (q : Rat) (n g1 : Nat) (hp : IsQ .u64 w v q) (sp : Sml 1000 q) (hn : n ≤ 9223372036854775807) (hL : Lay w) (c1 : w.cell? ⟨g1, 0, none⟩ = some (.int .i64 (n : Nat))) :
 Calls Tryz.prog 81 #[v, .pointer (some ⟨g1, 0, none⟩)] w fun e w' => e = .returned (.tuple #[.string (outB (q ^ n)), .int .i64 (outE (q ^ n))]) ∧ Below w.heap.size w w' := by
 have F1 := fun V v hv hV => hid (l_Pow V v q.num.natAbs n hv (Nat.le_trans sp.n (by omega)) (by omega) hV)
 have F2 := fun V v hv hV => hid (l_Pow V v q.den n hv (Nat.le_trans sp.d (by omega)) (by omega) hV)
 obtain ⟨e1, e2, e3⟩ := pow_parts q n
 have HOV := hid (fun h => pow_over (q := q) (n := n) h)
 have F3 := fun V v hv hV (h1 : nDigits (q.num.natAbs ^ n) ≤ 4000) (h2 : nDigits (q.den ^ n) ≤ 4000) => hid (f_Num V v (q ^ n) hv (by rw [e2]; exact Nat.le_trans (limbs_of_digits h1) (by omega)) (by rw [e3]; exact Nat.le_trans (limbs_of_digits h2) (by omega)) hV)
 obtain ⟨B, hB⟩ : ∃ B, outB (q ^ n) = B := ⟨_, rfl⟩
 obtain ⟨E, hE⟩ : ∃ E, outE (q ^ n) = E := ⟨_, rfl⟩
 rw [hB, hE] at F3 HOV ⊢
 clear hB hE
 have HL := hid hL
 obtain ⟨N1, D1, rfl, hn1, hd1⟩ := hp.ex
 obtain ⟨a1, c1', rfl, _⟩ := hn1.openI
 obtain ⟨a2, c2', rfl, _⟩ := hd1.openI
 obtain ⟨k1, hk1⟩ : ∃ k, (limbs q.num.natAbs).length = k := ⟨_, rfl⟩
 obtain ⟨k2, hk2⟩ : ∃ k, (limbs q.den).length = k := ⟨_, rfl⟩
 obtain ⟨m1, hm1⟩ : ∃ m, decide (q.num < 0) = m := ⟨_, rfl⟩
 rw [hk1, hk2, hm1] at hp ⊢
 rw [hk1] at hn1
 rw [hk2] at hd1
 rw [hm1] at e1
 have X1 := hid (Blk.new w #[.bool m1, .slice a1 k1 c1', .slice a2 k2 c2'] 101)
 have b1 := hid ((Below.refl w.heap.size w).alloc (Nat.le_refl _) (.cells #[.bool m1, .slice a1 k1 c1', .slice a2 k2 c2'] 101))
 have N2 := hid (hn1.call b1.out)
 have D2 := hid (hd1.call b1.out)
 have r0 := X1.out.cell 0
 have r1 := X1.out.cell 1
 have r2 := X1.out.cell 2
 have C1 := (b1.out.cell (cell_lt c1)).trans c1
 simp at r0 r1 r2
 have q0 : decide ((n : Int) < 0) = false := by simp
 have w0 : IntKind.u64.wrap (n : Int) = (n : Int) := IntWalk.u64_in _ ⟨by omega, by omega⟩
 have E1 := hid e1; have E2 := hid e2; have E3 := hid e3; have HN := hid hn
 clear hk1 hk2 hm1 hn1 hd1 hp hL sp e1 e2 e3 c1 hn
 go_enter Tryz.func81, Tryz.ntmps81
 go_wp2_with fail
 refine (F1 _ _ N2.out (HL.out.call b1.out)).out.mono ?_; rintro e w3 ⟨hr3, hb3⟩
 have y3 := hid (bnext b1.out hb3); have X3 := hid (X1.out.call hb3); have C3 := (hb3.cell (cell_lt C1)).trans C1; have D3 := hid (D2.out.call hb3)
 clear hb3 r0 r1 r2 C1
 have r0 := X3.out.cell 0
 have r1 := X3.out.cell 1
 have r2 := X3.out.cell 2
 simp at r0 r1 r2
 rcases hr3 with ⟨l3, v3, rfl, hv3⟩ | ⟨l3, rfl⟩
 ·obtain ⟨a3, c3, rfl, _⟩ := hv3.openI
  obtain ⟨k3, hk3⟩ : ∃ k, (limbs (q.num.natAbs ^ n)).length = k := ⟨_, rfl⟩
  rw [hk3] at hv3 ⊢
  have V3 := hid hv3; have L3 := hid l3
  clear hk3 hv3 l3
  go_wp2_with fail
  refine (F2 _ _ D3.out (HL.out.call y3.out)).out.mono ?_; rintro e w4 ⟨hr4, hb4⟩
  have y4 := hid (bnext y3.out hb4); have X4 := hid (X3.out.call hb4); have C4 := (hb4.cell (cell_lt C3)).trans C3; have V4 := hid (V3.out.call hb4)
  clear hb4 r0 r1 r2 C3
  have r0 := X4.out.cell 0
  have r1 := X4.out.cell 1
  have r2 := X4.out.cell 2
  simp at r0 r1 r2
  rcases hr4 with ⟨l4, v4, rfl, hv4⟩ | ⟨l4, rfl⟩
  ·obtain ⟨a4, c4, rfl, _⟩ := hv4.openI
   obtain ⟨k4, hk4⟩ : ∃ k, (limbs (q.den ^ n)).length = k := ⟨_, rfl⟩
   rw [hk4] at hv4 ⊢
   have W4 := hid hv4; have L4 := hid l4
   clear hk4 hv4 l4
   have M := hid (show IsQ .u64 w4 (.agg #[.bool (m1 && decide (n % 2 = 1)), .slice a3 k3 c3, .slice a4 k4 c4]) (q ^ n) from ⟨_, _, by rw [E1.out], by rw [E2.out]; exact V4.out, by rw [E3.out]; exact W4.out⟩)
   obtain ⟨Q, hQ⟩ : ∃ Q, q ^ n = Q := ⟨_, rfl⟩
   rw [hQ] at F3 M
   clear hQ HOV F1 F2
   have F4 := F3 _ _ M.out (HL.out.call y4.out) L3.out L4.out
   cases m1
   ·simp only [Bool.false_and] at F4
    go_wp2_with fail
    refine F4.out.mono ?_; rintro e w5 ⟨rfl, hb5⟩
    have y5 := hid (bnext y4.out hb5); clear hb5
    go_wp2_with fail
    go_ret2
    exact ⟨rfl, y5.out⟩
   ·simp only [Bool.true_and] at F4
    have e9 : ((n : Int) % 2 == 1) = decide (n % 2 = 1) := by
     rw [Bool.eq_iff_iff, beq_iff_eq, decide_eq_true_eq]; omega
    rw [← e9] at F4
    clear e9
    go_wp2_with fail
    refine F4.out.mono ?_; rintro e w5 ⟨rfl, hb5⟩
    have y5 := hid (bnext y4.out hb5); clear hb5
    go_wp2_with fail
    go_ret2
    exact ⟨rfl, y5.out⟩
  ·have e7 := hid (HOV.out (.inr l4))
   clear l4
   go_wp2_with fail
   go_ret2
   exact ⟨by rw [e7.out.1, e7.out.2]; rfl, y4.out⟩
 ·have e7 := hid (HOV.out (.inl l3))
  clear l3
  go_wp2_with fail
  refine (F2 _ _ D3.out (HL.out.call y3.out)).out.mono ?_; rintro e w4 ⟨hr4, hb4⟩
  have y4 := hid (bnext y3.out hb4)
  rcases hr4 with ⟨l4, v4, rfl, hv4⟩ | ⟨l4, rfl⟩
  ·obtain ⟨a4, c4, rfl, _⟩ := hv4.openI
   obtain ⟨k4, hk4⟩ : ∃ k, (limbs (q.den ^ n)).length = k := ⟨_, rfl⟩
   rw [hk4]
   clear hk4 hv4 l4 hb4
   go_wp2_with fail
   go_ret2
   exact ⟨by rw [e7.out.1, e7.out.2]; rfl, y4.out⟩
  ·clear l4 hb4
   go_wp2_with fail
   go_ret2
   exact ⟨by rw [e7.out.1, e7.out.2]; rfl, y4.out⟩
def pwB (n : Nat) (s : ByteArray) : ByteArray := op1B (· ^ n) s
def pwE (n : Nat) (s : ByteArray) : Int := op1E (· ^ n) s
theorem q_Pow (w : World) (s : ByteArray) (n : Nat) (hs : s.size ≤ 1000000) (hn : n ≤ 9223372036854775807) (hL : Lay w) :
 Calls Tryz.prog 42 #[.string s, .int .i64 (n : Nat)] w fun e w' => e = .returned (.tuple #[.string (pwB n s), .int .i64 (pwE n s)]) ∧ Below w.heap.size w w' := by
 have HL := hid hL
 have b1 := hid ((Below.refl w.heap.size w).alloc (Nat.le_refl _) (.cells #[.int .i64 (n : Nat)] 3))
 have X1 := hid (Blk.new w #[.int .i64 (n : Nat)] 3)
 obtain ⟨g1, hg1⟩ : ∃ g, w.heap.size = g := ⟨_, rfl⟩
 obtain ⟨w1, hw1⟩ : ∃ w1, w.alloc (.cells #[.int .i64 (n : Nat)] 3) = w1 := ⟨_, rfl⟩
 have L1 := hid (HL.out.call b1.out)
 have b1' := b1
 rw [hw1] at b1 X1 L1
 rw [hg1] at X1
 have W1 := hid (q_with w1 s 81 #[.pointer (some ⟨g1, 0, none⟩)] (outB (vQ s ^ n)) (outE (vQ s ^ n)) hs L1.out (enters_of Tryz.func81 (by kernel_rfl) rfl)
  (fun W v hq hb hv hLW => q_Pow1 W v (vQ s) n g1 hv (sml_vQ hq) hn hLW ((X1.out.call hb).cell 0)))
 have e1 : wB (outB (vQ s ^ n)) s = pwB n s := rfl
 have e2 : wE (outE (vQ s ^ n)) s = pwE n s := rfl
 rw [e1, e2] at W1
 obtain ⟨B, hB⟩ : ∃ B, pwB n s = B := ⟨_, rfl⟩
 obtain ⟨E, hE⟩ : ∃ E, pwE n s = E := ⟨_, rfl⟩
 rw [hB, hE] at W1 ⊢
 have HW := hid hw1; have HG := hid hg1
 clear hB hE hs hL hn e1 e2 hw1 hg1 b1'
 go_enter Tryz.func42, Tryz.ntmps42
 go_wp2_with fail
 have hw1 := HW.out; have hg1 := HG.out
 rw [hw1, hg1]
 refine W1.out.mono ?_; rintro e w2 ⟨rfl, hb2⟩
 have y2 := hid (bnext b1.out hb2)
 clear hb2 hw1 hg1
 go_wp2_with fail
 go_ret2
 exact ⟨rfl, y2.out⟩
end Go.Proofs.YtgphopkifomffaaGreatDoor
namespace Go.Proofs.YtgphopkifomffaaGreatDoor
open Go.RowKit
open Go.Lib (decDigits nDigits)
def fUnder (A : Rat) : Rat := 1 / (1 + A)
open Go.Shelf
def TT (A : Rat) (k : Int) : Rat := if k < 1 then 1 - fUnder A * A ^ (1 - k).toNat else fUnder A * A ^ k.toNat
end Go.Proofs.YtgphopkifomffaaGreatDoor
namespace Go.Proofs.YtgphopkifomffaaGreatDoor
open Go.RowKit
open Go.Lib (decDigits nDigits)
theorem ratio_mk {a : ByteArray} (h : gPE a = 0) : vQ a = mkRat (bN (cW a) : Nat) (bN (qD a)) := by
 have hm : iM (cW a) = false := by
  unfold gPE at h
  split at h
  ·rename_i he; exact absurd h he
  ·split at h
   ·cases h
   ·rename_i _ hm
    cases hi : iM (cW a)
    ·rfl
    ·exact absurd (.inl hi) hm
 unfold vQ
 rw [hm, iD_plain hm, qmk_nat]
section
variable {a : ByteArray} {n : Nat} (hG : gPE a = 0) (hs : a.size ≤ 20) (hn : n ≤ 12)
include hG hs hn
end
end Go.Proofs.YtgphopkifomffaaGreatDoor
namespace Go.Proofs.YtgphopkifomffaaGreatDoor
open Go.RowKit
def p3 (N D n i k s : Nat) (v : Int) : Nat := if (k : Int) - (i : Int) = v then sumN (fun s' => edn N D k s' * cw (n - s') (oneP N D i)) s else 0
def q3 (N D n i k : Nat) (v : Int) : Nat := sumN (fun k' => p3 N D n i k' (n + 1) v) k
def t3 (N D n i : Nat) (v : Int) : Nat := sumN (fun i' => q3 N D n i' (n + 1) v) i
def c3 (N D n i k s : Nat) (v : Int) : Nat := t3 N D n i v + q3 N D n i k v + p3 N D n i k s v
open Go.Lib (decDigits nDigits)
theorem ratio_q {a : ByteArray} (h : gPE a = 0) : qE a = 0 ∧ iM (cW a) = false := by
 unfold gPE at h
 split at h
 ·rename_i he; exact absurd h he
 ·rename_i he
  split at h
  ·cases h
  ·rename_i hm
   refine ⟨by simpa using he, ?_⟩
   cases hi : iM (cW a)
   ·rfl
   ·exact absurd (.inl hi) hm
theorem ratio_pos {a : ByteArray} (h : gPE a = 0) (h0 : a ≠ ⟨#[48]⟩) : 0 < bN (cW a) := by
 obtain ⟨h1, h2⟩ := ratio_q h
 obtain ⟨v1, v2, -, -, -, v6⟩ := valid h1
 rw [iD_plain h2] at v1 v6
 rcases Nat.eq_zero_or_pos (bN (cW a)) with e | e
 ·refine absurd ?_ h0
  rw [e, Nat.gcd_zero_left] at v1
  rw [v6, e, v1, h2]
  apply ba_ext
  rw [txB_list, dec_zero]
  rfl
 ·exact e
section
variable {N D : Nat} (h : N < D)
include h
def o3 (N D n i j : Nat) : Nat := if n ≤ j ∧ j < n + i then gV N D false n ((j : Int) - n) else 0
omit h in
end
def pngB (n : Nat) (s : ByteArray) : ByteArray := op1B (fun q => q⁻¹ ^ n) s
def pngE (n : Nat) (s : ByteArray) : Int := op1E (fun q => q⁻¹ ^ n) s
def ivrE (a : ByteArray) : Int := if gPE a ≠ 0 then gPE a else if a = ⟨#[48]⟩ then 6 else 0
def ffX (a : ByteArray) (reach : Int) : Int := if ivrE a ≠ 0 then ivrE a else if reach < 0 ∨ 10000 < reach then 2 else 0
def ffM (reach : Int) (one : Bool) : Nat := if one = true then reach.toNat else 2 * reach.toNat
def ffB (a : ByteArray) (reach : Int) (one : Bool) : ByteArray := if ffX a reach ≠ 0 then ⟨#[]⟩ else pngB (ffM reach one) a
def ffE (a : ByteArray) (reach : Int) (one : Bool) : Int := if ffX a reach ≠ 0 then ffX a reach else pngE (ffM reach one) a
theorem fx_size (f : Rat → Rat → Rat) (s t : ByteArray) : (op2B f s t).size ≤ 10000 := by
 unfold op2B
 split
 ·exact outB_size _
 ·exact Nat.zero_le _
theorem ivrE_ok {a : ByteArray} (h : ivrE a = 0) : gPE a = 0 ∧ a ≠ ⟨#[48]⟩ := by
 unfold ivrE at h
 split at h
 ·rename_i h1; exact absurd h h1
 ·rename_i h1
  refine ⟨Classical.byContradiction h1, fun e => ?_⟩
  rw [if_pos e] at h; cases h
theorem iv_pos {a : ByteArray} (h : ivrE a = 0) : qE a = 0 ∧ 0 < (vQ a).num := by
 obtain ⟨h1, h2⟩ := ivrE_ok h
 obtain ⟨hq, hm⟩ := ratio_q h1
 obtain ⟨e1, e2, e3⟩ := vQ_ok hq
 refine ⟨hq, ?_⟩
 have hp := ratio_pos h1 h2
 have e4 : iD (cW a) = cW a := iD_plain hm
 rw [e4] at e2
 have h3 : ¬ (vQ a).num < 0 := by
  have := e1
  rw [hm] at this
  simpa using this
 omega
theorem iv_ne {a : ByteArray} (h : ivrE a = 0) : vQ a ≠ 0 := fun e => by
 have := (iv_pos h).2
 rw [e] at this
 exact absurd this (by decide)
end Go.Proofs.YtgphopkifomffaaGreatDoor
namespace Go.Proofs.YtgphopkifomffaaGreatDoor
open Go.RowKit
open Go.Shelf
theorem tdiv_bd {x : Int} (h1 : -9223372036854775808 ≤ x) (h2 : x ≤ 9223372036854775807) : -4611686018427387904 ≤ x.tdiv 2 ∧ x.tdiv 2 ≤ 4611686018427387904 := by
 rcases Int.lt_or_le x 0 with h | h
 ·obtain ⟨y, rfl⟩ : ∃ y, x = -y := ⟨-x, by omega⟩
  rw [Int.neg_tdiv, Int.tdiv_eq_ediv_of_nonneg (by omega)]
  omega
 ·rw [Int.tdiv_eq_ediv_of_nonneg h]
  omega
end Go.Proofs.YtgphopkifomffaaGreatDoor
namespace Go.Proofs.YtgphopkifomffaaGreatDoor
open Go.RowKit
open Go.Lib (decDigits nDigits)
theorem pr_powN (n d : Nat) : ∀ m : Nat, (mkRat (n : Int) d : Rat) ^ m = mkRat ((n ^ m : Nat) : Int) (d ^ m)
 | 0 => by rw [Rat.pow_zero, Nat.pow_zero, Nat.pow_zero]; rfl
 | m + 1 => by rw [Rat.pow_succ, pr_powN n d m, Rat.mkRat_mul_mkRat, Nat.pow_succ, Nat.pow_succ, Int.natCast_mul]
theorem pr_inv (n d : Nat) : (mkRat (n : Int) d : Rat)⁻¹ = mkRat (d : Int) n := by
 rw [← Rat.divInt_ofNat, Rat.inv_divInt, Rat.divInt_ofNat]
theorem qD_ten {a : ByteArray} (h : gPE a = 0) : bN (qD a) < 10 ^ (a.size + 1) := by
 obtain ⟨h1, -⟩ := ratio_q h
 obtain ⟨hb, -, -⟩ := qE_zero h1
 have e := numB_of (qB_below hb)
 have h2 := numB_size (bN (qD a))
 rw [← e] at h2
 have h3 := qD_size a
 exact Nat.lt_of_lt_of_le (Go.Lib.lt_pow_nDigits _) (Nat.pow_le_pow_right (by omega) (by omega))
theorem zS_grow {n R : Nat} (h : n ≤ R) {f : Int → Nat} : zS n f ≤ zS R f := by
 have := zS_shift_le (R := n) (W := R) f (d := 0) (by simpa using h)
 simpa using this
theorem vw_grow {n R : Nat} (h : n ≤ R) : ∀ (gs : List (Int → Nat)) (F : List Int → Nat), vw n gs F ≤ vw R gs F
 | [], F => Nat.le_refl _
 | g :: gs, F => Nat.le_trans (zS_grow h) (zS_le fun v _ _ => Nat.mul_le_mul_left _ (vw_grow h gs _))
theorem zD_len {c d : List Int} (h : d.length = c.length) : (zD c d).length = c.length := by unfold zD; rw [List.length_zipWith, h, Nat.min_self]
theorem runs_chA (g : Int → Nat) (n : Nat) : Runs g n (chA g n) := fun f hf => smV_all hf n
noncomputable def cntN (g : Int → Nat) (n : Nat) (c : List Int) (key : ByteArray) : Nat := if key = lateB then nzR g n c.length else @dite _ (∃ ys, key = jn ys) (Classical.propDecidable _) (fun h => wN g c (Classical.choose h)) (fun _ => 0)
theorem cntN_late (g : Int → Nat) (n : Nat) (c : List Int) : cntN g n c lateB = nzR g n c.length := if_pos rfl
theorem cntN_jn (g : Int → Nat) (n : Nat) (c ys : List Int) : cntN g n c (jn ys) = wN g c ys := by
 unfold cntN
 have h : ∃ zs, jn ys = jn zs := ⟨ys, rfl⟩
 rw [if_neg (jn_late ys), dif_pos h, jn_inj (Classical.choose_spec h).symm]
theorem nz_private {N D n : Nat} (h : N < D) (hN : 0 < N) {K : Nat} (hK : 0 < K ∧ K ≤ 3000) {c c' : List Int} (hl : c'.length = c.length) (hm : n * c.length ≤ 1000) (hlen : (2 * n + 1) ^ c.length < 1000) {s : Nat} (hs : absS (zD c c') = s)
 (hG : N ^ s * 2 ^ (n * c.length) < 10 ^ K) (hH : D ^ s * 2 ^ (n * c.length) < 10 ^ K) {g : Int → Nat} (hgV : gV N D true n = g) :
 cmB (bydB (txQ (mkRat ((D ^ s : Nat) : Int) (N ^ s))) (sortM (nyP g (chA g n) n c)) (sortM (nyP g (chA g n) n c'))) (op2B (· * ·) (txQ (mkRat ((D ^ s : Nat) : Int) (N ^ s))) (valM (sortM (nyP g (chA g n) n c)) lateB)) ≤ 0 ∧
 valM (sortM (nyP g (chA g n) n c)) lateB = valM (sortM (nyP g (chA g n) n c')) lateB := by
 have hds : (zD c c').length = c.length := zD_len hl
 have hpriv := nq_private (n := n) (R := n + s) h (ds := zD c c') (by omega)
 have hz : zS n (gV N D true n) ≤ 2 ^ n := by have := gV_all h true n; omega
 have hg : ∀ v : Int, v < -(n : Int) ∨ (n : Int) < v → gV N D true n v = 0 := fun v hv => gV_out h hv
 rw [hds, hs] at hpriv
 rw [hgV] at hpriv hz hg
 have hG0 : N ^ s ≠ 0 := Nat.ne_of_gt (Nat.pow_pos hN)
 have hGH : N ^ s ≤ D ^ s := Nat.pow_le_pow_left (by omega) s
 have hle1 := fun ys => wN_le hg hz c ys
 have hle2 := fun ys => wN_le hg hz c' ys
 have hzk : zS n g ^ c.length ≤ 2 ^ (n * c.length) := zs_pow hz _
 have hv1 := fun ys => nz_val hg c ys
 have hv2 := fun ys => nz_val hg c' ys
 have hL1 := nz_lateV hg c
 have hL2 := nz_lateV hg c'
 have hlenW := nz_length (g := g) (n := n) c
 have hmem := fun p => nyP_mem (n := n) (chA_mem hg) (c := c) (p := p)
 rw [hl] at hle2 hv2 hL2
 have hsum := nzX_sum (runs_chA g n) (fun ys x => x * N ^ s - wN g c' ys * D ^ s) (fun ys => by rw [Nat.zero_mul, Nat.zero_sub]) c [] 1
 rw [vw_congr (G := fun xs => prW (List.replicate c.length g) xs * N ^ s - prW (shL g (zD c c')) xs * D ^ s) (fun zs h1 _ => by
  rw [List.length_replicate] at h1
  rw [Nat.one_mul, List.nil_append, wN_other h1 hl])] at hsum
 have hgrow := vw_grow (show n ≤ n + s by omega) (List.replicate c.length one1) (fun xs => prW (List.replicate c.length g) xs * N ^ s - prW (shL g (zD c c')) xs * D ^ s)
 obtain ⟨m, hmm⟩ : ∃ m, n * c.length = m := ⟨_, rfl⟩
 have hzz : zS n g ^ c.length = 2 ^ m - nzR g n c.length := by unfold nzR; rw [hmm] at hzk ⊢; omega
 have hRle : nzR g n c.length ≤ 2 ^ m := by rw [← hmm]; exact nzR_le g n _
 rw [hzz] at hpriv
 rw [hmm] at hpriv hm hG hH hle1 hle2 hv1 hv2 hL1 hL2
 generalize D ^ s = H at *
 generalize N ^ s = G at *
 obtain ⟨S, hS⟩ : ∃ S, ((nzX g (chA g n) c [] 1).map fun p => p.2 * G - wN g c' p.1 * H).sum = S := ⟨_, rfl⟩
 rw [hS] at hsum
 have hfin : S ≤ nzR g n c.length * H := by
  rw [Nat.sub_mul] at hpriv
  have := Nat.mul_le_mul_right H hRle
  omega
 refine ⟨?_, by rw [hL1, hL2]⟩
 obtain ⟨b1, b2⟩ := byd_all (G := G) (H := H) (m := m) (K := K) hG0 hK hG hH (M := sortM (nyP g (chA g n) n c')) (x := fun p => cntN g n c p.1) (y := fun p => cntN g n c' p.1) (L := sortM (nyP g (chA g n) n c)) (by omega) (fun p hp => by
  rw [sortM_mem, hmem p] at hp
  rcases hp with ⟨ys, -, rfl⟩ | ⟨-, rfl⟩
  ·dsimp only
   rw [cntN_jn, cntN_jn, hmm]
   exact ⟨hle1 ys, hle2 ys, rfl, hv2 ys⟩
  ·dsimp only
   rw [cntN_late, cntN_late, hmm, hl]
   exact ⟨hRle, hRle, rfl, hL2⟩)
 have hSS : ((sortM (nyP g (chA g n) n c)).map fun p => cntN g n c p.1 * G - cntN g n c' p.1 * H).sum = S := by
  have hp : (sortM (nyP g (chA g n) n c)).Perm (nyP g (chA g n) n c) := List.mergeSort_perm _ _
  rw [(hp.map _).sum_nat]
  unfold nyP
  rw [List.map_append, List.sum_append, List.map_map, ← hS]
  have e0 : ∀ L : List (List Int × Nat), (∀ p ∈ L, wN g c p.1 = p.2) → (L.map ((fun p => cntN g n c p.1 * G - cntN g n c' p.1 * H) ∘ nzM (n * c.length))).sum = (L.map fun p => p.2 * G - wN g c' p.1 * H).sum := by
   intro L hL
   congr 1
   refine List.map_congr_left fun p hp => ?_
   show cntN g n c (jn p.1) * G - cntN g n c' (jn p.1) * H = _
   rw [cntN_jn, cntN_jn, hL p hp]
  rw [e0 _ (fun p hp => by
   obtain ⟨ys, -, rfl⟩ := (nzX_mem (chA_mem hg)).1 hp
   simp)]
  have e1 : nzR g n c.length * G - nzR g n c.length * H = 0 := Nat.sub_eq_zero_of_le (Nat.mul_le_mul_left _ hGH)
  split
  ·simp
  ·rw [List.map_singleton, List.sum_singleton]
   show _ + (cntN g n c lateB * G - cntN g n c' lateB * H) = _
   rw [cntN_late, cntN_late, hl, e1, Nat.add_zero]
 have l1 := hRle
 rw [b1, hL1, hSS]
 obtain ⟨f1, f2⟩ := byd_dy hG0 hK hG hH l1
 have hden := byd_den hG0 hK hG hH
 have hKK : (10 : Nat) ^ K ≤ 10 ^ (K + 4) := Nat.pow_le_pow_right (by omega) (by omega)
 have hyH : nzR g n c.length * H < 10 ^ K := Nat.lt_of_le_of_lt (by rw [Nat.mul_comm]; exact Nat.mul_le_mul_left H l1) hH
 have e1 : mkRat (H : Int) G * dyQ (nzR g n c.length) m = mkRat ((nzR g n c.length * H : Nat) : Int) (G * 2 ^ m) := by
  unfold dyQ
  rw [Rat.mkRat_mul_mkRat, Int.natCast_mul, Int.mul_comm]
 have f3 := byd_fit hG0 hK hG hH (z := ((nzR g n c.length * H : Nat) : Int)) (by rw [Int.natAbs_natCast]; omega)
 have f4 := byd_fit hG0 hK hG hH (z := ((S : Nat) : Int)) (by rw [Int.natAbs_natCast]; omega)
 rw [f1, (op2_txt (f := (· * ·)) (byd_fitF hG0 hK hG hH) f2 (by show ¬ ovQ (_ * _); rw [e1]; exact f3)).1]
 show cmB _ (txQ (_ * _)) ≤ 0
 rw [e1, (cm_txt f4 f3).1]
 have e3 : mkRat ((S : Nat) : Int) (G * 2 ^ m) - mkRat ((nzR g n c.length * H : Nat) : Int) (G * 2 ^ m) = mkRat (((S : Nat) : Int) - ((nzR g n c.length * H : Nat) : Int)) (G * 2 ^ m) := by
  rw [Rat.sub_eq_add_neg, Rat.neg_mkRat, Rat.mkRat_add_mkRat _ _ hden hden, ← Int.add_mul, Rat.mkRat_mul_right hden]
  rfl
 unfold ordQ
 rw [e3, sgnQ_mk hden]
 unfold sgnZ
 split
 ·exact Int.le_refl _
 ·split
  ·omega
  ·omega
def naE (c : List Int) (a : ByteArray) (l : List ByteArray) : Int := if zE c ≠ 0 then zE c else if gPE a ≠ 0 then gPE a else wdE l (c.length : Nat)
def nlE (c : List Int) (a : ByteArray) (n : Int) : Int := if zE c ≠ 0 then zE c else if glE a n 32 ≠ 0 then glE a n 32 else if 5000 < (2 * n.toNat + 1) ^ c.length then 5 else 0
def nlG (a : ByteArray) (n : Int) : Int → Nat := gV (bN (cW a)) (bN (qD a)) true n.toNat
def nlR (c : List Int) (a : ByteArray) (n : Int) : List (ByteArray × ByteArray) := if nlE c a n = 0 then sortM (nyP (nlG a n) (chA (nlG a n) n.toNat) n.toNat c) else []
theorem glE_ok {a : ByteArray} {n m : Int} (h : glE a n m = 0) : gPE a = 0 ∧ 0 ≤ n ∧ n ≤ m := by
 unfold glE at h
 split at h
 ·rename_i h1; exact absurd h h1
 ·rename_i h1
  split at h
  ·cases h
  ·exact ⟨Classical.byContradiction h1, by omega, by omega⟩
theorem nlE_ok {c : List Int} {a : ByteArray} {n : Int} (h : nlE c a n = 0) : zE c = 0 ∧ gPE a = 0 ∧ 0 ≤ n ∧ n ≤ 32 ∧ (2 * n.toNat + 1) ^ c.length ≤ 5000 := by
 unfold nlE at h
 split at h
 ·rename_i h1; exact absurd h h1
 ·rename_i h1
  split at h
  ·rename_i h2; exact absurd h h2
  ·rename_i h2
   obtain ⟨g1, g2, g3⟩ := glE_ok (Classical.byContradiction h2)
   split at h
   ·cases h
   ·exact ⟨Classical.byContradiction h1, g1, g2, g3, by omega⟩
theorem nlR_ok {c : List Int} {a : ByteArray} {n : Int} (h : nlE c a n = 0) : nlR c a n = sortM (nyP (nlG a n) (chA (nlG a n) n.toNat) n.toNat c) := if_pos h
theorem nlG_out {a : ByteArray} (h : gPE a = 0) (n : Int) : ∀ v : Int, v < -(n.toNat : Int) ∨ (n.toNat : Int) < v → nlG a n v = 0 := fun v hv => gV_out (gPE_ok h).2 hv
theorem nlG_all {a : ByteArray} (h : gPE a = 0) (n : Int) : zS n.toNat (nlG a n) + gL (bN (cW a)) (bN (qD a)) true n.toNat = 2 ^ n.toNat := gV_all (gPE_ok h).2 true n.toNat
theorem nlR_size {c : List Int} {a : ByteArray} {n : Int} : ∀ p ∈ nlR c a n, p.2.size ≤ 10000 := fun p hp => by
 unfold nlR at hp
 split at hp
 ·rename_i h
  obtain ⟨h1, h2, -⟩ := nlE_ok h
  rw [sortM_mem, nyP_mem (chA_mem (nlG_out h2 n))] at hp
  rcases hp with ⟨ys, -, rfl⟩ | ⟨-, rfl⟩
  ·dsimp only; unfold dyB shB; exact outB_size _
  ·dsimp only; unfold dyB shB; exact outB_size _
 ·simp at hp
theorem png_tx2 {a : ByteArray} (h : gPE a = 0) (h0 : a ≠ ⟨#[48]⟩) (ha : a.size ≤ 20) {s : Nat} (hs : s ≤ 6) : bN (cW a) < bN (qD a) ∧ 0 < bN (cW a) ∧ bN (qD a) < 10 ^ 21 ∧ pngB s a = txQ (mkRat ((bN (qD a) ^ s : Nat) : Int) (bN (cW a) ^ s)) ∧ pngE s a = 0 := by
 have hP := ratio_pos h h0
 obtain ⟨-, hND⟩ := gPE_ok h
 have hT := qD_ten h
 have hV := ratio_mk h
 obtain ⟨hq, -⟩ := ratio_q h
 have hT21 : bN (qD a) < 10 ^ 21 := Nat.lt_of_lt_of_le hT (Nat.pow_le_pow_right (by omega) (by omega))
 have hpw : (fun q : Rat => q⁻¹ ^ s) (mkRat (bN (cW a) : Nat) (bN (qD a))) = mkRat ((bN (qD a) ^ s : Nat) : Int) (bN (cW a) ^ s) := by
  show (mkRat (bN (cW a) : Nat) (bN (qD a)))⁻¹ ^ s = _
  rw [pr_inv, pr_powN]
 have nz : bN (cW a) ^ s ≠ 0 := Nat.ne_of_gt (Nat.pow_pos hP)
 have b1 : bN (qD a) ^ s ≤ (10 ^ 21) ^ 6 := Nat.le_trans (Nat.pow_le_pow_left (by omega) s) (Nat.pow_le_pow_right (by omega) hs)
 have b2 : bN (cW a) ^ s ≤ bN (qD a) ^ s := Nat.pow_le_pow_left (by omega) s
 have d1 := nDigits_le (k := 130) (by omega) (show bN (qD a) ^ s < 10 ^ 130 from Nat.lt_of_le_of_lt b1 (by decide))
 have d2 := nDigits_le (k := 130) (by omega) (show bN (cW a) ^ s < 10 ^ 130 from Nat.lt_of_le_of_lt (Nat.le_trans b2 b1) (by decide))
 have fit : ¬ ovQ (mkRat ((bN (qD a) ^ s : Nat) : Int) (bN (cW a) ^ s)) := (dig_frac (K := 1000) nz (by rw [Int.natAbs_natCast]; omega) (by omega)).fits (by omega) (by omega)
 refine ⟨hND, hP, hT21, ?_, ?_⟩
 ·unfold pngB op1B
  rw [if_pos hq, hV, hpw, outB_fits fit]
 ·unfold pngE op1E
  rw [if_pos hq, hV, hpw, outE_fits fit]
theorem absS_swap : ∀ c c' : List Int, absS (zD c c') = absS (zD c' c)
 | [], [] => rfl
 | [], _ :: _ => rfl
 | _ :: _, [] => rfl
 | x :: r, y :: s => by
  have ih := absS_swap r s
  unfold absS zD at ih ⊢
  simp only [List.zipWith_cons_cons, List.map_cons, List.sum_cons, ih]
  omega
theorem np_main {c c' : List Int} {a : ByteArray} {n : Int} {s : Nat} (h1 : nlE c a n = 0) (h2 : nlE c' a n = 0) (hl : c'.length = c.length) (hc : c.length ≤ 2) (ha : a.size ≤ 20) (ha0 : a ≠ ⟨#[48]⟩) (hn : n ≤ 6) (hs : absS (zD c c') = s) (hs6 : s ≤ 6) :
 ffE a s true = 0 ∧ valM (nlR c a n) lateB = valM (nlR c' a n) lateB ∧
 cmB (bydB (ffB a s true) (nlR c a n) (nlR c' a n)) (op2B (· * ·) (ffB a s true) (valM (nlR c a n) lateB)) ≤ 0 ∧
 cmB (bydB (ffB a s true) (nlR c' a n) (nlR c a n)) (op2B (· * ·) (ffB a s true) (valM (nlR c a n) lateB)) ≤ 0 := by
 obtain ⟨z1, hg, hn0, -, -⟩ := nlE_ok h1
 obtain ⟨p1, p2, p3, p4, p5⟩ := png_tx2 hg ha0 ha hs6
 have hiv : ivrE a = 0 := by unfold ivrE; rw [if_neg (by simpa using hg), if_neg ha0]
 have hX : ffX a s = 0 := by unfold ffX; rw [if_neg (by simpa using hiv), if_neg (by omega)]
 have hM : ffM (s : Nat) true = s := by unfold ffM; rw [if_pos rfl]; omega
 have hFE : ffE a s true = 0 := by unfold ffE; rw [if_neg (by simpa using hX), hM, p5]
 have hFB : ffB a s true = pngB s a := by unfold ffB; rw [if_neg (by simpa using hX), hM]
 refine ⟨hFE, ?_⟩
 rw [hFB, p4, nlR_ok h1, nlR_ok h2]
 obtain ⟨k, hk⟩ : ∃ k : Nat, n.toNat = k := ⟨_, rfl⟩
 obtain ⟨g, hgG⟩ : ∃ g, nlG a n = g := ⟨_, rfl⟩
 have hgV : gV (bN (cW a)) (bN (qD a)) true k = g := by rw [← hgG, ← hk]; rfl
 rw [hgG, hk]
 have hk6 : k ≤ 6 := by omega
 have hm : k * c.length ≤ 12 := Nat.le_trans (Nat.mul_le_mul hk6 hc) (by omega)
 have hpl : (2 * k + 1) ^ c.length ≤ 13 ^ 2 := Nat.le_trans (Nat.pow_le_pow_left (by omega) _) (Nat.pow_le_pow_right (by omega) hc)
 obtain ⟨D, hD⟩ : ∃ D, bN (qD a) = D := ⟨_, rfl⟩
 obtain ⟨N, hN⟩ : ∃ N, bN (cW a) = N := ⟨_, rfl⟩
 rw [hD, hN] at p1 hgV ⊢
 rw [hD] at p3
 rw [hN] at p2
 have b1 : D ^ s ≤ (10 ^ 21) ^ 6 := Nat.le_trans (Nat.pow_le_pow_left (by omega) s) (Nat.pow_le_pow_right (by omega) hs6)
 have hH : D ^ s * 2 ^ (k * c.length) < 10 ^ 130 := Nat.lt_of_le_of_lt (Nat.mul_le_mul b1 (Nat.pow_le_pow_right (by omega) hm)) (by decide)
 have hG : N ^ s * 2 ^ (k * c.length) < 10 ^ 130 := Nat.lt_of_le_of_lt (Nat.mul_le_mul_right _ (Nat.pow_le_pow_left (by omega) s)) hH
 have r1 := nz_private p1 p2 (K := 130) (by omega) hl (by omega) (by omega) hs hG hH hgV
 have r2 := nz_private (n := k) (s := s) p1 p2 (K := 130) (by omega) hl.symm (by rw [hl]; omega) (by rw [hl]; omega) (by rw [absS_swap]; exact hs) (by rw [hl]; exact hG) (by rw [hl]; exact hH) hgV
 refine ⟨r1.2, r1.1, ?_⟩
 rw [r1.2]
 exact r2.1
def nyD (g : Int → Nat) (vs : List Int) (M : Nat) (cs dn : List Int) (x : Nat) : List (ByteArray × ByteArray) := (nzX g vs cs dn x).map (nzM M)
def nyJ (g : Int → Nat) (vs : List Int) (M : Nat) (c : Int) (cs dn : List Int) (x j : Nat) : List (ByteArray × ByteArray) := ((vs.take j).flatMap fun v => nzX g vs cs (dn ++ [c + v]) (x * g v)).map (nzM M)
def nyS (g : Int → Nat) (vs : List Int) (T m x j : Nat) : Nat := x * sV g (vs.take j) * T ^ m
theorem nyD_nil (g : Int → Nat) (vs : List Int) (M : Nat) (dn : List Int) (x : Nat) : nyD g vs M [] dn x = [(jn dn, dyB x M)] := rfl
theorem nyJ_zero (g : Int → Nat) (vs : List Int) (M : Nat) (c : Int) (cs dn : List Int) (x : Nat) : nyJ g vs M c cs dn x 0 = [] := rfl
theorem nyJ_next (g : Int → Nat) {vs : List Int} (M : Nat) (c : Int) (cs dn : List Int) (x : Nat) {j : Nat} {v : Int} (h : vs[j]? = some v) : nyJ g vs M c cs dn x (j + 1) = nyJ g vs M c cs dn x j ++ nyD g vs M cs (dn ++ [c + v]) (x * g v) := by
 unfold nyJ nyD
 rw [List.take_add_one, h, Option.toList_some, List.flatMap_append, List.map_append]
 simp
theorem nyJ_all (g : Int → Nat) (vs : List Int) (M : Nat) (c : Int) (cs dn : List Int) (x : Nat) : nyJ g vs M c cs dn x vs.length = nyD g vs M (c :: cs) dn x := by
 unfold nyJ nyD
 rw [List.take_length, nzX]
theorem nyD_length (g : Int → Nat) (vs : List Int) (M : Nat) (cs dn : List Int) (x : Nat) : (nyD g vs M cs dn x).length = vs.length ^ cs.length := by
 unfold nyD
 rw [List.length_map, nzX_len]
theorem nyJ_length (g : Int → Nat) (vs : List Int) (M : Nat) (c : Int) (cs dn : List Int) (x : Nat) : ∀ j, j ≤ vs.length → (nyJ g vs M c cs dn x j).length = j * vs.length ^ cs.length
 | 0, _ => by rw [nyJ_zero, Nat.zero_mul]; rfl
 | j + 1, h => by
  rw [nyJ_next g M c cs dn x (List.getElem?_eq_getElem (show j < vs.length by omega)), List.length_append, nyJ_length g vs M c cs dn x j (by omega), nyD_length, Nat.add_mul, Nat.one_mul]
theorem nyS_zero (g : Int → Nat) (vs : List Int) (T m x : Nat) : nyS g vs T m x 0 = 0 := by
 unfold nyS sV
 simp
theorem nyS_next (g : Int → Nat) {vs : List Int} (T m x : Nat) {j : Nat} {v : Int} (h : vs[j]? = some v) : nyS g vs T m x (j + 1) = nyS g vs T m x j + x * g v * T ^ m := by
 unfold nyS
 rw [sV_take h, Nat.mul_add, Nat.add_mul]
theorem nyS_all (g : Int → Nat) {vs : List Int} {T : Nat} (h : sV g vs = T) (m x : Nat) : nyS g vs T m x vs.length = x * T ^ (m + 1) := by
 unfold nyS
 rw [List.take_length, h, Nat.pow_succ, Nat.mul_assoc, Nat.mul_comm T]
theorem nyS_le (g : Int → Nat) {vs : List Int} {T : Nat} (h : sV g vs = T) (m x j : Nat) : nyS g vs T m x j ≤ x * T ^ (m + 1) := by
 unfold nyS
 rw [Nat.pow_succ, Nat.mul_comm (T ^ m), ← Nat.mul_assoc]
 exact Nat.mul_le_mul_right _ (Nat.mul_le_mul_left _ (by rw [← h]; exact sV_le j))
theorem zB_short {v : Int} (h : v.natAbs < 10 ^ 20) : (zB v).size ≤ 21 := by
 have h1 : (zB v).size = (Lib.itoa v).length := by rw [← zB_list]; exact (list_size _).symm
 have h2 : ∀ m : Nat, m < 10 ^ 20 → (decDigits m).length ≤ 20 := fun m hm => by
  rw [Go.Lib.decDigits_length]; exact nDigits_le (k := 20) (by omega) hm
 rw [h1]
 unfold Lib.itoa
 split
 ·have := h2 v.natAbs h
  simp only [List.length_cons]; omega
 ·have := h2 v.toNat (by omega)
  omega
theorem jn_short : ∀ {l : List Int} {k : Nat}, l.length = k → (∀ v ∈ l, v.natAbs < 10 ^ 20) → (jn l).size ≤ 22 * k
 | l, 0, hk, _ => by
  rw [List.length_eq_zero_iff.1 hk]; exact Nat.zero_le _
 | l, k + 1, hk, h => by
  obtain ⟨r, v, rfl⟩ : ∃ r v, l = r ++ [v] := ⟨l.dropLast, l.getLast (fun e => by rw [e] at hk; cases hk), (List.dropLast_concat_getLast _).symm⟩
  rw [List.length_append, List.length_singleton] at hk
  have ih := jn_short (l := r) (k := k) (by omega) (fun u hu => h u (List.mem_append_left _ hu))
  have hv := zB_short (h v (by simp))
  rw [jn_snoc, ByteArray.size_append]
  unfold jnS
  split
  ·have : (⟨#[]⟩ : ByteArray).size = 0 := rfl
   omega
  ·rw [ByteArray.size_append]
   have : spB.size = 1 := rfl
   omega
theorem jnS_short {l : List Int} {k : Nat} (hk : l.length = k) (h : ∀ v ∈ l, v.natAbs < 10 ^ 20) : (jnS l).size ≤ 22 * k + 1 := by
 have := jn_short hk h
 unfold jnS
 split
 ·exact Nat.zero_le _
 ·rw [ByteArray.size_append]
  have : spB.size = 1 := rfl
  omega
open Go.Shelf
theorem s_ItoaW (w : World) (v : Int) (h1 : -9223372036854775808 ≤ v) (h2 : v ≤ 9223372036854775807) (hL : Lay w) :
 Calls Tryz.prog 31 #[.int .i64 v] w fun e w' => e = .returned (.string (zB v)) ∧ Below w.heap.size w w' := by
 refine (Tryz.strconv_Itoa v h1 h2 w hL.tab).mono ?_
 rintro e w' ⟨rfl, k, os, rfl⟩
 exact ⟨rfl, below_grow w k os⟩
structure ExS (w W1 : World) (bd br : Nat) (D : List (ByteArray × ByteArray)) (r M : Nat) (W : World) : Prop where
 ltd : bd < W1.heap.size
 ltr : br < W1.heap.size
 ged : w.heap.size ≤ bd
 ger : w.heap.size ≤ br
 ne : bd ≠ br
 big : w.heap.size ≤ W1.heap.size
 size : W1.heap.size ≤ W.heap.size
 rest : ∀ k, k < W1.heap.size → k ≠ bd → k ≠ br → W.heap[k]? = W1.heap[k]?
 d : ∃ v, Blk W bd #[v] 26 ∧ W.ownsRow W1.heap.size 40 2 v D.length (massC D)
 rr : Blk W br #[.string (dyB r M)] 22
 bel : Below w.heap.size w W
theorem ExS.cell {w W1 : World} {bd br : Nat} {D : List (ByteArray × ByteArray)} {r M : Nat} {W : World} (h : ExS w W1 bd br D r M W) {p : Addr} (h1 : p.block < W1.heap.size) (h2 : p.block ≠ bd) (h3 : p.block ≠ br) : W.cell? p = W1.cell? p := World.cell?_of_block (w := W1) (h.rest p.block h1 h2 h3)
theorem ExS.call {w W1 : World} {bd br : Nat} {D : List (ByteArray × ByteArray)} {r M : Nat} {W W' : World} (h : ExS w W1 bd br D r M W) (hb : Below W.heap.size W W') : ExS w W1 bd br D r M W' := by
 obtain ⟨v, h1, h2⟩ := h.d
 exact ⟨h.ltd, h.ltr, h.ged, h.ger, h.ne, h.big, Nat.le_trans h.size hb.size, fun k hk a b => (hb.block k (Nat.lt_of_lt_of_le hk h.size)).trans (h.rest k hk a b), ⟨v, h1.call hb, owns_call h2 hb⟩, h.rr.call hb, bnext h.bel hb⟩
theorem ExS.setr {w W1 : World} {bd br : Nat} {D : List (ByteArray × ByteArray)} {r M : Nat} {W : World} (h : ExS w W1 bd br D r M W) (r' : Nat) : ExS w W1 bd br D r' M (W.setCell ⟨br, 0, none⟩ (.string (dyB r' M))) := by
 obtain ⟨v, h1, h2⟩ := h.d
 refine ⟨h.ltd, h.ltr, h.ged, h.ger, h.ne, h.big, by rw [World.size_setCell]; exact h.size, fun k hk a b => (Below.heap_setCell _ _ _ _ b).trans (h.rest k hk a b), ⟨v, h1.other (a := ⟨br, 0, none⟩) (fun e => h.ne e.symm) _, ownsRow_setCell_below h2 h.ltr _⟩, ?_, h.bel.setCell h.ger _⟩
 have := h.rr.set 0 (.string (dyB r' M))
 simpa using this
theorem ExS.app {w W1 : World} {bd br : Nat} {D : List (ByteArray × ByteArray)} {r M : Nat} {W w3 : World} {v v' : Value} {o : Obj} {p : ByteArray × ByteArray} (h : ExS w W1 bd br D r M W) (hv : Blk W bd #[v] 26) (ho : W.ownsRow W1.heap.size 40 2 v D.length (massC D)) (hown : w3.ownsRow W1.heap.size 40 2 v' (D.length + 1) (massC D ++ [.string p.1, .string p.2])) (hg : (W.alloc o).grownBy w3 v.ownBlock) :
 ExS w W1 bd br (D ++ [p]) r M (w3.setCell ⟨bd, 0, none⟩ v') := by
 have hrow : ∀ k, v.ownBlock = some k → W1.heap.size ≤ k := fun k e => (ho.lt k e).1
 have hs : W.heap.size ≤ w3.heap.size := by have := hg.size; simp at this; omega
 have n1 : v.ownBlock ≠ some bd := fun e => by have := hrow bd e; have := h.ltd; omega
 have n2 : v.ownBlock ≠ some br := fun e => by have := hrow br e; have := h.ltr; omega
 refine ⟨h.ltd, h.ltr, h.ged, h.ger, h.ne, h.big, by rw [World.size_setCell]; exact Nat.le_trans h.size hs, fun k hk a b => ?_, ⟨v', ?_, ?_⟩, ?_, ?_⟩
 ·have hkW : k < W.heap.size := Nat.lt_of_lt_of_le hk h.size
  refine (Below.heap_setCell _ _ _ _ a).trans (((hg.block k (by simp; omega) (fun e => ?_)).trans (Below.heap_alloc _ _ _ hkW)).trans (h.rest k hk a b))
  have := hrow k e.symm; omega
 ·have := (((hv.alloc o).grown hg n1).set 0 v')
  simpa using this
 ·have e1 : (D ++ [p]).length = D.length + 1 := by simp
  have e2 : massC (D ++ [p]) = massC D ++ [.string p.1, .string p.2] := massC_append D [p]
  rw [e1, e2]
  exact ownsRow_setCell_below hown h.ltd _
 ·exact ((h.rr.alloc o).grown hg n2).other (a := ⟨bd, 0, none⟩) h.ne _
 ·exact ((h.bel.alloc h.bel.size o).grown hg (by have := h.bel.size; simp; omega) (fun k e => Nat.le_trans h.big (hrow k e))).setCell h.ged _
theorem na_ext (w W1 : World) (bc bd br bl be : Nat) (vc vl : Value) (c : List Int) (g : Int → Nat) (n nv T : Nat) (vs : List Int) (M : Nat)
 (hc : Blk W1 bc #[vc] 24) (hrc : Row W1 vc (zs c)) (hl : Blk W1 bl #[vl] 63) (hrl : PRow W1 vl (vs.map fun v => (v, dyB (g v) n))) (he : Blk W1 be #[.func (.func 28) #[] #[.pointer (some ⟨bc, 0, none⟩), .pointer (some ⟨bd, 0, none⟩), .pointer (some ⟨br, 0, none⟩), .pointer (some ⟨bl, 0, none⟩), .pointer (some ⟨be, 0, none⟩)]] 65)
 (hne : bc ≠ bd ∧ bc ≠ br ∧ bl ≠ bd ∧ bl ≠ br ∧ be ≠ bd ∧ be ≠ br)
 (hapart : ∀ k, (c ≠ [] ∧ vc.ownBlock = some k) ∨ (vs ≠ [] ∧ vl.ownBlock = some k) → k ≠ bd ∧ k ≠ br)
 (hL : Lay w) (hT : sV g vs = T) (hTz : T ≤ 2 ^ n) (hgv : ∀ v ∈ vs, g v ≤ 2 ^ n ∧ -1000 ≤ v ∧ v ≤ 1000) (hnv : vs.length = nv) (hnv2 : nv ≤ 5000) (hcr : ∀ x ∈ c, -1125899906842624 ≤ x ∧ x ≤ 1125899906842624) (hcl : c.length ≤ 256) (hM : n * c.length = M) (hM2 : M ≤ 1000) :
 ∀ (m i : Nat) (dn : List Int) (x : Nat) (D : List (ByteArray × ByteArray)) (r : Nat) (W : World), dn.length = i → i + m = c.length → ExS w W1 bd br D r M W → x ≤ 2 ^ (n * i) → x * T ^ m ≤ r → r ≤ 2 ^ M → D.length + nv ^ m ≤ 10000 → (∀ v ∈ dn, v.natAbs < 10 ^ 20) →
 Calls Tryz.prog 28 #[.int .i64 (i : Nat), .string (jn dn), .string (dyB x (n * i)), .pointer (some ⟨bc, 0, none⟩), .pointer (some ⟨bd, 0, none⟩), .pointer (some ⟨br, 0, none⟩), .pointer (some ⟨bl, 0, none⟩), .pointer (some ⟨be, 0, none⟩)] W fun e w' => (∃ u, e = .returned u) ∧ ExS w W1 bd br (D ++ nyD g vs M (c.drop i) dn x) (r - x * T ^ m) M w' := by
 obtain ⟨i0, hi0, hz0, hz1, hz2⟩ := info_parts info_mass
 have HC := hid hc; have HRC := hid hrc; have HLB := hid hl; have HRL := hid hrl; have HEB := hid he
 have HNE := hid hne; have HAP := hid hapart; have HL := hid hL; have HTT := hid hT; have HTZ := hid hTz; have HGV := hid hgv; have HNV := hid hnv; have HNV2 := hid hnv2; have HCR := hid hcr; have HCL := hid hcl; have HM := hid hM; have HM2 := hid hM2
 obtain ⟨sc, kc, rfl, q1, q2, q3⟩ := hrc.openZ
 obtain ⟨al, kl, rfl, l1, l2, l3⟩ := hrl.ex
 have L3 := hid l3; have Q3 := hid q3
 have hll : (vs.map fun v => (v, dyB (g v) n)).length = nv := by rw [List.length_map, hnv]
 rw [hll] at HLB l1
 obtain ⟨K, hK⟩ : ∃ K, c.length = K := ⟨_, rfl⟩
 have HK := hid hK
 rw [hK] at HC q1 ⊢
 clear hc hrc hl hrl he hne hapart hL hT hTz hgv hnv hnv2 hcr hcl hM hM2 q3 l3 hll hK
 intro m
 induction m with
 | zero =>
  intro i dn x D r W hdn hi hE hx hxr hr hD hsz
  obtain rfl : i = K := by omega
  rw [Nat.pow_zero, Nat.mul_one] at hxr ⊢
  have hMi : n * i = M := by rw [← HM.out, HK.out]
  have hs0 : (jn dn).size ≤ 1000000 := by have := jn_short hdn hsz; have := HCL.out; have := HK.out; omega
  have hdr : c.drop i = [] := List.drop_eq_nil_of_le (by rw [HK.out]; exact Nat.le_refl _)
  rw [hdr, nyD_nil]
  have hle : x ≤ 2 ^ M := by rw [← hMi]; exact hx
  have HS := fun V hV => hid (q_Sub V (dyB r M) (dyB x M) (Nat.le_trans (dyB_size hr (by have := HM2.out; omega)) (by omega)) (Nat.le_trans (dyB_size hle (by have := HM2.out; omega)) (by omega)) hV)
  rw [dy_sub hr hxr HM2.out] at HS
  rw [hMi]
  obtain ⟨vd, h1, h2⟩ := hE.d
  have HE := hid hE
  have H1 := hid h1; have H2 := hid h2
  have c0 : W.cell? ⟨bc, 0, none⟩ = some (.slice sc i kc) := (hE.cell (p := ⟨bc, 0, none⟩) HC.out.lt HNE.out.1 HNE.out.2.1).trans (HC.out.cell 0)
  have c1 := h1.cell 0
  simp at c1
  have hDl : D.length ≤ 10000 := by omega
  have HD := hid hDl
  have HSL := hid hs0
  obtain ⟨P, hP⟩ : ∃ s, jn dn = s := ⟨_, rfl⟩
  obtain ⟨X, hX⟩ : ∃ s, dyB x M = s := ⟨_, rfl⟩
  obtain ⟨R, hR⟩ : ∃ s, dyB r M = s := ⟨_, rfl⟩
  obtain ⟨ES, hES⟩ : ∃ s, op2E (· - ·) R X = s := ⟨_, rfl⟩
  rw [hR, hX, hES] at HS
  rw [hP, hX]
  have HX := hid hX; have HP := hid hP; have HR := hid hR
  clear hdn hi hE hx hxr hr hD hsz hMi hs0 hdr hle h1 h2 hDl hP hX hR hES
  go_enter Tryz.func28, Tryz.ntmps28
  go_wp2_with (at_builtin; refine wpList_append_own _ rfl _ _ 26 rfl W1.heap.size 40 i0 (.agg #[.string ⟨#[]⟩, .string ⟨#[]⟩]) 2 32 Tryz.underlying26 hi0 hz0 hz1 hz2 rfl (by decide) _ D.length _ rfl (H2.out.alloc _) ⟨W.heap.size, 0, none⟩ 1 1 [.string P, .string X] rfl rfl (cell_two_new W (.string P) (.string X) 40) (by simp [Value.oneCell']) (by have := HD.out; unfold maxLen; omega) (by have := HD.out; omega) (by have := HE.out.size; simp; omega) ?_
               intro v' w3 hown hgrow _
               obtain ⟨g2, cap2, rfl⟩ := ownsRow_succ hown
               have E3 := hid (HE.out.app (p := (P, X)) H1.out H2.out hown hgrow)
               have n1 : vd.ownBlock ≠ some bd := fun e => by have := (H2.out.lt bd e).1; have := HE.out.ltd; omega
               have k0 := ((H1.out.alloc (.cells #[.string P, .string X] 40)).grown hgrow n1).cell 0
               have k1 := ((H1.out.alloc (.cells #[.string P, .string X] 40)).grown hgrow n1).free 0
               simp at k0
               have r0 := E3.out.rr.cell 0
               simp at r0
               rw [HR.out] at r0
               clear hown hgrow n1 c0 c1)
  refine (HS _ (HL.out.call E3.out.bel)).out.mono ?_; rintro e w4 ⟨rfl, hb4⟩
  have E4 := hid (E3.out.call hb4)
  have r1 := E4.out.rr.cell 0
  have r2 := E4.out.rr.free 0
  simp at r1
  clear hb4 k0 k1 r0
  go_wp2_with fail
  have E5 := E4.out.setr (r - x)
  refine bodyPost_ret (results_none rfl _ _ _) rfl ⟨⟨_, rfl⟩, ?_⟩
  exact E5
 | succ m ih =>
  intro i dn x D r W hdn hi hE hx hxr hr hD hsz
  have hiK : i < K := by omega
  have IH := ih
  obtain ⟨ci, hci⟩ : ∃ y, c[i]? = some y := ⟨_, List.getElem?_eq_getElem (by rw [HK.out]; exact hiK)⟩
  have hdrop : c.drop i = ci :: c.drop (i + 1) := by
   have hil : i < c.length := by rw [HK.out]; exact hiK
   rw [List.drop_eq_getElem_cons hil]
   have := List.getElem?_eq_getElem hil
   rw [hci] at this
   rw [Option.some.inj this]
  have hcs : (c.drop (i + 1)).length = m := by rw [List.length_drop, HK.out]; omega
  have hcir := HCR.out ci (List.mem_of_getElem? hci)
  have HCIR := hid hcir
  obtain ⟨gc, oc, rfl, hgc, hcc⟩ := Q3.out i ci hci
  have apc := HAP.out gc (.inl ⟨fun e => by rw [e] at hci; simp at hci, rfl⟩)
  have CC := hid (show ∀ D' r' V, ExS w W1 bd br D' r' M V → V.cell? ⟨bc, 0, none⟩ = some (.slice (some ⟨gc, oc, none⟩) K kc) ∧ V.cell? ⟨gc, oc + i, none⟩ = some (.int .i64 ci) from fun _ _ _ h => ⟨(h.cell (p := ⟨bc, 0, none⟩) HC.out.lt HNE.out.1 HNE.out.2.1).trans (HC.out.cell 0), (h.cell (p := ⟨gc, oc + i, none⟩) hgc apc.1 apc.2).trans hcc⟩)
  have CL := hid (show ∀ D' r' V, ExS w W1 bd br D' r' M V → V.cell? ⟨bl, 0, none⟩ = some (.slice al nv kl) from fun _ _ _ h => (h.cell (p := ⟨bl, 0, none⟩) HLB.out.lt HNE.out.2.2.1 HNE.out.2.2.2.1).trans (HLB.out.cell 0))
  have CE := hid (show ∀ D' r' V, ExS w W1 bd br D' r' M V → V.cell? ⟨be, 0, none⟩ = some (.func (.func 28) #[] #[.pointer (some ⟨bc, 0, none⟩), .pointer (some ⟨bd, 0, none⟩), .pointer (some ⟨br, 0, none⟩), .pointer (some ⟨bl, 0, none⟩), .pointer (some ⟨be, 0, none⟩)]) from fun _ _ _ h => (h.cell (p := ⟨be, 0, none⟩) HEB.out.lt HNE.out.2.2.2.2.1 HNE.out.2.2.2.2.2).trans (HEB.out.cell 0))
  obtain ⟨c0, -⟩ := CC.out _ _ _ hE
  have c1 := CL.out _ _ _ hE
  have t0 : ((i : Int) == (K : Int)) = false := by rw [beq_eq_false_iff_ne]; omega
  have wi1 : IntKind.i64.wrap ((i : Int) + 1) = ((i + 1 : Nat) : Int) := by have := HCL.out; rw [HK.out] at this; rw [IntWalk.i64_in _ ⟨by omega, by omega⟩]; omega
  have hpre : jnS dn = if 0 < i then jn dn ++ spB else jn dn := by
   unfold jnS
   by_cases h : dn = []
   ·rw [if_pos h, if_neg (by rw [h] at hdn; simp at hdn; omega), h]; rfl
   ·rw [if_neg h, if_pos (by have := List.length_pos_iff.2 h; omega)]
  have hs0 : (jn dn).size ≤ 100000 := by have := jn_short hdn hsz; have := HCL.out; have := HK.out; omega
  have hs1 : (jnS dn).size ≤ 100000 := by have := jnS_short hdn hsz; have := HCL.out; have := HK.out; omega
  have HE := hid hE; have HX := hid hx; have HXR := hid hxr; have HR := hid hr; have HD := hid hD; have HSZ := hid hsz; have HDN := hid hdn; have HI := hid hi; have HCI := hid hci; have HDR := hid hdrop; have HCS := hid hcs; have HS0 := hid hs0; have HS1 := hid hs1; have HPRE := hid hpre; have HIK := hid hiK
  obtain ⟨P, hP⟩ : ∃ s, jn dn = s := ⟨_, rfl⟩
  obtain ⟨P1, hP1⟩ : ∃ s, jnS dn = s := ⟨_, rfl⟩
  obtain ⟨X, hX⟩ : ∃ s, dyB x (n * i) = s := ⟨_, rfl⟩
  rw [hP, hP1] at HPRE
  rw [hP] at HS0
  rw [hP1] at HS1
  have HP1 := hid hP1; have HXX := hid hX
  rw [hP, hX]
  clear hdn hi hE hx hxr hr hD hsz hiK hci hdrop hcs hcir hgc hcc apc hs0 hs1 hpre hP hP1 hX ih
  go_enter Tryz.func28, Tryz.ntmps28
  go_upto_if 32 with fail
  go_cut [1] (fun s1 wx => s1 = .string P1 ∧ Hid (W = wx))
  case first =>
   by_cases h0 : 0 < i
   ·have t1 : (0 : Int) < (i : Int) := by omega
    have g1 := HS0.out
    have e1 : Hid (P ++ (⟨#[32]⟩ : ByteArray) = P1) := by show _ = P1; have := HPRE.out; rw [if_pos h0] at this; exact this.symm
    go_wp2_with fail
    go_meet
    exact ⟨by rw [← e1.out], rfl⟩
   ·have t1 : ¬ (0 : Int) < (i : Int) := by omega
    have e1 : Hid (P = P1) := by show P = P1; have := HPRE.out; rw [if_neg h0] at this; exact this.symm
    go_wp2_with fail
    go_meet
    exact ⟨by rw [← e1.out], rfl⟩
  case rest =>
  obtain ⟨rfl, hW⟩ := hcut
  obtain rfl := hW.out
  clear hW c0 t0
  go_wp2_with fail
  go_loopw [12, 13, 14, 37] (fun s12 s13 s14 s37 wr => ∃ j : Nat, s37 = .int .i64 (j : Nat) ∧ j ≤ nv ∧ Hid (ExS w W1 bd br (D ++ nyJ g vs M ci (c.drop (i + 1)) dn x j) (r - nyS g vs T m x j) M wr)) (fun s12 s13 s14 s37 wr => nv - (intOf s37).toNat)
  case atStart => exact ⟨0, rfl, Nat.zero_le _, by rw [nyJ_zero, nyS_zero, List.append_nil, Nat.sub_zero]; exact HE.out⟩
  case round =>
   obtain ⟨j, rfl, hj, hEj⟩ := hrel
   by_cases hlt : j < nv
   ·obtain ⟨v, hv⟩ : ∃ v, vs[j]? = some v := ⟨_, List.getElem?_eq_getElem (by rw [HNV.out]; exact hlt)⟩
    obtain ⟨gl, ol, rfl, hgl, m1, m2⟩ := L3.out j (v, dyB (g v) n) (by rw [List.getElem?_map, hv]; rfl)
    have apl := HAP.out gl (.inr ⟨fun e => by rw [e] at hv; simp at hv, rfl⟩)
    have r1 := (hEj.out.cell (p := ⟨gl, ol + j * 2, none⟩) hgl apl.1 apl.2).trans m1
    have r2 := (hEj.out.cell (p := ⟨gl, ol + j * 2 + 1, none⟩) hgl apl.1 apl.2).trans m2
    obtain ⟨hgv1, hgv2, hgv3⟩ := HGV.out v (List.mem_of_getElem? hv)
    have hcir := HCIR.out
    have f1 : (0 : Int) ≤ (j : Int) := by omega
    have f2 : (j : Int) < (nv : Int) := by omega
    have hnv2 := HNV2.out
    have wj : IntKind.i64.wrap ((j : Int) + 1) = ((j + 1 : Nat) : Int) := by rw [IntWalk.i64_in _ ⟨by omega, by omega⟩]; omega
    have wcv : IntKind.i64.wrap (ci + v) = ci + v := by rw [IntWalk.i64_in _ ⟨by omega, by omega⟩]
    have HLT := hid hlt
    have hMi : n * i + n ≤ M := by
     have h5 : n * (i + 1) ≤ n * K := Nat.mul_le_mul_left n HIK.out
     have h6 := HM.out
     rw [HK.out] at h6
     rw [Nat.mul_add, Nat.mul_one] at h5; omega
    have hXle := HX.out
    have hxg : x * g v ≤ 2 ^ (n * i + n) := by rw [Nat.pow_add]; exact Nat.mul_le_mul hXle hgv1
    have PM := fun V hV => hid (q_Mul V (dyB x (n * i)) (dyB (g v) n) (Nat.le_trans (dyB_size hXle (by have := HM2.out; omega)) (by omega)) (Nat.le_trans (dyB_size hgv1 (by have := HM2.out; omega)) (by omega)) hV)
    rw [dy_mul hXle hgv1 (by have := HM2.out; omega)] at PM
    have PI := fun V hV => hid (s_ItoaW V (ci + v) (by omega) (by omega) hV)
    have hnext := nyS_next g T m x hv
    have hall := nyS_le g HTT.out m x (j + 1)
    rw [hnext] at hall
    have hxrr := HXR.out
    have hJl := nyJ_length g vs M ci (c.drop (i + 1)) dn x j (by rw [HNV.out]; exact hj)
    rw [HCS.out, HNV.out] at hJl
    have hDl := HD.out
    have hpw : (j + 1) * nv ^ m ≤ nv ^ (m + 1) := by rw [Nat.pow_succ, Nat.mul_comm (nv ^ m)]; exact Nat.mul_le_mul_right _ hlt
    rw [Nat.add_mul, Nat.one_mul] at hpw
    have YH := fun V hV => hid (IH (i + 1) (dn ++ [ci + v]) (x * g v) (D ++ nyJ g vs M ci (c.drop (i + 1)) dn x j) (r - nyS g vs T m x j) V (by rw [List.length_append, HDN.out]; rfl) (by have := HI.out; omega) hV (by rw [Nat.mul_add, Nat.mul_one]; exact hxg) (by omega) (Nat.le_trans (Nat.sub_le _ _) HR.out) (by rw [List.length_append, hJl]; omega) (by
     intro u hu
     rcases List.mem_append.1 hu with hu | hu
     ·exact HSZ.out u hu
     ·rw [List.mem_singleton.1 hu]; omega))
    have hjn : jn (dn ++ [ci + v]) = P1 ++ zB (ci + v) := by rw [jn_snoc, HP1.out]
    rw [hjn] at YH
    have HNX := hid (show nyJ g vs M ci (c.drop (i + 1)) dn x (j + 1) = _ from nyJ_next g M ci (c.drop (i + 1)) dn x hv)
    have HNS := hid hnext
    have hzs := zB_short (v := ci + v) (by omega)
    have HZS := hid hzs
    rw [HXX.out] at PM
    have e4 : n * (i + 1) = n * i + n := by rw [Nat.mul_add, Nat.mul_one]
    rw [e4] at YH
    obtain ⟨Q, hQ⟩ : ∃ s, dyB (x * g v) (n * i + n) = s := ⟨_, rfl⟩
    obtain ⟨GV, hGV⟩ : ∃ s, dyB (g v) n = s := ⟨_, rfl⟩
    obtain ⟨ZV, hZV⟩ : ∃ s, zB (ci + v) = s := ⟨_, rfl⟩
    obtain ⟨EM, hEM⟩ : ∃ s, op2E (· * ·) X GV = s := ⟨_, rfl⟩
    rw [hQ, hGV, hEM] at PM
    rw [hGV] at r2
    rw [hZV] at PI HZS
    rw [hQ, hZV] at YH
    clear hv m1 m2 hgl apl hgv1 hgv2 hgv3 hcir hnv2 hlt hMi hXle hxg hnext hall hxrr hJl hDl hpw hjn hzs e4 hQ hGV hZV hEM hj
    go_wp2_with fail
    have AM := hid ((Below.refl wr.heap.size wr).alloc (Nat.le_refl _) (.cells #[.int .i64 v, .string GV] 67))
    have XM := hid (Blk.new wr #[.int .i64 v, .string GV] 67)
    refine (PM _ (HL.out.call (bnext hEj.out.bel AM.out))).out.mono ?_; rintro e w2 ⟨rfl, hb2⟩
    have x2 := hid (bnext AM.out hb2)
    have XM2 := hid (XM.out.call hb2)
    have E2 := hid (hEj.out.call x2.out)
    clear hb2 r1 r2
    go_wp2_with fail
    have KK : Hid (∀ V, Below w2.heap.size w2 V → V.cell? ⟨be, 0, none⟩ = some (.func (.func 28) #[] #[.pointer (some ⟨bc, 0, none⟩), .pointer (some ⟨bd, 0, none⟩), .pointer (some ⟨br, 0, none⟩), .pointer (some ⟨bl, 0, none⟩), .pointer (some ⟨be, 0, none⟩)]) ∧ V.cell? ⟨bc, 0, none⟩ = some (.slice (some ⟨gc, oc, none⟩) K kc) ∧ V.cell? ⟨gc, oc + i, none⟩ = some (.int .i64 ci) ∧ V.cell? ⟨wr.heap.size, 0, none⟩ = some (.int .i64 v)) := fun V hV => by
     have h1 := E2.out.call hV
     obtain ⟨a1, a2⟩ := CC.out _ _ _ h1
     exact ⟨CE.out _ _ _ h1, a1, a2, (XM2.out.call hV).cell 0⟩
    have b1 : (0 : Int) ≤ (i : Int) := by omega
    have b2 : (i : Int) < (K : Int) := by have := HIK.out; omega
    have g1 := HS1.out; have g2 := HZS.out
    have g3 : (9223372036854775807 < P1.size + ZV.size) = False := eq_false (by omega)
    have g4 : ¬ 9223372036854775807 < P1.size + ZV.size := by omega
    refine held_lasts2 14 1 [] [(1, 2), (3, 12), (10, 11), (7, 10), (9, 10), (6, 7), (4, 6), (5, 6), (8, 9)] [0, 1, 2, 3, 4, 5, 6, 7, 8, 9, 10, 13] 2 (fun V => V.cell? ⟨be, 0, none⟩ = some (.func (.func 28) #[] #[.pointer (some ⟨bc, 0, none⟩), .pointer (some ⟨bd, 0, none⟩), .pointer (some ⟨br, 0, none⟩), .pointer (some ⟨bl, 0, none⟩), .pointer (some ⟨be, 0, none⟩)]) ∧ V.cell? ⟨bc, 0, none⟩ = some (.slice (some ⟨gc, oc, none⟩) K kc) ∧ V.cell? ⟨gc, oc + i, none⟩ = some (.int .i64 ci) ∧ V.cell? ⟨wr.heap.size, 0, none⟩ = some (.int .i64 v)) (by kernel_rfl) (by kernel_rfl) (by kernel_rfl) (by kernel_rfl) (by kernel_rfl) (by kernel_rfl) (by kernel_rfl) (by kernel_rfl) (by kernel_rfl) (by kernel_rfl) (by kernel_rfl) (by kernel_rfl) (KK.out _ (Below.refl _ _).drew) ?_
    iterate 12
     refine ⟨_, rfl, ?_⟩
     apply Exists.intro
     refine ⟨.inl ⟨by rfl, ?_⟩, ?_⟩
     ·(intro W' hW'; obtain ⟨z1, z2, z3, z4⟩ := hW'; go_simp; try (with_reducible rfl))
     (dsimp only [Act.put]; try simp only [List.setIfInBounds_toArray, List.set_cons_zero, List.set_cons_succ])
    refine held_one (i := 11) (by kernel_rfl) (by rfl) (by rfl) ?_
    go_wp2_with fail
    refine (PI _ (HL.out.call (bnext E2.out.bel (Below.refl _ _).drew))).out.mono ?_; rintro e w3 ⟨rfl, hb3⟩
    have x3 := hid (show Below w2.heap.size w2 w3 from (Below.refl _ _).drew.trans hb3)
    have E3 := hid (E2.out.call x3.out)
    clear hb3
    go_wp2_with fail
    refine ⟨KK.out _ x3.out, ?_⟩
    refine held_more (is := [12]) (g := 0) (by kernel_rfl) rfl (KK.out _ x3.out) (by kernel_rfl) ?_
    iterate 1
     refine ⟨_, rfl, ?_⟩
     apply Exists.intro
     refine ⟨.inl ⟨by rfl, ?_⟩, ?_⟩
     ·(intro W' hW'; obtain ⟨z1, z2, z3, z4⟩ := hW'; go_simp; try (with_reducible rfl))
     (dsimp only [Act.put]; try simp only [List.setIfInBounds_toArray, List.set_cons_zero, List.set_cons_succ])
    refine wpAnyH_done (by kernel_rfl) ?_ _
    simp only [Only, ThenL, List.drop_succ_cons, List.drop_zero]
    go_wp2_with fail
    try simp only [Only]
    refine (YH _ E3.out).out.mono ?_; rintro e w4 ⟨⟨u, rfl⟩, hE4⟩
    have E4 := hid hE4
    clear hE4
    go_wp2_with fail
    simp only [Only]
    go_wp2_with fail
    go_roundw
    case rel => exact ⟨j + 1, by go_num, by have := HLT.out; omega, by rw [HNX.out, HNS.out, ← List.append_assoc, ← Nat.sub_sub]; exact E4.out⟩
    case measure => simp [intOf] <;> (have := HLT.out; omega)
   ·obtain rfl : j = nv := by omega
    have h1 := nyJ_all g vs M ci (c.drop (i + 1)) dn x
    have h2 := nyS_all g HTT.out m x
    rw [HNV.out] at h1 h2
    rw [← HDR.out] at h1
    have E5 := hid hEj.out
    rw [h1, h2] at E5
    clear h1 h2 hlt hj
    go_wp2_with fail
    refine bodyPost_end (results_none rfl _ _ _) rfl ⟨⟨_, rfl⟩, E5.out⟩
end Go.Proofs.YtgphopkifomffaaGreatDoor
namespace Go.Proofs.YtgphopkifomffaaGreatDoor
open Go.RowKit
open Go.Lib (decDigits nDigits)
def naO (c : List Int) (a : ByteArray) (l : List ByteArray) : Option (List Int) := if naE c a l = 0 then nzO true a c l else none
theorem naO_ok {c : List Int} {a : ByteArray} {l : List ByteArray} {r : Option (List Int)} (h : naE c a l = 0) (h2 : nzO true a c l = r) : naO c a l = r := (if_pos h).trans h2
theorem naO_bad {c : List Int} {a : ByteArray} {l : List ByteArray} (h : naE c a l ≠ 0) : naO c a l = none := if_neg h
structure NaOk (c : List Int) (a : ByteArray) (l : List ByteArray) : Prop where
 z : zE c = 0
 le : c.length ≤ 256
 rng : ∀ x ∈ c, -1125899906842624 ≤ x ∧ x ≤ 1125899906842624
 g : gPE a = 0
 len : l.length = c.length
 b : ∀ x ∈ l, chkE x = 0
theorem zE_zero {c : List Int} (h : zE c = 0) : c.length ≤ 256 ∧ ∀ x ∈ c, -1125899906842624 ≤ x ∧ x ≤ 1125899906842624 := by
 unfold zE at h
 split at h
 ·cases h
 ·rename_i h1
  split at h
  ·cases h
  ·rename_i h2
   refine ⟨by omega, fun x hx => ?_⟩
   have h3 : wildB x = false := by
    rw [Bool.not_eq_true, List.any_eq_false] at h2
    exact Bool.eq_false_iff.2 (h2 x hx)
   unfold wildB at h3
   rw [Bool.or_eq_false_iff] at h3
   have h4 := of_decide_eq_false h3.1
   have h5 := of_decide_eq_false h3.2
   omega
theorem naE_ok {c : List Int} {a : ByteArray} {l : List ByteArray} (h : naE c a l = 0) : NaOk c a l := by
 unfold naE at h
 split at h
 ·rename_i h1; exact absurd h h1
 ·rename_i h1
  have h1 := Classical.byContradiction h1
  split at h
  ·rename_i h2; exact absurd h h2
  ·rename_i h2
   unfold wdE at h
   split at h
   ·rename_i h3
    exact ⟨h1, (zE_zero h1).1, (zE_zero h1).2, Classical.byContradiction h2, by omega, bsE_zero.1 h⟩
   ·cases h
structure NdT (a : ByteArray) (c : List Int) (bs : List ByteArray) (k : Nat) (ys : List Int) : Prop where
 len : ys.length = k
 at_ : ∀ (j : Nat) (x : Int) (y : ByteArray), j < k → c[j]? = some x → bs[j]? = some y → nz1 true a x y = ys[j]?
theorem NdT.zero (a : ByteArray) (c : List Int) (bs : List ByteArray) : NdT a c bs 0 [] := ⟨rfl, fun j x y hj => absurd hj (Nat.not_lt_zero _)⟩
theorem NdT.next {a : ByteArray} {c : List Int} {bs : List ByteArray} {k : Nat} {ys : List Int} (h : NdT a c bs k ys) {x : Int} {b : ByteArray} {v : Int} (hx : c[k]? = some x) (hb : bs[k]? = some b) (hv : nz1 true a x b = some v) : NdT a c bs (k + 1) (ys ++ [v]) :=
 ⟨by rw [List.length_append, h.len]; rfl, fun j u y hj hu hy => by
  by_cases e : j = k
  ·subst e
   rw [hx] at hu; rw [hb] at hy
   cases hu; cases hy
   rw [hv, List.getElem?_append_right (by rw [h.len]; exact Nat.le_refl _), h.len, Nat.sub_self]; rfl
  ·rw [h.at_ j u y (by omega) hu hy, List.getElem?_append_left (by rw [h.len]; omega)]⟩
theorem NdT.all {a : ByteArray} {c : List Int} {bs : List ByteArray} {ys : List Int} (h : NdT a c bs c.length ys) (hl : bs.length = c.length) : nzO true a c bs = some ys :=
 nzO_all hl.symm h.len fun k x y hx hy => h.at_ k x y ((List.getElem?_eq_some_iff.1 hx).1) hx hy
open Go.Sort
open Go.Shelf
open Go.Maps
theorem na_order (p q : ByteArray × ByteArray) (w : World) : Calls Tryz.prog 33 #[.agg #[.string p.1, .string p.2], .agg #[.string q.1, .string q.2]] w fun e w' => e = .returned (.int .i64 (cmpK p q)) ∧ ∃ n os', w' = grow (w.drewN n) os' := by
 obtain ⟨p1, p2⟩ := p
 obtain ⟨q1, q2⟩ := q
 dsimp only
 have HC := fun V => hid (s_Compare V p1 q1)
 unfold cmpK keyL
 dsimp only
 obtain ⟨r, hr⟩ : ∃ r : Int, (if p1.data.toList < q1.data.toList then (-1 : Int) else if q1.data.toList < p1.data.toList then 1 else 0) = r := ⟨_, rfl⟩
 rw [hr] at HC ⊢
 clear hr
 go_enter Tryz.func33, Tryz.ntmps33
 go_wp2_with fail
 refine (HC _).out.mono ?_; rintro e w1 ⟨rfl, rfl⟩
 go_wp2_with fail
 go_ret
 exact ⟨rfl, 0, _, by rw [alloc_eq_grow, alloc_eq_grow, grow_grow]; rfl⟩
theorem na_Law_ok (w : World) (v : Value) (c : List Int) (a : ByteArray) (n : Nat) (hv : Row w v (zs c)) (ha : a.size ≤ 100000) (h0 : nlE c a (n : Nat) = 0) (h9 : (2 * n + 1) ^ c.length ≤ 900) (hL : LayB w) :
 Calls Tryz.prog 8 #[v, .string a, .int .i64 (n : Nat)] w fun e w' => (∃ u, e = .returned (.tuple #[u, .int .i64 0]) ∧ MRow w' u (nlR c a (n : Nat))) ∧ Below w.heap.size w w' := by
 obtain ⟨i0, hi, hz0, hz1, hz2⟩ := info_parts info_mass
 obtain ⟨hzE, hg, -, hn32, -⟩ := nlE_ok h0
 have hn : n ≤ 32 := by omega
 obtain ⟨hcl, hcr⟩ := zE_zero hzE
 have hgl0 : glE a (n : Nat) 32 = 0 := by unfold glE; rw [if_neg (by simpa using hg), if_neg (by omega)]
 have hglR : glR a (n : Nat) true = sortM (glP (gV (bN (cW a)) (bN (qD a)) true n) (2 ^ n) n (gL (bN (cW a)) (bN (qD a)) true n)) := by unfold glR; rw [if_pos hgl0, Int.toNat_natCast]
 have hR := nlR_ok h0
 have hO := nlG_out hg (n : Nat)
 have hA := nlG_all hg (n : Nat)
 rw [Int.toNat_natCast] at hR hO hA
 have hGG : nlG a (n : Nat) = gV (bN (cW a)) (bN (qD a)) true n := rfl
 rw [hR]
 have HCK := fun V hV => hid (na_check V v c hV)
 have HTL := fun V hV => hid (g_TwoLaw V a (n : Nat) ha hV)
 simp only [hzE] at HCK
 simp only [hgl0, hglR] at HTL
 have hN1 : 2 * n + 1 ≤ 1000 := by omega
 have HMY := fun V => hid (na_many V (2 * n + 1) c.length (by omega) hN1 (by omega))
 rw [decide_eq_false (show ¬ 5000 < (2 * n + 1) ^ c.length by omega)] at HMY
 rw [← hGG] at HTL
 obtain ⟨g, hgg⟩ : ∃ g, nlG a (n : Nat) = g := ⟨_, rfl⟩
 obtain ⟨r, hrr⟩ : ∃ r, gL (bN (cW a)) (bN (qD a)) true n = r := ⟨_, rfl⟩
 rw [hgg] at hO hA ⊢
 rw [hrr] at hA
 simp only [hgg, hrr] at HTL
 have hMs : ∀ p ∈ sortM (glP g (2 ^ n) n r), (∃ v : Int, -(n : Int) ≤ v ∧ v ≤ n ∧ p.1 = zB v ∧ kz p.1 = some v ∧ p.2 = dyB (g v) n) ∨ (p.1 = lateB ∧ kz p.1 = none) := fun p hp => chS_mass hp
 have hRun := runs_glP g (2 ^ n) n r
 have hPerm := chS_glP g (2 ^ n) n r
 have hlen : (sortM (glP g (2 ^ n) n r)).length ≤ 100 := by
  rw [sortM_length]
  have : (glP g (2 ^ n) n r).length ≤ 2 * n + 2 := by
   unfold glP glM
   rw [List.length_append]
   have h := List.length_filterMap_le (fun (j : Nat) => if g ((j : Int) - n) = 0 then none else some (zB ((j : Int) - n), shB (g ((j : Int) - n)) (2 ^ n))) (List.range (2 * n + 1))
   rw [List.length_range] at h
   have h2 : (if r = 0 then ([] : List (ByteArray × ByteArray)) else [(lateB, shB r (2 ^ n))]).length ≤ 1 := by split <;> simp
   omega
  omega
 obtain ⟨d, hd⟩ : ∃ d, sortM (glP g (2 ^ n) n r) = d := ⟨_, rfl⟩
 simp only [hd] at HTL
 rw [hd] at hMs hRun hPerm hlen
 have HCH := fun V u hu hV => hid (na_chances V u d g n hu hMs hlen hn hV)
 have hcT : chT g n d d.length = (chS d).map fun v => (v, dyB (g v) n) := by unfold chT; rw [List.take_length]
 simp only [hcT] at HCH
 obtain ⟨vs, hvs⟩ : ∃ vs, chS d = vs := ⟨_, rfl⟩
 rw [hvs] at hPerm hRun
 simp only [hvs] at HCH
 have hsum : sV g vs = zS n g := hRun g fun v h => h
 have hTz : zS n g ≤ 2 ^ n := by omega
 have hgv : ∀ v ∈ vs, g v ≤ 2 ^ n ∧ -1000 ≤ v ∧ v ≤ 1000 := fun v hv => by
  have := chA_g (hPerm.mem_iff.1 hv)
  exact ⟨Nat.le_trans (zS_term hO v) hTz, by omega, by omega⟩
 have hnv : vs.length ≤ 2 * n + 1 := by rw [hPerm.length_eq]; exact chA_length g n
 have hnvp : vs.length ^ c.length ≤ 900 := Nat.le_trans (Nat.pow_le_pow_left hnv _) h9
 have hM5 : n * c.length ≤ 900 := by
  by_cases h0 : n = 0
  ·rw [h0, Nat.zero_mul]; omega
  ·have key : ∀ K : Nat, n * K + 1 ≤ (2 * n + 1) ^ K := by
    intro K
    induction K with
    | zero => simp
    | succ K ih =>
     rw [Nat.pow_succ, Nat.mul_succ]
     have h2 : 1 ≤ (2 * n + 1) ^ K := Nat.pow_pos (by omega)
     have h3 : (2 * n + 1) ^ K + (2 * n + 1) ^ K * (2 * n) ≤ (2 * n + 1) ^ K * (2 * n + 1) := by rw [Nat.mul_add, Nat.mul_one]; omega
     have h4 : 1 * (2 * n) ≤ (2 * n + 1) ^ K * (2 * n) := Nat.mul_le_mul_right _ h2
     omega
   have := key c.length
   omega
 have hnd : vs.Nodup := hPerm.nodup_iff.2 (chA_nd g n)
 rw [← nyP_same hO hPerm c]
 have hND := nyP_nd (g := g) (n := n) hnd c
 obtain ⟨M, hM⟩ : ∃ M, n * c.length = M := ⟨_, rfl⟩
 have hPP : nyP g vs n c = nyD g vs M c [] 1 ++ if nzR g n c.length = 0 then [] else [(lateB, dyB (nzR g n c.length) M)] := by unfold nyP nyD; rw [hM]
 have hDl : (nyD g vs M c [] 1).length ≤ 900 := by rw [nyD_length]; exact hnvp
 have hRl : nzR g n c.length ≤ 2 ^ M := by rw [← hM]; exact nzR_le g n _
 have hRd : 2 ^ M - 1 * zS n g ^ c.length = nzR g n c.length := by unfold nzR; rw [Nat.one_mul, hM]
 have hpw : 1 * zS n g ^ c.length ≤ 2 ^ M := by rw [Nat.one_mul, ← hM]; exact zs_pow hTz _
 have HV := hid hv; have HL := hid hL
 have hcap : ∀ k, c ≠ [] → v.ownBlock = some k → k < w.heap.size := fun k hne e => by
  obtain ⟨s, cp, rfl, -, -, q3⟩ := hv.openZ
  obtain ⟨x, hx⟩ : ∃ x, c[0]? = some x := ⟨_, List.getElem?_eq_getElem (List.length_pos_iff.2 hne)⟩
  obtain ⟨g', o', rfl, hg', -⟩ := q3 0 x hx
  cases e; exact hg'
 obtain ⟨s, cp, rfl, q1, q2, q3⟩ := hv.openZ
 have HCAP := hid hcap; have HSUM := hid hsum; have HTZ := hid hTz; have HGV := hid hgv; have HNV := hid hnv; have HCR := hid hcr; have HCL := hid hcl; have HM := hid hM; have HM5 := hid hM5; have HPP := hid hPP; have HDL := hid hDl; have HRL := hid hRl; have HRD := hid hRd; have HPW := hid hpw; have HND := hid hND; have HNVP := hid hnvp; have HN32 := hid hn
 obtain ⟨T, hT⟩ : ∃ T, zS n g = T := ⟨_, rfl⟩
 obtain ⟨L, hLc⟩ : ∃ L, c.length = L := ⟨_, rfl⟩
 obtain ⟨R, hRR⟩ : ∃ R, nzR g n c.length = R := ⟨_, rfl⟩
 rw [hT] at HSUM HTZ HRD HPW
 rw [hRR] at HPP HRL HRD
 have HLC := hid hLc
 rw [hLc] at HV HMY HCAP q1 ⊢
 simp only [hLc] at HCK
 have hD1 : d.length ≤ 100 := hlen
 obtain ⟨Ld, hLd⟩ : ∃ L, d.length = L := ⟨_, rfl⟩
 have HLD := hid hLd
 have wm1 : IntKind.i64.wrap (2 * (n : Int)) = 2 * (n : Int) := by rw [IntWalk.i64_in _ ⟨by omega, by omega⟩]
 have wm2 : IntKind.i64.wrap (2 * (n : Int) + 1) = ((2 * n + 1 : Nat) : Int) := by rw [IntWalk.i64_in _ ⟨by omega, by omega⟩]; omega
 obtain ⟨N2, hN2⟩ : ∃ N, 2 * n + 1 = N := ⟨_, rfl⟩
 rw [hN2] at HMY wm2
 have A0 := hid ((Below.refl w.heap.size w).alloc (Nat.le_refl _) (.cells #[.slice s L cp] 24))
 have X0 := hid (Blk.new w #[.slice s L cp] 24)
 clear hv ha h0 h9 hL hzE hg hn32 hn hcl hcr hgl0 hglR hR hO hA hGG hgg hrr hMs hRun hPerm hlen hcT hvs hsum hTz hgv hnv hnvp hM5 hnd hND hPP hDl hRl hRd hpw hcap q3 hd hM hN1 hT hRR hLc hD1 hN2
 go_enter Tryz.func8, Tryz.ntmps8
 go_wp2_with fail
 refine (HCK _ (HV.out.call A0.out)).out.mono ?_; rintro e w1 ⟨rfl, rfl⟩
 obtain ⟨w0, hw0⟩ : ∃ W, w.alloc (.cells #[.slice s L cp] 24) = W := ⟨_, rfl⟩
 rw [hw0] at A0 X0 ⊢
 clear hw0
 have x00 := X0.out.cell 0
 simp at x00
 go_wp2_with fail
 refine (HTL _ (HL.out.call A0.out).l).out.mono ?_; rintro e w2 ⟨⟨u2, rfl, hu2⟩, hb2⟩
 have B2 := hid (bnext A0.out hb2)
 have X2 := hid (X0.out.call hb2)
 have U2 := hid hu2
 obtain ⟨ad, cd, rfl, -, -, -⟩ := hu2.ex
 rw [HLD.out] at U2 ⊢
 have x20 := X2.out.cell 0
 simp at x20
 clear hb2 hu2 x00
 go_wp2_with fail
 refine (HMY _).out.mono ?_; rintro e w3 ⟨rfl, rfl⟩
 go_wp2_with fail
 refine (HCH _ _ U2.out (HL.out.call B2.out)).out.mono ?_; rintro e w3 ⟨⟨u3, rfl, ho3⟩, hb3⟩
 have B3 := hid (bnext B2.out hb3)
 have X3 := hid (X2.out.call hb3)
 have O3 := hid ho3
 have P3 := hid (PRow.of_owns ho3)
 obtain ⟨a3, c3, e3, -, -, -⟩ := P3.out.ex
 clear hb3 ho3 x20
 subst e3
 rw [List.length_map] at P3 O3
 obtain ⟨G, hG⟩ : ∃ G, w3.heap.size = G := ⟨_, rfl⟩
 have HG := hid hG
 have S3 := hid B3.out.size
 have XE := hid (Blk.made (((w3.alloc (.cells #[.slice a3 vs.length c3] 63)).alloc (.cells #[.slice none 0 0] 26)).alloc (.cells #[.string ⟨#[49]⟩] 22)) #[.nilFunc] 65 (n := w3.heap.size + 1 + 1 + 1) (by simp))
 have XR := hid ((Blk.made ((w3.alloc (.cells #[.slice a3 vs.length c3] 63)).alloc (.cells #[.slice none 0 0] 26)) #[.string ⟨#[49]⟩] 22 (n := w3.heap.size + 1 + 1) (by simp)).alloc (.cells #[.nilFunc] 65))
 have XD := hid (((Blk.made (w3.alloc (.cells #[.slice a3 vs.length c3] 63)) #[.slice none 0 0] 26 (n := w3.heap.size + 1) (by simp)).alloc (.cells #[.string ⟨#[49]⟩] 22)).alloc (.cells #[.nilFunc] 65))
 have XL := hid ((((Blk.new w3 #[.slice a3 vs.length c3] 63).alloc (.cells #[.slice none 0 0] 26)).alloc (.cells #[.string ⟨#[49]⟩] 22)).alloc (.cells #[.nilFunc] 65))
 have XC := hid ((((X3.out.alloc (.cells #[.slice a3 vs.length c3] 63)).alloc (.cells #[.slice none 0 0] 26)).alloc (.cells #[.string ⟨#[49]⟩] 22)).alloc (.cells #[.nilFunc] 65))
 have BD := hid (((((Below.refl w3.heap.size w3).alloc (Nat.le_refl _) (.cells #[.slice a3 vs.length c3] 63)).alloc (by simp) (.cells #[.slice none 0 0] 26)).alloc (by simp <;> omega) (.cells #[.string ⟨#[49]⟩] 22)).alloc (by simp <;> omega) (.cells #[.nilFunc] 65))
 have ZS := hid (show ((((w3.alloc (.cells #[.slice a3 vs.length c3] 63)).alloc (.cells #[.slice none 0 0] 26)).alloc (.cells #[.string ⟨#[49]⟩] 22)).alloc (.cells #[.nilFunc] 65)).heap.size = w3.heap.size + 1 + 1 + 1 + 1 by simp)
 rw [hG] at XE XR XD XL ZS S3
 have s3 := S3.out
 go_upto_region 13 with fail
 obtain ⟨W0, hW0⟩ : ∃ W, ((((w3.alloc (.cells #[.slice a3 vs.length c3] 63)).alloc (.cells #[.slice none 0 0] 26)).alloc (.cells #[.string ⟨#[49]⟩] 22)).alloc (.cells #[.nilFunc] 65)) = W := ⟨_, rfl⟩
 rw [hW0] at XE XR XD XL XC BD ZS ⊢
 clear hW0
 have e0 := XE.out.cell 0
 have e1 := XE.out.free 0
 simp at e0
 have e2 := (XE.out.set 0 (.func (.func 28) #[] #[.pointer (some ⟨w.heap.size, 0, none⟩), .pointer (some ⟨G + 1, 0, none⟩), .pointer (some ⟨G + 1 + 1, 0, none⟩), .pointer (some ⟨G, 0, none⟩), .pointer (some ⟨G + 1 + 1 + 1, 0, none⟩)])).cell 0
 simp at e2
 have hsf := fun (ad : Addr) (cs : Array Value) (V : World) => run_store Tryz.prog V ad (.func (.func 28) #[] cs) .plain rfl
 clear hG
 go_wp2_with fail
 clear hsf
 obtain ⟨W1, hW1⟩ : ∃ W, W0.setCell ⟨G + 1 + 1 + 1, 0, none⟩ (.func (.func 28) #[] #[.pointer (some ⟨w.heap.size, 0, none⟩), .pointer (some ⟨G + 1, 0, none⟩), .pointer (some ⟨G + 1 + 1, 0, none⟩), .pointer (some ⟨G, 0, none⟩), .pointer (some ⟨G + 1 + 1 + 1, 0, none⟩)]) = W := ⟨_, rfl⟩
 have YE : Hid (Blk W1 (G + 1 + 1 + 1) #[.func (.func 28) #[] #[.pointer (some ⟨w.heap.size, 0, none⟩), .pointer (some ⟨G + 1, 0, none⟩), .pointer (some ⟨G + 1 + 1, 0, none⟩), .pointer (some ⟨G, 0, none⟩), .pointer (some ⟨G + 1 + 1 + 1, 0, none⟩)]] 65) := by rw [← hW1]; show Blk _ _ _ _; have := XE.out.set 0 (.func (.func 28) #[] #[.pointer (some ⟨w.heap.size, 0, none⟩), .pointer (some ⟨G + 1, 0, none⟩), .pointer (some ⟨G + 1 + 1, 0, none⟩), .pointer (some ⟨G, 0, none⟩), .pointer (some ⟨G + 1 + 1 + 1, 0, none⟩)]); simpa using this
 have YR : Hid (Blk W1 (G + 1 + 1) #[.string ⟨#[49]⟩] 22) := by rw [← hW1]; exact XR.out.other (by simp) _
 have YD : Hid (Blk W1 (G + 1) #[.slice none 0 0] 26) := by rw [← hW1]; exact XD.out.other (by simp <;> omega) _
 have YL : Hid (Blk W1 G #[.slice a3 vs.length c3] 63) := by rw [← hW1]; exact XL.out.other (by simp <;> omega) _
 have YC : Hid (Blk W1 w.heap.size #[.slice s L cp] 24) := by rw [← hW1]; exact XC.out.other (by simp <;> omega) _
 have BW : Hid (Below w3.heap.size w3 W1) := by rw [← hW1]; exact BD.out.setCell (by rw [HG.out]; simp <;> omega) _
 have ZW : Hid (W1.heap.size = G + 1 + 1 + 1 + 1) := by rw [← hW1]; show (World.setCell _ _ _).heap.size = _; rw [World.size_setCell]; exact ZS.out
 rw [hW1]
 clear e0 e1 e2 XE XR XD XL XC BD ZS hW1
 have zw := ZW.out
 have hES : ExS w W1 (G + 1) (G + 1 + 1) [] (2 ^ M) M W1 := by
  refine ⟨by omega, by omega, by omega, by omega, by omega, by omega, Nat.le_refl _, fun _ _ _ _ => rfl, ⟨_, YD.out, World.ownsRow_nil _ _ _ _⟩, ?_, ?_⟩
  ·rw [dy_full]; exact YR.out
  ·exact B3.out.trans (BW.out.mono (by rw [HG.out]; exact s3))
 have hrl : PRow W1 (.slice a3 vs.length c3) (vs.map fun v => (v, dyB (g v) n)) := P3.out.call BW.out
 have hrc : Row W1 (.slice s L cp) (zs c) := HV.out.call hES.bel
 have hap : ∀ k, (c ≠ [] ∧ (Value.slice s L cp).ownBlock = some k) ∨ (vs ≠ [] ∧ (Value.slice a3 vs.length c3).ownBlock = some k) → k ≠ G + 1 ∧ k ≠ G + 1 + 1 := fun k hk => by
  rcases hk with ⟨h1, h2⟩ | ⟨h1, h2⟩
  ·have := HCAP.out k h1 h2; omega
  ·have : k < w3.heap.size := (O3.out.lt k h2).2
   rw [HG.out] at this; omega
 have HX0 := na_ext w W1 w.heap.size (G + 1) (G + 1 + 1) G (G + 1 + 1 + 1) (.slice s L cp) (.slice a3 vs.length c3) c g n vs.length T vs M YC.out hrc YL.out hrl YE.out ⟨by omega, by omega, by omega, by omega, by omega, by omega⟩ hap HL.out.l HSUM.out HTZ.out HGV.out rfl (by have := HNV.out; have := HN32.out; omega) HCR.out HCL.out HM.out (by have := HM5.out; have := HM.out; omega) L 0 [] 1 [] (2 ^ M) W1 rfl (by rw [HLC.out]; omega) hES (by rw [Nat.mul_zero]; exact Nat.le_refl _) (by have := HPW.out; rw [HLC.out] at this; exact this) (Nat.le_refl _) (by have := HNVP.out; rw [HLC.out] at this; simp; omega) (by simp)
 rw [Nat.mul_zero, dy_one, List.nil_append, List.drop_zero] at HX0
 have hrd := HRD.out
 rw [HLC.out] at hrd
 rw [hrd] at HX0
 have HX := hid HX0
 have LD : Hid (vs.length ^ L = (nyD g vs M c [] 1).length) := by show _ = _; rw [nyD_length, HLC.out]
 clear hES hrl hrc hap HX0 hrd YE YR YD YL YC X3 U2 P3 O3
 refine HX.out.mono ?_; rintro e w4 ⟨⟨uu, rfl⟩, hE4⟩
 have E4 := hid hE4
 clear hE4
 by_cases hR0 : R = 0
 ·have r0 := E4.out.rr.cell 0
  rw [hR0, dy_zero] at r0
  simp at r0
  have hPP := HPP.out
  rw [if_pos hR0, List.append_nil] at hPP
  have EF := hid E4.out
  rw [← hPP] at EF
  have HFL : Hid ((nyP g vs n c).length ≤ 1000) := by show _ ≤ _; rw [hPP]; have := HDL.out; omega
  have HPOS : Hid (0 < (nyP g vs n c).length) := by
   show 0 < _
   rw [hPP, ← LD.out]
   have h1 := HRD.out
   rw [HLC.out, hR0, Nat.one_mul] at h1
   have h2 := HPW.out
   rw [HLC.out, Nat.one_mul] at h2
   have h3 : 0 < 2 ^ M := Nat.pow_pos (by omega)
   by_cases hL0 : L = 0
   ·rw [hL0, Nat.pow_zero]; omega
   ·refine Nat.pow_pos (Nat.pos_of_ne_zero fun hv0 => ?_)
    have h4 : T = 0 := by rw [← HSUM.out, List.length_eq_zero_iff.1 hv0]; rfl
    rw [h4, Nat.zero_pow (by omega)] at h1
    omega
  obtain ⟨VV, hVV⟩ : ∃ V, w4 = V := ⟨_, rfl⟩
  subst hVV
  clear hPP hR0
  obtain ⟨vd, h1, h2⟩ := EF.out.d
  obtain ⟨gd, cap, rfl, -, -⟩ := h2.form HPOS.out
  have y1 := h1.cell 0
  simp at y1
  have hlt1 := EF.out.ltd
  have hfl := HFL.out
  rcases h2.2 with ⟨e1, _⟩ | ⟨g', cap', cur, e1, hgb, hgh, p1, p2, p3, p4⟩
  ·simp at e1
  simp only [Value.slice.injEq, Option.some.injEq, Addr.mk.injEq, and_true, true_and] at e1
  obtain ⟨rfl, rfl⟩ := e1
  have hSM := s_SortM 33 gd cap W1.heap.size (nyP g vs n c).toArray w4 cur hgb hgh (by simp; omega) p2 p3 (by simp; exact p4) (by simp; omega) (by simpa using HND.out) (enters_of Tryz.func33 (by kernel_rfl) rfl) (fun x y W => na_order x y W)
  simp only [List.size_toArray] at hSM
  have HSM := hid hSM
  obtain ⟨FL, hFLe⟩ : ∃ k, (nyP g vs n c).length = k := ⟨_, rfl⟩
  rw [hFLe] at HSM y1
  clear hSM p1 p2 p3 p4 hgh hgb hfl h1 h2 hFLe
  go_wp2_with fail
  refine HSM.out.mono ?_; rintro e w8 ⟨rfl, ho8, hb8⟩
  have y8 := (hb8.cell (p := ⟨G + 1, 0, none⟩) hlt1).trans y1
  have M8 := hid (MRow.of_owns ho8)
  have B8 := hid (EF.out.bel.trans (hb8.mono EF.out.big))
  clear ho8 hb8 y1
  go_wp2_with fail
  go_ret2
  exact ⟨⟨_, rfl, M8.out⟩, B8.out⟩
 ·have hRle := HRL.out
  have hne : dyB R M ≠ ⟨#[48]⟩ := fun e => hR0 ((dy_eq_zero hRle (by have := HM5.out; have := HM.out; omega)).1 e)
  have r0 := E4.out.rr.cell 0
  simp at r0
  obtain ⟨RT, hRT⟩ : ∃ s, dyB R M = s := ⟨_, rfl⟩
  rw [hRT] at r0 hne
  have t0 : (RT.toList == [48]) = false := ne_lit hne
  have t1 : (RT.toList != [48]) = true := by rw [bne, t0]; rfl
  have hPP := HPP.out
  rw [if_neg hR0, hRT] at hPP
  have HPP2 := hid hPP
  obtain ⟨v0, h1, h2⟩ := E4.out.d
  have H1 := hid h1; have H2 := hid h2
  have y0 := h1.cell 0
  have f0 := h1.free 0
  simp at y0
  have hDl := HDL.out
  clear h1 h2 hRle hne hPP hR0 hRT
  go_wp2_with (at_builtin; refine wpList_append_own _ rfl _ _ 26 rfl W1.heap.size 40 i0 (.agg #[.string ⟨#[]⟩, .string ⟨#[]⟩]) 2 32 Tryz.underlying26 hi hz0 hz1 hz2 rfl (by decide) _ (nyD g vs M c [] 1).length _ rfl (H2.out.alloc _) ⟨w4.heap.size, 0, none⟩ 1 1 [.string ⟨#[108, 97, 116, 101]⟩, .string RT] rfl rfl (cell_two_new w4 (.string ⟨#[108, 97, 116, 101]⟩) (.string RT) 40) (by simp [Value.oneCell']) (by unfold maxLen; omega) (by omega) (by have := E4.out.size; simp; omega) ?_
               intro v' w5 hown hgrow _
               obtain ⟨g5, cap5, rfl⟩ := ownsRow_succ hown
               have E5 := hid (E4.out.app (p := (⟨#[108, 97, 116, 101]⟩, RT)) H1.out H2.out hown hgrow)
               have n1 : v0.ownBlock ≠ some (G + 1) := fun e => by have := (H2.out.lt _ e).1; have := E4.out.ltd; omega
               have k0 := ((H1.out.alloc (.cells #[.string ⟨#[108, 97, 116, 101]⟩, .string RT] 40)).grown hgrow n1).cell 0
               have k1 := ((H1.out.alloc (.cells #[.string ⟨#[108, 97, 116, 101]⟩, .string RT] 40)).grown hgrow n1).free 0
               simp at k0
               have k2 : (w5.setCell ⟨G + 1, 0, none⟩ (.slice (some ⟨g5, 0, none⟩) ((nyD g vs M c [] 1).length + 1) cap5)).cell? ⟨G + 1, 0, none⟩ = some (.slice (some ⟨g5, 0, none⟩) ((nyD g vs M c [] 1).length + 1) cap5) := by
                have := (((H1.out.alloc (.cells #[.string ⟨#[108, 97, 116, 101]⟩, .string RT] 40)).grown hgrow n1).set 0 (.slice (some ⟨g5, 0, none⟩) ((nyD g vs M c [] 1).length + 1) cap5)).cell 0
                simpa using this
               have O5 := hid (show (w5.setCell ⟨G + 1, 0, none⟩ (.slice (some ⟨g5, 0, none⟩) ((nyD g vs M c [] 1).length + 1) cap5)).ownsRow W1.heap.size 40 2 (.slice (some ⟨g5, 0, none⟩) ((nyD g vs M c [] 1).length + 1) cap5) ((nyD g vs M c [] 1).length + 1) (massC (nyP g vs n c)) from by
                have h3 := ownsRow_setCell_below (a := ⟨G + 1, 0, none⟩) hown E4.out.ltd (.slice (some ⟨g5, 0, none⟩) ((nyD g vs M c [] 1).length + 1) cap5)
                rw [HPP2.out, massC_append]
                exact h3)
               have hl : (nyD g vs M c [] 1).length + 1 = (nyP g vs n c).length := by rw [HPP2.out, List.length_append]; rfl
               rw [hl] at E5 O5 k2
               obtain ⟨V5, hV5⟩ : ∃ V, w5.setCell ⟨G + 1, 0, none⟩ (.slice (some ⟨g5, 0, none⟩) (nyP g vs n c).length cap5) = V := ⟨_, rfl⟩
               rw [hV5] at E5 O5 k2
               have HV5 := hid hV5
               clear hown hgrow n1 y0 hV5)
  rw [HV5.out]
  have h2 := O5.out
  have y1 := k2
  have hlt1 := E5.out.ltd
  have hfl : (nyP g vs n c).length ≤ 1000 := by have := HDL.out; omega
  rcases h2.2 with ⟨e1, _⟩ | ⟨g', cap', cur, e1, hgb, hgh, p1, p2, p3, p4⟩
  ·simp at e1
  simp only [Value.slice.injEq, Option.some.injEq, Addr.mk.injEq, and_true, true_and] at e1
  obtain ⟨rfl, rfl⟩ := e1
  have hSM := s_SortM 33 g5 cap5 W1.heap.size (nyP g vs n c).toArray V5 cur hgb hgh (by simp; omega) p2 p3 (by simp; exact p4) (by simp; omega) (by simpa using HND.out) (enters_of Tryz.func33 (by kernel_rfl) rfl) (fun x y W => na_order x y W)
  simp only [List.size_toArray] at hSM
  have HSM := hid hSM
  obtain ⟨FL, hFLe⟩ : ∃ k, (nyP g vs n c).length = k := ⟨_, rfl⟩
  rw [hFLe] at HSM y1 ⊢
  clear hSM p1 p2 p3 p4 hgh hgb hfl h2 hFLe k2 hl k0 k1 r0 f0
  try go_wp2_with fail
  refine HSM.out.mono ?_; rintro e w8 ⟨rfl, ho8, hb8⟩
  have y8 := (hb8.cell (p := ⟨G + 1, 0, none⟩) hlt1).trans y1
  have M8 := hid (MRow.of_owns ho8)
  have B8 := hid (E5.out.bel.trans (hb8.mono E5.out.big))
  clear ho8 hb8 y1
  go_wp2_with fail
  go_ret2
  exact ⟨⟨_, rfl, M8.out⟩, B8.out⟩
theorem na_Law (w : World) (v : Value) (c : List Int) (a : ByteArray) (n : Int) (hv : Row w v (zs c)) (ha : a.size ≤ 100000) (h9 : nlE c a n = 0 → (2 * n.toNat + 1) ^ c.length ≤ 900) (hL : LayB w) :
 Calls Tryz.prog 8 #[v, .string a, .int .i64 n] w fun e w' => (∃ u, e = .returned (.tuple #[u, .int .i64 (nlE c a n)]) ∧ MRow w' u (nlR c a n)) ∧ Below w.heap.size w w' := by
 by_cases h0 : nlE c a n = 0
 ·obtain ⟨-, -, hn0, -, -⟩ := nlE_ok h0
  obtain ⟨m, rfl⟩ : ∃ m : Nat, n = (m : Nat) := ⟨n.toNat, by omega⟩
  have h := h9 h0
  rw [Int.toNat_natCast] at h
  rw [h0]
  exact na_Law_ok w v c a m hv ha h0 h hL
 ·have e2 : nlR c a n = [] := if_neg h0
  rw [e2]
  have HCK := fun V hV => hid (na_check V v c hV)
  have HTL := fun V hV => hid (g_TwoLaw V a n ha hV)
  obtain ⟨s, cp, rfl, q1, q2, q3⟩ := hv.openZ
  have HV := hid hv; have HL := hid hL
  obtain ⟨L, hLc⟩ : ∃ L, c.length = L := ⟨_, rfl⟩
  unfold nlE at h0 ⊢
  obtain ⟨z, hz⟩ : ∃ z, zE c = z := ⟨_, rfl⟩
  have hz0 := hz
  rw [hz] at h0 ⊢
  simp only [hz, hLc] at HCK
  rw [hLc] at HV h0 q1 ⊢
  have A0 := hid ((Below.refl w.heap.size w).alloc (Nat.le_refl _) (.cells #[.slice s L cp] 24))
  have X0 := hid (Blk.new w #[.slice s L cp] 24)
  by_cases c0 : z = 0
  case neg =>
   rw [if_pos c0]
   have t0 : (z == 0) = false := by rw [beq_eq_false_iff_ne]; exact c0
   clear hv q3 hLc hz hz0 h0 c0 ha hL h9
   go_enter Tryz.func8, Tryz.ntmps8
   go_wp2_with fail
   refine (HCK _ (HV.out.call A0.out)).out.mono ?_; rintro e w1 ⟨rfl, rfl⟩
   go_wp2_with fail
   go_ret2
   exact ⟨⟨_, rfl, MRow.nil _⟩, A0.out⟩
  subst c0
  rw [if_neg (by simp)] at h0 ⊢
  obtain ⟨y, hy⟩ : ∃ y, glE a n 32 = y := ⟨_, rfl⟩
  obtain ⟨LR, hLR⟩ : ∃ y, glR a n true = y := ⟨_, rfl⟩
  have hy0 := hy
  rw [hy] at h0 ⊢
  simp only [hy, hLR] at HTL
  obtain ⟨LL, hLL⟩ : ∃ k, LR.length = k := ⟨_, rfl⟩
  have HLL := hid hLL
  by_cases c1 : y = 0
  case neg =>
   rw [if_pos c1]
   have t0 : (y == 0) = false := by rw [beq_eq_false_iff_ne]; exact c1
   clear hv q3 hLc hz hz0 h0 c1 ha hL h9 hy hy0 hLR hLL
   go_enter Tryz.func8, Tryz.ntmps8
   go_wp2_with fail
   refine (HCK _ (HV.out.call A0.out)).out.mono ?_; rintro e w1 ⟨rfl, rfl⟩
   go_wp2_with fail
   refine (HTL _ (HL.out.call A0.out).l).out.mono ?_; rintro e w2 ⟨⟨u2, rfl, hu2⟩, hb2⟩
   have B2 := hid (bnext A0.out hb2)
   obtain ⟨ad, cd, rfl, -, -, -⟩ := hu2.ex
   clear hu2 hb2
   go_wp2_with fail
   go_ret2
   exact ⟨⟨_, rfl, MRow.nil _⟩, B2.out⟩
  subst c1
  rw [if_neg (by simp)] at h0 ⊢
  have h5 : 5000 < (2 * n.toNat + 1) ^ L := Classical.byContradiction fun h => h0 (if_neg h)
  rw [if_pos h5]
  obtain ⟨-, hn0, hn32⟩ := glE_ok hy0
  obtain ⟨m, rfl⟩ : ∃ m : Nat, n = (m : Nat) := ⟨n.toNat, by omega⟩
  rw [Int.toNat_natCast] at h5
  have hl256 : L ≤ 256 := by rw [← hLc]; exact (zE_zero hz0).1
  have HMY := fun V => hid (na_many V (2 * m + 1) L (by omega) (by omega) (by omega))
  rw [decide_eq_true h5] at HMY
  have wm1 : IntKind.i64.wrap (2 * (m : Int)) = 2 * (m : Int) := by rw [IntWalk.i64_in _ ⟨by omega, by omega⟩]
  have wm2 : IntKind.i64.wrap (2 * (m : Int) + 1) = ((2 * m + 1 : Nat) : Int) := by rw [IntWalk.i64_in _ ⟨by omega, by omega⟩]; omega
  obtain ⟨N2, hN2⟩ : ∃ N, 2 * m + 1 = N := ⟨_, rfl⟩
  rw [hN2] at HMY wm2
  clear hv q3 hLc hz hz0 h0 ha hL h9 hy hy0 hLR hLL h5 hn0 hn32 hl256 hN2
  go_enter Tryz.func8, Tryz.ntmps8
  go_wp2_with fail
  refine (HCK _ (HV.out.call A0.out)).out.mono ?_; rintro e w1 ⟨rfl, rfl⟩
  obtain ⟨w0, hw0⟩ : ∃ W, w.alloc (.cells #[.slice s L cp] 24) = W := ⟨_, rfl⟩
  rw [hw0] at A0 X0 ⊢
  clear hw0
  go_wp2_with fail
  refine (HTL _ (HL.out.call A0.out).l).out.mono ?_; rintro e w2 ⟨⟨u2, rfl, hu2⟩, hb2⟩
  have B2 := hid (bnext A0.out hb2)
  have x20 := (X0.out.call hb2).cell 0
  simp at x20
  obtain ⟨ad, cd, rfl, -, -, -⟩ := hu2.ex
  clear hu2 hb2
  go_wp2_with fail
  refine (HMY _).out.mono ?_; rintro e w3 ⟨rfl, rfl⟩
  go_wp2_with fail
  go_ret2
  exact ⟨⟨_, rfl, MRow.nil _⟩, B2.out⟩
end Go.Proofs.YtgphopkifomffaaGreatDoor
namespace Go.Proofs.YtgphopkifomffaaGreatDoor
open Go.RowKit
open Go.Shelf
open Go.Lib (decDigits nDigits)
theorem na_words (w : World) (v : Value) (l : List ByteArray) (m : Int) (h : Row w v (strs l)) (hsz : ∀ b ∈ l, b.size ≤ 100000000) :
 Calls Tryz.prog 37 #[v, .int .i64 m] w fun e w' => e = .returned (.int .i64 (wdE l m)) ∧ Below w.heap.size w w' := by
 obtain ⟨a, c, rfl, h1, h2, h3⟩ := h.openS
 obtain ⟨n, hn⟩ : ∃ n, l.length = n := ⟨_, rfl⟩
 unfold wdE
 rw [hn] at h1 ⊢
 by_cases hm : (n : Int) = m
 ·rw [if_pos hm]
  have H3 := hid h3; have HN := hid hn; have HSZ := hid hsz
  have q0 : ((n : Int) == m) = true := by rw [beq_iff_eq]; exact hm
  obtain ⟨X, hX⟩ : ∃ X : Int, bsE l = X := ⟨_, rfl⟩
  have HX := hid hX
  rw [hX]
  subst hm
  clear h h3 hn hX hsz q0
  go_enter Tryz.func37, Tryz.ntmps37
  go_wp2_with fail
  go_loopw [14] (fun ii wr => ∃ i : Nat, ii = .int .i64 i ∧ i ≤ n ∧ Hid (∀ (j : Nat) (b : ByteArray), j < i → l[j]? = some b → chkE b = 0) ∧ Hid (Below w.heap.size w wr)) (fun ii wr => n - (intOf ii).toNat)
  case atStart => exact ⟨0, rfl, Nat.zero_le _, fun j b hj => absurd hj (by omega), Below.refl _ _⟩
  case round =>
   obtain ⟨i, rfl, hi, hI, hB⟩ := hrel
   by_cases hlt : i < n
   ·obtain ⟨x, hx⟩ : ∃ x, l[i]? = some x := ⟨_, List.getElem?_eq_getElem (by rw [HN.out]; exact hlt)⟩
    obtain ⟨g, o, rfl, hg, hc⟩ := H3.out i x hx
    have d0 := (hB.out.cell (p := ⟨g, o + i, none⟩) hg).trans hc
    have b1 : (0 : Int) ≤ (i : Int) := by omega
    have b2 : (i : Int) < (n : Int) := by omega
    have wi : IntKind.i64.wrap ((i : Int) + 1) = (i : Int) + 1 := by rw [IntWalk.i64_in _ ⟨by omega, by omega⟩]
    have PN := fun W => hid (b_Check W x (HSZ.out x (List.mem_of_getElem? hx)))
    have hce := chkE_err x
    obtain ⟨y, hy⟩ : ∃ y, bitE x = y := ⟨_, rfl⟩
    rw [hy] at PN hce
    have HXX := hid hx; have HC := hid hce
    have hdrop : l.drop i = x :: l.drop (i + 1) := by
     have hil : i < l.length := by rw [HN.out]; exact hlt
     rw [List.drop_eq_getElem_cons hil]
     have := List.getElem?_eq_getElem hil
     rw [hx] at this
     rw [Option.some.inj this]
    have HD := hid hdrop
    clear hx hy hc hdrop hce
    by_cases hy0 : y = 0
    ·subst hy0
     by_cases hl : 256 < x.size
     ·have q2 : decide ((256 : Int) < (x.size : Int)) = true := by simp; omega
      have HE : Hid (X = 4) := by
       show X = 4
       have e : chkE x = 4 := by rw [HC.out, if_neg (by simp), if_pos hl]
       rw [← HX.out, bsE_at hI.out, HD.out, bsE, e, if_pos (by decide)]
      clear hl
      go_wp2_with fail
      refine (PN _).out.mono ?_; rintro e w1 ⟨rfl, hb1⟩
      have y1 := hid (bnext hB.out hb1); clear hb1
      go_wp2_with fail
      go_ret
      exact ⟨by rw [HE.out]; rfl, y1.out⟩
     ·have q2 : decide ((256 : Int) < (x.size : Int)) = false := by simp; omega
      have HE : Hid (chkE x = 0) := by
       show chkE x = 0
       rw [HC.out, if_neg (by simp), if_neg hl]
      clear hl
      go_wp2_with fail
      refine (PN _).out.mono ?_; rintro e w1 ⟨rfl, hb1⟩
      have y1 := hid (bnext hB.out hb1); clear hb1
      go_wp2_with fail
      go_roundw
      case rel => exact ⟨i + 1, rfl, by omega, fun j b hj hjb => by
       by_cases e : j = i
       ·subst e; rw [HXX.out] at hjb; cases hjb; exact HE.out
       ·exact hI.out j b (by omega) hjb, y1.out⟩
      case measure => simp [intOf] <;> omega
    ·have q3 : (y == 0) = false := by rw [beq_eq_false_iff_ne]; exact hy0
     have HE : Hid (X = y) := by
      show X = y
      have e : chkE x = y := by rw [HC.out, if_pos hy0]
      rw [← HX.out, bsE_at hI.out, HD.out, bsE, e, if_pos hy0]
     clear hy0
     go_wp2_with fail
     refine (PN _).out.mono ?_; rintro e w1 ⟨rfl, hb1⟩
     have y1 := hid (bnext hB.out hb1); clear hb1
     go_wp2_with fail
     go_ret
     exact ⟨by rw [HE.out]; rfl, y1.out⟩
   ·obtain rfl : i = n := by omega
    have HE : Hid (X = 0) := by
     show X = 0
     have hd : l.drop i = [] := List.drop_eq_nil_of_le (by rw [HN.out]; exact Nat.le_refl _)
     rw [← HX.out, bsE_at hI.out, hd]; rfl
    go_wp2_with fail
    go_ret
    exact ⟨by rw [HE.out]; rfl, hB.out⟩
 ·rw [if_neg hm]
  have q0 : ((n : Int) == m) = false := by rw [beq_eq_false_iff_ne]; exact hm
  clear h h3 hn hsz hm
  go_enter Tryz.func37, Tryz.ntmps37
  go_wp2_with fail
  go_ret
  exact ⟨rfl, Below.refl _ _⟩
end Go.Proofs.YtgphopkifomffaaGreatDoor
namespace Go.Proofs.YtgphopkifomffaaGreatDoor
open Go.RowKit
open Go.Shelf
attribute [local go_sem] Oper.semAt_some
theorem keepsF_below {B : Nat} {W W' : World} (h : Below W.heap.size W W') : KeepsFrom B W W' := ⟨h.size, fun k o hk ho hc => (h.block k (Array.getElem?_eq_some_iff.1 ho).1).trans ho⟩
open Go.Lib (decDigits nDigits)
attribute [local go_sem] Oper.semAt_some
theorem na_pairs (w : World) (s : Option Addr) (n k : Nat) (t : Option Addr) (n2 k2 : Nat) :
 Calls Tryz.prog 38 #[.slice s n k, .slice t n2 k2] w fun e w' => e = .returned (.func (.func 71) #[] #[.pointer (some ⟨w.heap.size, 0, none⟩), .pointer (some ⟨w.heap.size + 1, 0, none⟩)]) ∧ w' = (w.alloc (.cells #[.slice s n k] 24)).alloc (.cells #[.slice t n2 k2] 30) := by
 go_enter Tryz.func38, Tryz.ntmps38
 go_wp2_with fail
 go_ret
 exact ⟨rfl, rfl⟩
def prNext (c : List Int) (bs : List ByteArray) (pre : List (Int × ByteArray)) (x : Int × ByteArray) : Prop := c[pre.length]? = some x.1 ∧ bs[pre.length]? = some x.2
theorem pairs_feeds {Kp : World → World → Prop} (n : Nat) (hn : 1 ≤ n) (w : World) (bl bm : Nat) (vc vb : Value) (c : List Int) (bs : List ByteArray) (hlen : c.length = bs.length) (hcl : c.length ≤ 256)
 (hKr : ∀ W, Kp W W) (hKt : ∀ {A B C : World}, Kp A B → Kp B C → Kp A C)
 (hread : ∀ W1 W2, Below w.heap.size w W1 → Kp W1 W2 → W2.cell? ⟨bl, 0, none⟩ = some vc ∧ W2.cell? ⟨bm, 0, none⟩ = some vb ∧ Row W2 vc (zs c) ∧ Row W2 vb (strs bs)) (hKb : ∀ W1 W2, Below W1.heap.size W1 W2 → Kp W1 W2) :
 Feeds n Tryz.prog 71 #[.pointer (some ⟨bl, 0, none⟩), .pointer (some ⟨bm, 0, none⟩)] (fun x : Int × ByteArray => #[.int .i64 x.1, .string x.2]) Kp (prNext c bs) (fun xs => xs.length = c.length) (fun _ => True) w := by
 intro l J Jx W hW hJ hJx hY h0
 have HR := hid hread; have HY := hid hY; have HW := hid hW; have HJ := hid hJ; have HJx := hid hJx
 have HKr := hid hKr; have HKt : Hid (∀ A B C : World, Kp A B → Kp B C → Kp A C) := fun A B C h k => hKt h k
 have HKb := hid hKb; have HLN := hid hlen
 obtain ⟨c0, -, r0, -⟩ := hread W W hW (hKr W)
 obtain ⟨s, cp, rfl, q1, q2, -⟩ := r0.openZ
 obtain ⟨N, hN⟩ : ∃ N, c.length = N := ⟨_, rfl⟩
 have HN := hid hN
 rw [hN] at HR c0 q1 hcl
 clear hread hY hW hJ hJx hKr hKt hKb hlen r0 hN
 refine callsIn_of_wp Tryz.func71 rfl trivial ?_ rfl
 simp only [Tryz.ntmps71, List.size_toArray, List.length_cons, List.length_nil, Nat.reduceAdd, Nat.reduceSub, Array.replicate_succ, Array.replicate_zero, List.push_toArray, List.append_toArray, List.nil_append, List.cons_append]
 gi_wp2
 gi_loopw [8] (fun ii wr => ∃ p : List (Int × ByteArray), ii = .int .i64 (p.length : Nat) ∧ p.length ≤ N ∧ Hid (J p wr) ∧ Hid (Kp W wr)) (fun ii wr => N - (intOf ii).toNat)
 case atStart => exact ⟨[], rfl, Nat.zero_le _, h0, HKr.out W⟩
 case round =>
  obtain ⟨pre, rfl, hp, hJ, hK⟩ := hrel
  obtain ⟨i, hi⟩ : ∃ i, pre.length = i := ⟨_, rfl⟩
  have HI := hid hi
  rw [hi] at hp ⊢
  clear hi
  by_cases hlt : i < N
  ·obtain ⟨x, hx⟩ : ∃ x, c[i]? = some x := ⟨_, List.getElem?_eq_getElem (by rw [HN.out]; exact hlt)⟩
   obtain ⟨b, hb⟩ : ∃ b, bs[i]? = some b := ⟨_, List.getElem?_eq_getElem (by have := HLN.out; have := HN.out; omega)⟩
   obtain ⟨-, c2, hrow, hrowb⟩ := HR.out W wr HW.out hK.out
   obtain ⟨a', c', e, -, -, hcell⟩ := hrow.openZ
   simp only [Value.slice.injEq] at e
   obtain ⟨rfl, -, rfl⟩ := e
   obtain ⟨g, o, rfl, hg, hc⟩ := hcell i x hx
   obtain ⟨a2, k2, rfl, -, -, hcell2⟩ := hrowb.openS
   obtain ⟨g2, o2, rfl, hg2, hc2⟩ := hcell2 i b hb
   obtain ⟨N2, hN2⟩ : ∃ N2, bs.length = N2 := ⟨_, rfl⟩
   have hi2 : i < N2 := by have := HLN.out; have := HN.out; omega
   rw [hN2] at c2
   have HX := hid hx; have HB := hid hb
   have b1 : (0 : Int) ≤ (i : Int) := by omega
   have b2 : (i : Int) < (N : Int) := by omega
   have b3 : (i : Int) < (N2 : Int) := by omega
   have wi : IntKind.i64.wrap ((i : Int) + 1) = (i : Int) + 1 := by rw [IntWalk.i64_in _ ⟨by omega, by omega⟩]
   have HLT := hid hlt
   have hok : prNext c bs pre (x, b) := ⟨by rw [HI.out]; exact HX.out, by rw [HI.out]; exact HB.out⟩
   have HOK := hid hok
   obtain ⟨fn, tmps, assign, body, hy, hR⟩ := HY.out pre (x, b) wr hok hJ.out
   have HYR := hid hR
   clear hx hb hrow hrowb hcell hcell2 hN2 hi2 hok hR hlt hp hg hg2
   gi_wp2_with fail
   refine HYR.out.mono ?_
   rintro e W3 (⟨rfl, hJ3, hk3⟩ | ⟨rfl, hJx3⟩)
   ·have HJ3 := hid hJ3; have HK3 := hid (HKt.out _ _ _ hK.out hk3)
    clear hJ3 hk3 hy
    gi_wp2_with fail
    go_roundw
    case rel => exact ⟨pre ++ [(x, b)], by rw [List.length_append, HI.out]; rfl, by rw [List.length_append, HI.out]; exact HLT.out, HJ3, HK3⟩
    case measure => simp [intOf] <;> (have := HLT.out; omega)
   ·clear hy
    gi_wp2_with fail
    refine bodyPost_ret (results_none rfl _ _ _) rfl ?_
    exact ⟨⟨_, rfl⟩, .inr ⟨_, trivial, hJx3⟩⟩
  ·obtain rfl : i = N := by omega
   gi_wp2_with fail
   refine bodyPost_end (results_none rfl _ _ _) rfl ?_
   exact ⟨⟨_, rfl⟩, .inl ⟨pre, by rw [HI.out, HN.out], hJ.out⟩⟩
end Go.Proofs.YtgphopkifomffaaGreatDoor
namespace Go.Proofs.YtgphopkifomffaaGreatDoor
open Go.RowKit
open Go.Lib (decDigits nDigits)
theorem wT_bound (a b : ByteArray) (hb : b.size ≤ 256) : -256 ≤ (wT a b).2.1 ∧ (wT a b).2.1 ≤ 256 := by
 unfold wT
 split
 ·rename_i h
  have he : gPE a = 0 := by
   unfold gE at h
   split at h
   ·rename_i h2; exact absurd h h2
   ·rename_i h2; exact Classical.byContradiction h2
  have hl : b.data.toList.length = b.size := list_size b
  obtain ⟨u, _, h2⟩ := drT_is (gPE_ok he).2 true b.data.toList
  have e : twoT (bN (cW a)) (bN (qD a)) b.data.toList = drT (bN (cW a)) (bN (qD a)) true b.data.toList := rfl
  rw [e]
  rcases h2 with ⟨-, h2⟩ | ⟨v, h3, h4, -, h2⟩
  ·rw [h2]; simp
  ·rw [h2]; simp; omega
 ·simp
open Go.Shelf
theorem info_intO : (Tryz.prog.info? 3).map (fun i => (i.zero, i.size, i.bytes)) = some (some (.int .i64 0), 1, 8) := by kernel_rfl
attribute [local go_sem] Oper.semAt_some
theorem marks_retN {n : Nat} {P : Program} {fn : Func} {R : Ending → World → Prop} {tmps : Array Value} {W : World} {v : Value} (hv : (results fn tmps).run P W = .ok v W) (hR : R (.returned v) W) :
 bodyPostM Fence.wide n P fn R .ret { tmps := tmps, defers := [] } W := ⟨v, hv, hR⟩
theorem orZ_three (x y z : Int) : orZ [x, y, z] = if x ≠ 0 then x else if y ≠ 0 then y else z := by
 unfold orZ orZ orZ orZ
 by_cases h1 : x = 0
 ·by_cases h2 : y = 0
  ·by_cases h3 : z = 0 <;> simp [h1, h2, h3]
  ·simp [h1, h2]
 ·simp [h1]
structure AdS (w W0 : World) (bd bt : Nat) (ys : List Int) (fl : Bool) (W : World) : Prop where
 ltd : bd < W0.heap.size
 ltt : bt < W0.heap.size
 ged : w.heap.size ≤ bd
 get : w.heap.size ≤ bt
 ne : bd ≠ bt
 big : w.heap.size ≤ W0.heap.size
 size : W0.heap.size ≤ W.heap.size
 rest : ∀ k, k < W0.heap.size → k ≠ bd → k ≠ bt → W.heap[k]? = W0.heap[k]?
 d : ∃ v, Blk W bd #[v] 24 ∧ W.ownsRow W0.heap.size 3 1 v ys.length (zs ys)
 tt : Blk W bt #[.bool fl] 4
 bel : Below w.heap.size w W
theorem AdS.cell {w W0 : World} {bd bt : Nat} {ys : List Int} {fl : Bool} {W : World} (h : AdS w W0 bd bt ys fl W) {p : Addr} (h1 : p.block < W0.heap.size) (h2 : p.block ≠ bd) (h3 : p.block ≠ bt) : W.cell? p = W0.cell? p := World.cell?_of_block (w := W0) (h.rest p.block h1 h2 h3)
theorem AdS.call {w W0 : World} {bd bt : Nat} {ys : List Int} {fl : Bool} {W W' : World} (h : AdS w W0 bd bt ys fl W) (hb : Below W.heap.size W W') : AdS w W0 bd bt ys fl W' := by
 obtain ⟨v, h1, h2⟩ := h.d
 exact ⟨h.ltd, h.ltt, h.ged, h.get, h.ne, h.big, Nat.le_trans h.size hb.size, fun k hk a b => (hb.block k (Nat.lt_of_lt_of_le hk h.size)).trans (h.rest k hk a b), ⟨v, h1.call hb, owns_call h2 hb⟩, h.tt.call hb, bnext h.bel hb⟩
theorem AdS.sett {w W0 : World} {bd bt : Nat} {ys : List Int} {fl : Bool} {W : World} (h : AdS w W0 bd bt ys fl W) (q : Bool) : AdS w W0 bd bt ys q (W.setCell ⟨bt, 0, none⟩ (.bool q)) := by
 obtain ⟨v, h1, h2⟩ := h.d
 refine ⟨h.ltd, h.ltt, h.ged, h.get, h.ne, h.big, by rw [World.size_setCell]; exact h.size, fun k hk a b => (Below.heap_setCell _ _ _ _ b).trans (h.rest k hk a b), ⟨v, h1.other (a := ⟨bt, 0, none⟩) (fun e => h.ne e.symm) _, ownsRow_setCell_below h2 h.ltt _⟩, ?_, h.bel.setCell h.get _⟩
 have := h.tt.set 0 (.bool q)
 simpa using this
theorem AdS.app {w W0 : World} {bd bt : Nat} {ys : List Int} {fl : Bool} {W w3 : World} {v v' : Value} {o : Obj} {y : Int} (h : AdS w W0 bd bt ys fl W) (hv : Blk W bd #[v] 24) (ho : W.ownsRow W0.heap.size 3 1 v ys.length (zs ys)) (hown : w3.ownsRow W0.heap.size 3 1 v' (ys.length + 1) (zs ys ++ [.int .i64 y])) (hg : (W.alloc o).grownBy w3 v.ownBlock) :
 AdS w W0 bd bt (ys ++ [y]) fl (w3.setCell ⟨bd, 0, none⟩ v') := by
 have hrow : ∀ k, v.ownBlock = some k → W0.heap.size ≤ k := fun k e => (ho.lt k e).1
 have hs : W.heap.size ≤ w3.heap.size := by have := hg.size; simp at this; omega
 have n1 : v.ownBlock ≠ some bd := fun e => by have := hrow bd e; have := h.ltd; omega
 have n2 : v.ownBlock ≠ some bt := fun e => by have := hrow bt e; have := h.ltt; omega
 refine ⟨h.ltd, h.ltt, h.ged, h.get, h.ne, h.big, by rw [World.size_setCell]; exact Nat.le_trans h.size hs, fun k hk a b => ?_, ⟨v', ?_, ?_⟩, ?_, ?_⟩
 ·have hkW : k < W.heap.size := Nat.lt_of_lt_of_le hk h.size
  refine (Below.heap_setCell _ _ _ _ a).trans (((hg.block k (by simp; omega) (fun e => ?_)).trans (Below.heap_alloc _ _ _ hkW)).trans (h.rest k hk a b))
  have := hrow k e.symm; omega
 ·have := (((hv.alloc o).grown hg n1).set 0 v')
  simpa using this
 ·have e1 : (ys ++ [y]).length = ys.length + 1 := by simp
  have e2 : zs (ys ++ [y]) = zs ys ++ [.int .i64 y] := by simp [zs]
  rw [e1, e2]
  exact ownsRow_setCell_below hown h.ltd _
 ·exact ((h.tt.alloc o).grown hg n2).other (a := ⟨bd, 0, none⟩) h.ne _
 ·exact ((h.bel.alloc h.bel.size o).grown hg (by have := h.bel.size; simp; omega) (fun k e => Nat.le_trans h.big (hrow k e))).setCell h.ged _
theorem AdS.keptX {w W0 : World} {bd bt : Nat} {ys : List Int} {fl : Bool} {X Y : World} {row : Option Nat} (h : AdS w W0 bd bt ys fl X) (hg : X.grownBy Y row) (hrow : ∀ r, row = some r → W0.heap.size ≤ r ∧ ∃ o : Obj, X.heap[r]? = some o ∧ o.isCells = false) : AdS w W0 bd bt ys fl Y := by
 obtain ⟨v, h1, h2⟩ := h.d
 refine ⟨h.ltd, h.ltt, h.ged, h.get, h.ne, h.big, Nat.le_trans h.size hg.size, fun k hk a b => ?_, ⟨v, h1.kept hg (fun r e => (hrow r e).2), ?_⟩, h.tt.kept hg (fun r e => (hrow r e).2), ?_⟩
 ·refine (hg.block k (Nat.lt_of_lt_of_le hk h.size) (fun e => ?_)).trans (h.rest k hk a b)
  have := (hrow k e.symm).1; omega
 ·refine h2.kept hg ?_
  rcases h2.2 with ⟨rfl, _⟩ | ⟨g, cap, cur, rfl, _, hgb, _⟩
  ·exact .inl rfl
  ·refine .inr fun e' => ?_
   obtain ⟨-, o, ho, hc⟩ := hrow g (by simpa [Value.ownBlock] using e'.symm)
   rw [hgb] at ho; cases ho; cases hc
 ·exact h.bel.grown hg h.bel.size (fun k e => Nat.le_trans h.big (hrow k e).1)
theorem keepsF_app {B : Nat} {W w3 : World} {bd base n : Nat} {v u x : Value} {t : TypeId} {o : Obj} {xs : List Value} {e : TypeId} (hv : Blk W bd #[x] t) (ho : W.ownsRow base e 1 v n xs) (hg : (W.alloc o).grownBy w3 v.ownBlock) : KeepsFrom B W (w3.setCell ⟨bd, 0, none⟩ u) := by
 have hs : W.heap.size ≤ w3.heap.size := by have := hg.size; simp at this; omega
 refine ⟨by rw [World.size_setCell]; exact hs, fun k ob hk hob hc => ?_⟩
 have hkW : k < W.heap.size := (Array.getElem?_eq_some_iff.1 hob).1
 have h1 : k ≠ bd := fun e => by
  subst e
  rw [show W.heap[k]? = _ from hv] at hob; cases hob; cases hc
 refine (Below.heap_setCell _ _ _ _ h1).trans (((hg.block k (by simp; omega) (fun e' => ?_)).trans (Below.heap_alloc _ _ _ hkW)).trans hob)
 rcases ho.2 with ⟨rfl, _⟩ | ⟨g, cap, cur, rfl, _, hgb, _⟩
 ·cases e'
 ·have : k = g := by simpa [Value.ownBlock] using e'
  subst this
  rw [hgb] at hob; cases hob; cases hc
theorem AdS.kp {w W0 : World} {bd bt b1 b2 : Nat} {ys zs' : List Int} {f1 f2 : Bool} {W X : World} (h : AdS w W0 bd bt ys f1 W) (k : AdS w W0 bd bt zs' f2 X) (hs : W.heap.size ≤ X.heap.size) (h1 : b1 < W0.heap.size ∧ b1 ≠ bd ∧ b1 ≠ bt) (h2 : b2 < W0.heap.size ∧ b2 ≠ bd ∧ b2 ≠ bt) : KpS w.heap.size b1 b2 W X :=
 ⟨hs, fun _ _ _ => ⟨⟨k.bel.os.trans h.bel.os.symm, k.bel.tape.trans h.bel.tape.symm, k.bel.output.trans h.bel.output.symm, hs, fun j hj => (k.bel.block j hj).trans (h.bel.block j hj).symm⟩, (k.rest b1 h1.1 h1.2.1 h1.2.2).trans (h.rest b1 h1.1 h1.2.1 h1.2.2).symm, (k.rest b2 h2.1 h2.2.1 h2.2.2).trans (h.rest b2 h2.1 h2.2.1 h2.2.2).symm⟩⟩
theorem na_Add (w : World) (v u : Value) (c : List Int) (a : ByteArray) (bs : List ByteArray) (hv : Row w v (zs c)) (hu : Row w u (strs bs)) (ha : a.size ≤ 100000) (hb : ∀ x ∈ bs, x.size ≤ 100000000) (hL : LayB w) :
 Calls Tryz.prog 10 #[v, .string a, u] w fun e w' => (∃ y, e = .returned (.tuple #[y, .bool (naO c a bs).isSome, .int .i64 (naE c a bs)]) ∧ Row w' y (zs ((naO c a bs).getD []))) ∧ Below w.heap.size w w' := by
 have HCK := fun V hV => hid (na_check V v c hV)
 have HRA := fun V hV => hid (na_ratio V a ha hV)
 have HW := fun V h => hid (na_words V u bs ((c.length : Nat) : Int) h hb)
 have HFI := fun V x h => hid (na_first V x [zE c, gPE a, wdE bs ((c.length : Nat) : Int)] h)
 rw [orZ_three] at HFI
 have e1 : (if zE c ≠ 0 then zE c else if gPE a ≠ 0 then gPE a else wdE bs ((c.length : Nat) : Int)) = naE c a bs := rfl
 rw [e1] at HFI
 have HV := hid hv; have HU := hid hu; have HL := hid hL
 have PT := hid (fun V x (hx : chkE x = 0) hV => g_Two V a x ha (by have := chk_size hx; omega) hV)
 obtain ⟨s, cp, rfl, q1, q2, q3⟩ := hv.openZ
 obtain ⟨t, cq, rfl, p1, p2, p3⟩ := hu.openS
 have HNA : Hid (naE c a bs = 0 → NaOk c a bs) := fun h => naE_ok h
 obtain ⟨z, hz⟩ : ∃ z, naE c a bs = z := ⟨_, rfl⟩
 obtain ⟨z1, hz1⟩ : ∃ z, zE c = z := ⟨_, rfl⟩
 obtain ⟨z2, hz2⟩ : ∃ z, gPE a = z := ⟨_, rfl⟩
 obtain ⟨z3, hz3⟩ : ∃ z, wdE bs ((c.length : Nat) : Int) = z := ⟨_, rfl⟩
 obtain ⟨ro, hro⟩ : ∃ z, naO c a bs = z := ⟨_, rfl⟩
 have HRO : Hid (naE c a bs = 0 → ro = nzO true a c bs) := fun h => by rw [← hro]; exact naO_ok h rfl
 have HRB : Hid (naE c a bs ≠ 0 → ro = none) := fun h => by rw [← hro]; exact naO_bad h
 obtain ⟨n, hn⟩ : ∃ n, c.length = n := ⟨_, rfl⟩
 obtain ⟨n2, hn2⟩ : ∃ n, bs.length = n := ⟨_, rfl⟩
 have HN := hid hn; have HN2 := hid hn2
 rw [hz] at HNA HRO HRB
 rw [hz, hz1, hz2, hz3] at HFI
 simp only [hz1] at HCK
 simp only [hz2] at HRA
 simp only [hz3] at HW
 rw [hz, hro]
 rw [hn] at HV q1 ⊢
 simp only [hn] at HCK HW
 rw [hn2] at HU p1 ⊢
 simp only [hn2] at HW
 clear hv hu q3 p3 e1 ha hb hL hz hz1 hz2 hz3 hro hn hn2
 refine (callsIn_wide (n := 9)).1 ?_
 refine callsIn_of_wp_marks Tryz.func10 rfl trivial ?_ rfl
 simp only [Tryz.ntmps10, List.size_toArray, List.length_cons, List.length_nil, Nat.reduceAdd, Nat.reduceSub, Array.replicate_succ, Array.replicate_zero, List.push_toArray, List.append_toArray, List.nil_append, List.cons_append]
 gi_wp2_with fail
 obtain ⟨W2, hW2⟩ : ∃ W, (w.alloc (.cells #[.string a] 22)).alloc (.cells #[.slice none 0 0] 24) = W := ⟨_, rfl⟩
 have XA : Hid (Blk W2 w.heap.size #[.string a] 22) := by rw [← hW2]; exact (Blk.new w _ _).alloc _
 have XD : Hid (Blk W2 (w.heap.size + 1) #[.slice none 0 0] 24) := by rw [← hW2]; exact Blk.made _ _ _ (by simp)
 have B2 : Hid (Below w.heap.size w W2) := by rw [← hW2]; exact ((Below.refl _ _).alloc (Nat.le_refl _) _).alloc (by simp) _
 have Z2 : Hid (W2.heap.size = w.heap.size + 1 + 1) := by rw [← hW2]; exact hid (by simp)
 rw [hW2]
 clear hW2
 have KK : Hid (∀ V, Below W2.heap.size W2 V → V.cell? ⟨w.heap.size, 0, none⟩ = some (.string a)) := fun V hV => (XA.out.call hV).cell 0
 refine wpIn_scope ?_
 gi_wp2_with fail
 refine wpIn_wide.2 ?_
 refine held_plain [0, 2, 4, 5, 6] 6 (fun V => V.cell? ⟨w.heap.size, 0, none⟩ = some (.string a)) (by kernel_rfl) (by kernel_rfl) (by kernel_rfl) (by kernel_rfl) (KK.out _ (Below.refl _ _).drew) ?_
 iterate 5
  refine ⟨_, rfl, ?_⟩
  apply Exists.intro
  refine ⟨.inl ⟨by rfl, ?_⟩, ?_⟩
  ·(intro W' hW'; obtain q9 := hW'; go_simp; try (with_reducible rfl))
  (dsimp only [Act.put]; try simp only [List.setIfInBounds_toArray, List.set_cons_zero, List.set_cons_succ])
 refine held_one (i := 1) (by kernel_rfl) (by rfl) (by rfl) ?_
 go_wp2_with fail
 refine (HCK _ (HV.out.call (bnext B2.out (Below.refl _ _).drew))).out.mono ?_; rintro e w3 ⟨rfl, rfl⟩
 go_wp2_with fail
 refine ⟨KK.out _ (Below.refl _ _).drew, ?_⟩
 refine held_one (i := 3) (by kernel_rfl) (by rfl) (by rfl) ?_
 go_wp2_with fail
 refine (HRA _ (HL.out.call (bnext B2.out (Below.refl _ _).drew)).l).out.mono ?_; rintro e w4 ⟨rfl, hb4⟩
 have y4 := hid (show Below W2.heap.size W2 w4 from (Below.refl _ _).drew.trans hb4)
 clear hb4
 go_wp2_with fail
 refine ⟨KK.out _ y4.out, ?_⟩
 refine held_one (i := 7) (by kernel_rfl) (by rfl) (by rfl) ?_
 go_wp2_with fail
 refine (HW _ (HU.out.call (bnext B2.out y4.out))).out.mono ?_; rintro e w5 ⟨rfl, hb5⟩
 have y5 := hid (bnext y4.out hb5)
 clear hb5
 go_wp2_with fail
 refine ⟨KK.out _ y5.out, ?_⟩
 refine held_one (i := 8) (by kernel_rfl) (by rfl) (by rfl) ?_
 go_wp2_with fail
 have y6 := hid (y5.out.alloc y5.out.size (.cells #[.int .i64 z1, .int .i64 z2, .int .i64 z3] 27))
 refine ⟨KK.out _ y6.out, ?_⟩
 refine held_one (i := 9) (by kernel_rfl) (by rfl) (by rfl) ?_
 go_wp2_with fail
 refine (HFI _ _ (row_three _ _ _ _ _)).out.mono ?_; rintro e w7 ⟨rfl, rfl⟩
 obtain ⟨W7, hW7⟩ : ∃ W, w5.alloc (.cells #[.int .i64 z1, .int .i64 z2, .int .i64 z3] 27) = W := ⟨_, rfl⟩
 rw [hW7] at y6 ⊢
 clear hW7
 go_wp2_with fail
 refine ⟨KK.out _ y6.out, ?_⟩
 refine held_more (is := [10]) (g := 0) (by kernel_rfl) rfl (KK.out _ y6.out) (by kernel_rfl) ?_
 iterate 1
  refine ⟨_, rfl, ?_⟩
  apply Exists.intro
  refine ⟨.inl ⟨by rfl, ?_⟩, ?_⟩
  ·(intro W' hW'; obtain q9 := hW'; go_simp; try (with_reducible rfl))
  (dsimp only [Act.put]; try simp only [List.setIfInBounds_toArray, List.set_cons_zero, List.set_cons_succ])
 refine wpAnyH_done (by kernel_rfl) ?_ _
 simp only [Only]
 have B7 := hid (bnext B2.out y6.out)
 have XA7 := hid (XA.out.call y6.out); have XD7 := hid (XD.out.call y6.out)
 clear XA XD KK HFI HCK HRA HW
 by_cases h0 : z = 0
 case neg =>
  have t0 : (z != 0) = true := by simpa using h0
  have t0' : (z == 0) = false := by simpa using h0
  have HR := HRB.out h0
  subst HR
  have d0 := XD7.out.cell 0
  have d1 := XD7.out.free 0
  simp at d0
  clear h0
  gi_wp2_with fail
  have d2 := (XD7.out.set 0 (.slice none 0 0)).cell 0
  simp at d2
  refine marks_retN (v := .tuple #[.slice none 0 0, .bool false, .int .i64 z]) (by simp [results, Tryz.results10, go_sem, d2]) ⟨⟨_, rfl, ?_⟩, ?_⟩
  ·exact ⟨none, 0, rfl, Nat.le_refl _, by unfold maxLen; omega, fun i x h => by simp [zs] at h⟩
  ·exact B7.out.setCell (by simp) _
 subst h0
 have OK := HNA.out rfl
 have HRO2 := hid (HRO.out rfl)
 have hle := OK.le
 rw [HN.out] at hle
 have HOK := hid OK
 clear OK HNA HRO HRB
 gi_wp2_with fail
 refine wpIn_label ?_
 gi_wp2_with (refine ⟨trivial, ?_⟩; gi_at_call 38; refine (callsIn_wide.2 (na_pairs _ _ _ _ _ _ _)).mono ?_; rintro e w' ⟨rfl, rfl⟩)
 obtain ⟨i0, hi, hz0, hz1, hz2⟩ := info_parts info_intO
 obtain ⟨W0, hW0⟩ : ∃ W0, ((W7.alloc (.cells #[.bool false] 4)).alloc (.cells #[.slice s n cp] 24)).alloc (.cells #[.slice t n2 cq] 30) = W0 := ⟨_, rfl⟩
 have y0 : Blk W0 w.heap.size #[.string a] 22 := by rw [← hW0]; exact ((XA7.out.alloc _).alloc _).alloc _
 have y1 : Blk W0 (w.heap.size + 1) #[.slice none 0 0] 24 := by rw [← hW0]; exact ((XD7.out.alloc _).alloc _).alloc _
 have y2 : Blk W0 W7.heap.size #[.bool false] 4 := by rw [← hW0]; exact ((Blk.new W7 _ _).alloc _).alloc _
 have y3 : Blk W0 (W7.heap.size + 1) #[.slice s n cp] 24 := by rw [← hW0]; exact (Blk.made _ _ _ (by simp)).alloc _
 have y4 : Blk W0 (W7.heap.size + 1 + 1) #[.slice t n2 cq] 30 := by rw [← hW0]; exact Blk.made _ _ _ (by simp)
 have z7 := B7.out.size
 have b0 : Below w.heap.size w W0 := by rw [← hW0]; exact ((B7.out.alloc z7 _).alloc (by simp <;> omega) _).alloc (by simp <;> omega) _
 have z0 : W0.heap.size = W7.heap.size + 1 + 1 + 1 := by rw [← hW0]; simp
 have zT : w.heap.size + 1 + 1 ≤ W7.heap.size := by have := y6.out.size; have := Z2.out; omega
 rw [hW0]
 obtain ⟨T, hT⟩ : ∃ T, W7.heap.size = T := ⟨_, rfl⟩
 rw [hT] at y2 y3 y4 z0 zT ⊢
 have Y0 := hid y0; have Y1 := hid y1; have Y2 := hid y2; have Y3 := hid y3; have Y4 := hid y4; have HB0 := hid b0; have Z0 := hid z0; have ZT := hid zT
 have S0 : Hid (AdS w W0 (w.heap.size + 1) T [] false W0) := ⟨by omega, by omega, by omega, by omega, by omega, by omega, Nat.le_refl _, fun _ _ _ _ => rfl, ⟨_, y1, World.ownsRow_nil _ _ _ _⟩, y2, b0⟩
 clear y0 y1 y2 y3 y4 b0 hW0 hT z7 XA7 XD7 B7 B2 Z2 y5 y6
 have hread : ∀ W1 W2, Below W0.heap.size W0 W1 → KpS w.heap.size (T + 1) (T + 1 + 1) W1 W2 → W2.cell? ⟨T + 1, 0, none⟩ = some (.slice s n cp) ∧ W2.cell? ⟨T + 1 + 1, 0, none⟩ = some (.slice t n2 cq) ∧ Row W2 (.slice s n cp) (zs c) ∧ Row W2 (.slice t n2 cq) (strs bs) := fun W1 W2 b1 b2 => by
  have hs := b1.size
  have hz := Z0.out; have hzt := ZT.out
  obtain ⟨r1, r2, r3⟩ := b2.rest (by omega) (by omega) (by omega)
  have g1 : Blk W2 (T + 1) #[.slice s n cp] 24 := r2.trans (Y3.out.call b1)
  have g2 : Blk W2 (T + 1 + 1) #[.slice t n2 cq] 30 := r3.trans (Y4.out.call b1)
  have hb : Below w.heap.size w W2 := (HB0.out.trans (b1.mono (by omega))).trans r1
  exact ⟨g1.cell 0, g2.cell 0, HV.out.call hb, HU.out.call hb⟩
 refine range_ok (by omega) (gf := 71) (lb := #[.pointer (some ⟨T + 1, 0, none⟩), .pointer (some ⟨T + 1 + 1, 0, none⟩)]) rfl (enters_of Tryz.func71 (by kernel_rfl) rfl)
  (pairs_feeds (Kp := KpS w.heap.size (T + 1) (T + 1 + 1)) 8 (by omega) W0 (T + 1) (T + 1 + 1) (.slice s n cp) (.slice t n2 cq) c bs HOK.out.len.symm HOK.out.le (KpS.refl _ _ _) KpS.trans hread (fun _ _ => KpS.of_below)) KpS.trans (KpS.put (by omega) (by omega) (by omega)) (Below.refl _ _) (fun _ => rfl)
  (fun p W => ∃ ys, NdT a c bs p.length ys ∧ AdS w W0 (w.heap.size + 1) T ys false W)
  (fun cc p W => cc = .exit 0 ∧ nzO true a c bs = none ∧ ∃ ys, AdS w W0 (w.heap.size + 1) T ys true W)
  (fun s X Y row hs hg hr => by obtain ⟨ys, h1, h2⟩ := hs; exact ⟨ys, h1, h2.keptX hg hr⟩)
  (fun c s X Y row hs hg hr => by obtain ⟨h0, h1, ys, h2⟩ := hs; exact ⟨h0, h1, ys, h2.keptX hg hr⟩)
  ⟨[], NdT.zero _ _ _, S0.out⟩ ?act ?assign ?body ?done ?stop
 case assign =>
  intro l x W K hK
  gi_wp2
  exact hK
 case body =>
  rintro l p ⟨x, b⟩ W ⟨hx, hb⟩ ⟨ys, hN, hS⟩
  dsimp only at hx hb
  have hch := HOK.out.b b (List.mem_of_getElem? hb)
  have hsz := chk_size hch
  have hxr := HOK.out.rng x (List.mem_of_getElem? hx)
  have PTb := fun V hV => hid (PT.out V b hch hV)
  have hvb := wT_bound a b hsz
  have hz1' : nz1 true a x b = if (wT a b).1 = true then some (x + (wT a b).2.1) else none := by unfold nz1; simp only [if_true]
  obtain ⟨k, hk⟩ : ∃ k, p.length = k := ⟨_, rfl⟩
  rw [hk] at hx hb hN
  have hk256 : k < 256 := by have := (List.getElem?_eq_some_iff.1 hx).1; have := HOK.out.le; omega
  obtain ⟨TT, hTT⟩ : ∃ T, wT a b = T := ⟨_, rfl⟩
  obtain ⟨ge, hge⟩ : ∃ y, gE a b = y := ⟨_, rfl⟩
  rw [hTT] at hvb hz1'
  simp only [hTT, hge] at PTb
  obtain ⟨d, v1, u1⟩ := TT
  simp only [d3] at PTb
  dsimp only at hvb hz1'
  have c0 := (hS.cell (p := ⟨w.heap.size, 0, none⟩) Y0.out.lt (by simp) (by simp; omega)).trans (Y0.out.cell 0)
  simp at c0
  have wxv : IntKind.i64.wrap (x + v1) = x + v1 := by rw [IntWalk.i64_in _ ⟨by omega, by omega⟩]
  have HX := hid hx; have HB := hid hb; have HN1 := hid hN; have HS := hid hS; have HZ1 := hid hz1'; have HK := hid hk; have HK2 := hid hk256
  clear hx hb hN hS hch hsz hxr hvb hz1' hk hTT hge hk256 zT z0
  cases d
  ·have hnone : nzO true a c bs = none := nzO_late k x b HX.out HB.out (by rw [HZ1.out, if_neg (by simp)])
   have HNO := hid hnone
   clear hnone
   gi_wp2_with fail
   refine ⟨trivial, ?_⟩
   refine (CallsIn.inRound _ (callsIn_wide.2 (PTb _ (HL.out.call HS.out.bel).l).out)).mono ?_; rintro e w1 ⟨rfl, hb1⟩
   have y1 := hid hb1
   have A1 := hid (hb1.alloc hb1.size (.cells #[.bool false, .int .i64 v1, .int .i64 u1] 53))
   have S2 := hid (HS.out.call A1.out)
   have r0 := S2.out.tt.cell 0
   have r1 := S2.out.tt.free 0
   simp at r0
   clear hb1 c0
   gi_wp2_with fail
   exact ⟨(keepsF_below A1.out).trans ((KeepsOthers.setCell _ _ _).from _), rfl, HNO.out, ys, S2.out.sett true⟩
  ·gi_wp2_with fail
   refine ⟨trivial, ?_⟩
   refine (CallsIn.inRound _ (callsIn_wide.2 (PTb _ (HL.out.call HS.out.bel).l).out)).mono ?_; rintro e w1 ⟨rfl, hb1⟩
   have A1 := hid (hb1.alloc hb1.size (.cells #[.bool true, .int .i64 v1, .int .i64 u1] 53))
   have S2 := hid (HS.out.call A1.out)
   obtain ⟨v0, h1, h2⟩ := S2.out.d
   have H1 := hid h1; have H2 := hid h2
   have r0 := h1.cell 0
   have r1 := h1.free 0
   simp at r0
   have hyl : ys.length ≤ 256 := by have := HN1.out.len; have := HK2.out; omega
   have CN : ((w1.alloc (.cells #[.bool true, .int .i64 v1, .int .i64 u1] 53)).alloc (.cells #[.int .i64 (x + v1)] 3)).cell? ⟨w1.heap.size + 1, 0, none⟩ = some (.int .i64 (x + v1)) := (Blk.made (w1.alloc (.cells #[.bool true, .int .i64 v1, .int .i64 u1] 53)) #[.int .i64 (x + v1)] 3 (n := w1.heap.size + 1) (by simp)).cell 0
   have HCN := hid CN
   clear hb1 c0 h1 h2 CN
   gi_wp2_with (gi_at_builtin; refine wpListIn_append_own _ rfl _ _ 24 rfl W0.heap.size 3 i0 (.int .i64 0) 1 8 Tryz.underlying24 hi hz0 hz1 hz2 rfl (by decide) _ ys.length _ rfl (H2.out.alloc _) ⟨w1.heap.size + 1, 0, none⟩ 1 1 [.int .i64 (x + v1)] rfl rfl (fun j u hj => by
    cases j with
    | zero => cases hj; exact HCN.out
    | succ j => simp at hj) (by simp [Value.oneCell']) (by unfold maxLen; omega) (by omega) (by have := S2.out.size; simp at this ⊢; omega) ?_; intro v' w3 hown hgrow _
                obtain ⟨g2, cap2, rfl⟩ := ownsRow_succ hown
                have S3 := hid (S2.out.app H1.out H2.out hown hgrow)
                have n1 : v0.ownBlock ≠ some (w.heap.size + 1) := fun e => by have := (H2.out.lt _ e).1; have := S2.out.ltd; omega
                have k0 := ((H1.out.alloc (.cells #[.int .i64 (x + v1)] 3)).grown hgrow n1).cell 0
                have k1 := ((H1.out.alloc (.cells #[.int .i64 (x + v1)] 3)).grown hgrow n1).free 0
                simp at k0
                have KF := hid ((keepsF_below (B := W0.heap.size) A1.out).trans (keepsF_app (u := .slice (some ⟨g2, 0, none⟩) (ys.length + 1) cap2) H1.out H2.out hgrow))
                clear hown hgrow n1 r0 r1)
   refine ⟨KF.out, HS.out.kp S3.out KF.out.size ⟨by have := Z0.out; omega, by have := ZT.out; omega, by omega⟩ ⟨by have := Z0.out; omega, by have := ZT.out; omega, by omega⟩, ys ++ [x + v1], ?_, S3.out⟩
   rw [List.length_append, List.length_singleton, HK.out]
   exact HN1.out.next HX.out HB.out (by rw [HZ1.out]; simp)
 case done =>
  rintro D' xs W hD hS ⟨ys, hN, hA⟩ hK
  rw [hS] at hN
  have hro := HRO2.out.trans (hN.all HOK.out.len)
  subst hro
  obtain ⟨v0, h1, h2⟩ := hA.d
  have r0 := h1.cell 0
  have r1 := h1.free 0
  have r2 := hA.tt.cell 0
  simp at r0 r2
  have HA := hid hA; have H1 := hid h1; have H2 := hid h2; have HK := hid hK; have HDD := hid hD
  obtain ⟨a0, cc0, rfl⟩ := owns_ex h2
  clear hS hN hA h1 h2 hK hD
  gi_wp2_with fail
  have q1 := H1.out.set 0 (.slice a0 ys.length cc0)
  have q2 := ownsRow_setCell_below (a := ⟨w.heap.size + 1, 0, none⟩) H2.out HA.out.ltd (.slice a0 ys.length cc0)
  have hk3 := (KeepsOthers.setCell W ⟨w.heap.size + 1, 0, none⟩ (.slice a0 ys.length cc0)).same D' _ HK.out rfl
  have p1 := (q1.put hk3 (.deferred none)).cell 0
  simp at p1
  have hrow := Row.put (Row.of_owns q2) hk3 (.deferred none)
  have h9 := HDD.out; have h8 := HA.out.big
  refine marks_end hk3 (v := .tuple #[.slice a0 ys.length cc0, .bool true, .int .i64 0]) (by simp [results, Tryz.results10, go_sem, p1]) ⟨⟨_, rfl, hrow⟩, ?_⟩
  exact (HA.out.bel.setCell (by simp) _).trans (belowK_b (w := w) (Nat.le_refl _) _ D' _ _ (by omega) hk3 rfl rfl)
 case stop =>
  rintro D' cc p W hD - ⟨rfl, hnone, ys, hA⟩ hK
  have hro := HRO2.out.trans hnone
  subst hro
  obtain ⟨v0, h1, h2⟩ := hA.d
  have r0 := h1.cell 0
  have r1 := h1.free 0
  have r2 := hA.tt.cell 0
  simp at r0 r2
  have HA := hid hA; have H1 := hid h1; have HK := hid hK; have HDD := hid hD
  clear hA h1 h2 hK hD hnone
  gi_wp2_with fail
  have q1 := H1.out.set 0 (.slice none 0 0)
  have hk3 := (KeepsOthers.setCell W ⟨w.heap.size + 1, 0, none⟩ (.slice none 0 0)).same D' _ HK.out rfl
  have p1 := (q1.put hk3 (.deferred none)).cell 0
  simp at p1
  have h9 := HDD.out; have h8 := HA.out.big
  refine marks_end hk3 (v := .tuple #[.slice none 0 0, .bool false, .int .i64 0]) (by simp [results, Tryz.results10, go_sem, p1]) ⟨⟨_, rfl, ?_⟩, ?_⟩
  ·exact ⟨none, 0, rfl, Nat.le_refl _, by unfold maxLen; omega, fun i x h => by simp [zs] at h⟩
  ·exact (HA.out.bel.setCell (by simp) _).trans (belowK_b (w := w) (Nat.le_refl _) _ D' _ _ (by omega) hk3 rfl rfl)
end Go.Proofs.YtgphopkifomffaaGreatDoor
