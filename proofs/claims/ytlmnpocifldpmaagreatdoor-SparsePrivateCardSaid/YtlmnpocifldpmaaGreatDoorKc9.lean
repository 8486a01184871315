/- Texts that the proof rests on, merged: Rt5, Rt6, Rt7, Gn1, Cr0, Lr0, Fx0, Sh6, Sm, Gd0, Gl0, Tb, En, Gl1, Gl2, Gl3. -/
import Derived.Test.YtlmnpocifldpmaaGreatDoorKc8
import Derived.Shelf.SlSortCmp.WholeK
import Derived.Shelf.SlGeneric
import Derived.Shelf.Small.Bits
import Derived.Ground.SlsfProg
import Derived.Ground.NamesProg
import Derived.Test.YtlmnpocifldpmaaGreatDoorProg
import Derived.Sort.OwnSortedInts
import Derived.WalkLawsBesides
import Derived.Sort.Walk0
import Derived.Maps.AppendAt
import Derived.RangeFuncBox
set_option linter.unusedVariables false
set_option linter.unusedSimpArgs false
set_option linter.unusedSectionVars false
set_option maxRecDepth 100000
set_option maxHeartbeats 8000000
namespace Go.Proofs.YtlmnpocifldpmaaGreatDoor
open Go.RowKit
open Go.Shelf
open Go.Lib (decDigits nDigits)
structure Sml (K:Nat)(q:Rat):Prop where
 n:(limbs q.num.natAbs).length≤K
 d:(limbs q.den).length≤K
theorem e0Y {s:ByteArray}(h:qE s=0):Sml 1000 (vQ s):=by
 obtain⟨-,e2,e3⟩:=n0y h;obtain⟨-,-,-,l1,l2,-⟩:=q0w h;exact⟨by rw[e2];exact Nat.le_trans (a0u l1) (by omega),by rw[e3];exact Nat.le_trans (a0u l2) (by omega)⟩
theorem Sml.up {K L:Nat}{q:Rat}(h:Sml K q)(hl:K≤L):Sml L q:=⟨Nat.le_trans h.n hl,Nat.le_trans h.d hl⟩
theorem t0y {K:Nat}{q:Rat}(h:Sml K q):Sml K (-q):=⟨by rw[Rat.neg_num,Int.natAbs_neg];exact h.n,by rw[Rat.neg_den];exact h.d⟩
theorem s0B {K:Nat}{z:Int}{d:Nat}(hd:0<d)(h1:(limbs z.natAbs).length≤K)(h2:(limbs d).length≤K):Sml K (mkRat z d):=by
 refine⟨?_,?_⟩
 ·rw[Rat.num_mkRat,if_neg (by omega)];refine Nat.le_trans (a0e ?_) h1;exact Int.natAbs_ediv_le_natAbs _ _
 ·rw[Rat.den_mkRat,if_neg (by omega)];exact Nat.le_trans (a0e (Nat.div_le_self _ _)) h2
theorem q0O {K L:Nat}{p q:Rat}(hp:Sml K p)(hq:Sml L q):Sml (K+L) (p*q):=by
 rw[← h0F];unfold qmk;exact s0B (Nat.mul_pos p.den_pos q.den_pos) (by rw[b0s];exact a0S hp.n hq.n) (a0S hp.d hq.d)
theorem q0P {K L:Nat}{p q:Rat}(hp:Sml K p)(hq:Sml L q):Sml (K+L+(K+L)+1) (p+q):=by
 rw[m0C];refine s0B (Nat.mul_pos p.den_pos q.den_pos) ?_ (Nat.le_trans (a0S hp.d hq.d) (by omega));refine Nat.le_trans (a0e (g0K _ _ _ _)) ?_;exact Nat.le_trans (k0y (a0S hp.n hq.d) (a0S hq.n hp.d)) (by omega)
theorem t0z {p q:Rat}(hp:Sml 1000 p)(hq:Sml 1000 q):Sml 10000 (p*q):=(q0O hp hq).up (by omega)
theorem n0X {p q:Rat}(hp:Sml 1000 p)(hq:Sml 1000 q):Sml 10000 (p+q):=(q0P hp hq).up (by omega)
theorem t0x {p q:Rat}(hp:Sml 1000 p)(hq:Sml 1000 q):Sml 10000 (p-q):=by rw[Rat.sub_eq_add_neg];exact n0X hp (t0y hq)
theorem t2B {f:Rat→Rat→Rat}{s t:ByteArray}:tB (c0I (f (vQ s) (vQ t))) s t=b0b f s t:=by
 unfold tB wB b0b;by_cases h1:qE s=0<;>by_cases h2:qE t=0<;>simp[h1,h2]
theorem t2E {f:Rat→Rat→Rat}{s t:ByteArray}:tE (c0U (f (vQ s) (vQ t))) s t=d0b f s t:=by
 unfold tE wE d0b;by_cases h1:qE s=0<;>by_cases h2:qE t=0<;>simp[h1,h2]
theorem v0P (w:World)(v u:Value)(p q:Rat)(hp:IsQ .u64 w v p)(hq:IsQ .u64 w u q)(sp:Sml 1000 p)(sq:Sml 1000 q)(hL:Lay w):
 Calls Tryz.prog 138 #[v,u] w fun e w'=>e=.returned (.tuple #[.string (c0I (p*q)),.int .i64 (c0U (p*q))])∧Below w.heap.size w w':=by
 have F1:=fun V v u hv hu=>hid (x0z V v u p q hv hu (Nat.le_trans sp.n (by omega)) (Nat.le_trans sp.d (by omega)) (Nat.le_trans sq.n (by omega)) (Nat.le_trans sq.d (by omega)))
 have SQ:=t0z sp sq;have F2:=fun V v hv hV=>hid (m0Y V v (p*q) hv (Nat.le_trans SQ.n (by omega)) (Nat.le_trans SQ.d (by omega)) hV)
 obtain⟨Q,hQ⟩:∃ Q,p*q=Q:=⟨_,rfl⟩;rw[hQ]at F1 F2 ⊢;have HL:=hid hL;obtain⟨N1,D1,rfl,hn1,hd1⟩:=hp.ex;obtain⟨N2,D2,rfl,hn2,hd2⟩:=hq.ex;obtain⟨a1,c1,rfl,_⟩:=hn1.openI;obtain⟨a2,c2,rfl,_⟩:=hd1.openI;obtain⟨a3,c3,rfl,_⟩:=hn2.openI;obtain⟨a4,c4,rfl,_⟩:=hd2.openI;obtain⟨k1,hk1⟩:∃ k,(limbs p.num.natAbs).length=k:=⟨_,rfl⟩;obtain⟨k2,hk2⟩:∃ k,(limbs p.den).length=k:=⟨_,rfl⟩;obtain⟨k3,hk3⟩:∃ k,(limbs q.num.natAbs).length=k:=⟨_,rfl⟩;obtain⟨k4,hk4⟩:∃ k,(limbs q.den).length=k:=⟨_,rfl⟩;obtain⟨m1,hm1⟩:∃ m,decide (p.num<0)=m:=⟨_,rfl⟩;obtain⟨m2,hm2⟩:∃ m,decide (q.num<0)=m:=⟨_,rfl⟩;rw[hk1,hk2,hm1]at hp ⊢;rw[hk3,hk4,hm2]at hq ⊢;have X1:=hid (Blk.new w #[.bool m1,.slice a1 k1 c1,.slice a2 k2 c2] 94);have b1:=hid ((Below.refl w.heap.size w).alloc (Nat.le_refl _) (.cells #[.bool m1,.slice a1 k1 c1,.slice a2 k2 c2] 94));have Y1:=hid (X1.out.alloc (.cells #[.bool m2,.slice a3 k3 c3,.slice a4 k4 c4] 94));have X2:=hid (Blk.new (w.alloc (.cells #[.bool m1,.slice a1 k1 c1,.slice a2 k2 c2] 94)) #[.bool m2,.slice a3 k3 c3,.slice a4 k4 c4] 94);have b2:=hid (b1.out.alloc b1.out.size (.cells #[.bool m2,.slice a3 k3 c3,.slice a4 k4 c4] 94));have P2:=hid (hp.call b2.out);have Q2:=hid (hq.call b2.out);have r0:=Y1.out.cell 0;have r1:=Y1.out.cell 1;have r2:=Y1.out.cell 2;have s0:=X2.out.cell 0;have s1:=X2.out.cell 1;have s2:=X2.out.cell 2;simp at r0 r1 r2 s0 s1 s2;clear hk1 hk2 hk3 hk4 hm1 hm2 hn1 hn2 hd1 hd2 hp hq hL sp sq SQ hQ;go_enter Tryz.func138,Tryz.ntmps138;go_wp2_with fail;refine (F1 _ _ _ P2.out Q2.out).out.mono ?_;rintro e w3 ⟨⟨v3,rfl,hv3⟩,hb3⟩;have y3:=hid (a0a b2.out hb3);obtain⟨N3,D3,rfl,hn3,hd3⟩:=hv3.ex;obtain⟨a5,c5,rfl,_⟩:=hn3.openI;obtain⟨a6,c6,rfl,_⟩:=hd3.openI;obtain⟨k5,hk5⟩:∃ k,(limbs Q.num.natAbs).length=k:=⟨_,rfl⟩;obtain⟨k6,hk6⟩:∃ k,(limbs Q.den).length=k:=⟨_,rfl⟩;obtain⟨m3,hm3⟩:∃ m,decide (Q.num<0)=m:=⟨_,rfl⟩;rw[hk5,hk6,hm3]at hv3 ⊢;have V3:=hid hv3;clear hb3 hv3 hn3 hd3 hk5 hk6 hm3;go_wp2_with fail;refine (F2 _ _ V3.out (HL.out.call y3.out)).out.mono ?_;rintro e w4 ⟨rfl,hb4⟩;have y4:=hid (a0a y3.out hb4);clear hb4;go_wp2_with fail;go_ret2
 exact⟨rfl,y4.out⟩
theorem v0Q (w:World)(s t:ByteArray)(hs:s.size≤1000000)(ht:t.size≤1000000)(hL:Lay w):
 Calls Tryz.prog 64 #[.string s,.string t] w fun e w'=>e=.returned (.tuple #[.string (b0b (· * ·) s t),.int .i64 (d0b (· * ·) s t)])∧Below w.heap.size w w':=by
 have H:=hid (o0s w s t 138 (c0I (vQ s*vQ t)) (c0U (vQ s*vQ t)) hs ht hL (enters_of Tryz.func138 (by kernel_rfl) rfl)
  (fun W v u h1 h2 hv hu hLW=>v0P W v u _ _ hv hu (e0Y h1) (e0Y h2) hLW))
 rw[t2B,t2E (f:=(· * ·))]at H;obtain⟨B,hB⟩:∃ B,b0b (· * ·) s t=B:=⟨_,rfl⟩;obtain⟨E,hE⟩:∃ E,d0b (· * ·) s t=E:=⟨_,rfl⟩;rw[hB,hE]at H ⊢;clear hB hE hs ht hL;go_enter Tryz.func64,Tryz.ntmps64;go_wp2_with fail;refine H.out.mono ?_;rintro e w1 ⟨rfl,hb1⟩;have y1:=hid hb1;clear hb1;go_wp2_with fail;go_ret2
 exact⟨rfl,y1.out⟩
theorem v0S (w:World)(v u:Value)(p q:Rat)(hp:IsQ .u64 w v p)(hq:IsQ .u64 w u q)(sp:Sml 1000 p)(sq:Sml 1000 q)(hL:Lay w):
 Calls Tryz.prog 157 #[v,u] w fun e w'=>e=.returned (.tuple #[.string (c0I (p+q)),.int .i64 (c0U (p+q))])∧Below w.heap.size w w':=by
 have F1:=fun V v u hv hu=>hid (w0F V v u p q hv hu (Nat.le_trans sp.n (by omega)) (Nat.le_trans sp.d (by omega)) (Nat.le_trans sq.n (by omega)) (Nat.le_trans sq.d (by omega)))
 have SQ:=n0X sp sq;have F2:=fun V v hv hV=>hid (m0Y V v (p+q) hv (Nat.le_trans SQ.n (by omega)) (Nat.le_trans SQ.d (by omega)) hV)
 obtain⟨Q,hQ⟩:∃ Q,p+q=Q:=⟨_,rfl⟩;rw[hQ]at F1 F2 ⊢;have HL:=hid hL;obtain⟨N1,D1,rfl,hn1,hd1⟩:=hp.ex;obtain⟨N2,D2,rfl,hn2,hd2⟩:=hq.ex;obtain⟨a1,c1,rfl,_⟩:=hn1.openI;obtain⟨a2,c2,rfl,_⟩:=hd1.openI;obtain⟨a3,c3,rfl,_⟩:=hn2.openI;obtain⟨a4,c4,rfl,_⟩:=hd2.openI;obtain⟨k1,hk1⟩:∃ k,(limbs p.num.natAbs).length=k:=⟨_,rfl⟩;obtain⟨k2,hk2⟩:∃ k,(limbs p.den).length=k:=⟨_,rfl⟩;obtain⟨k3,hk3⟩:∃ k,(limbs q.num.natAbs).length=k:=⟨_,rfl⟩;obtain⟨k4,hk4⟩:∃ k,(limbs q.den).length=k:=⟨_,rfl⟩;obtain⟨m1,hm1⟩:∃ m,decide (p.num<0)=m:=⟨_,rfl⟩;obtain⟨m2,hm2⟩:∃ m,decide (q.num<0)=m:=⟨_,rfl⟩;rw[hk1,hk2,hm1]at hp ⊢;rw[hk3,hk4,hm2]at hq ⊢;have X1:=hid (Blk.new w #[.bool m1,.slice a1 k1 c1,.slice a2 k2 c2] 94);have b1:=hid ((Below.refl w.heap.size w).alloc (Nat.le_refl _) (.cells #[.bool m1,.slice a1 k1 c1,.slice a2 k2 c2] 94));have Y1:=hid (X1.out.alloc (.cells #[.bool m2,.slice a3 k3 c3,.slice a4 k4 c4] 94));have X2:=hid (Blk.new (w.alloc (.cells #[.bool m1,.slice a1 k1 c1,.slice a2 k2 c2] 94)) #[.bool m2,.slice a3 k3 c3,.slice a4 k4 c4] 94);have b2:=hid (b1.out.alloc b1.out.size (.cells #[.bool m2,.slice a3 k3 c3,.slice a4 k4 c4] 94));have P2:=hid (hp.call b2.out);have Q2:=hid (hq.call b2.out);have r0:=Y1.out.cell 0;have r1:=Y1.out.cell 1;have r2:=Y1.out.cell 2;have s0:=X2.out.cell 0;have s1:=X2.out.cell 1;have s2:=X2.out.cell 2;simp at r0 r1 r2 s0 s1 s2;clear hk1 hk2 hk3 hk4 hm1 hm2 hn1 hn2 hd1 hd2 hp hq hL sp sq SQ hQ;go_enter Tryz.func157,Tryz.ntmps157;go_wp2_with fail;refine (F1 _ _ _ P2.out Q2.out).out.mono ?_;rintro e w3 ⟨⟨v3,rfl,hv3⟩,hb3⟩;have y3:=hid (a0a b2.out hb3);obtain⟨N3,D3,rfl,hn3,hd3⟩:=hv3.ex;obtain⟨a5,c5,rfl,_⟩:=hn3.openI;obtain⟨a6,c6,rfl,_⟩:=hd3.openI;obtain⟨k5,hk5⟩:∃ k,(limbs Q.num.natAbs).length=k:=⟨_,rfl⟩;obtain⟨k6,hk6⟩:∃ k,(limbs Q.den).length=k:=⟨_,rfl⟩;obtain⟨m3,hm3⟩:∃ m,decide (Q.num<0)=m:=⟨_,rfl⟩;rw[hk5,hk6,hm3]at hv3 ⊢;have V3:=hid hv3;clear hb3 hv3 hn3 hd3 hk5 hk6 hm3;go_wp2_with fail;refine (F2 _ _ V3.out (HL.out.call y3.out)).out.mono ?_;rintro e w4 ⟨rfl,hb4⟩;have y4:=hid (a0a y3.out hb4);clear hb4;go_wp2_with fail;go_ret2
 exact⟨rfl,y4.out⟩
theorem x0o (w:World)(s t:ByteArray)(hs:s.size≤1000000)(ht:t.size≤1000000)(hL:Lay w):
 Calls Tryz.prog 95 #[.string s,.string t] w fun e w'=>e=.returned (.tuple #[.string (b0b (· + ·) s t),.int .i64 (d0b (· + ·) s t)])∧Below w.heap.size w w':=by
 have H:=hid (o0s w s t 157 (c0I (vQ s+vQ t)) (c0U (vQ s+vQ t)) hs ht hL (enters_of Tryz.func157 (by kernel_rfl) rfl)
  (fun W v u h1 h2 hv hu hLW=>v0S W v u _ _ hv hu (e0Y h1) (e0Y h2) hLW))
 rw[t2B,t2E (f:=(· + ·))]at H;obtain⟨B,hB⟩:∃ B,b0b (· + ·) s t=B:=⟨_,rfl⟩;obtain⟨E,hE⟩:∃ E,d0b (· + ·) s t=E:=⟨_,rfl⟩;rw[hB,hE]at H ⊢;clear hB hE hs ht hL;go_enter Tryz.func95,Tryz.ntmps95;go_wp2_with fail;refine H.out.mono ?_;rintro e w1 ⟨rfl,hb1⟩;have y1:=hid hb1;clear hb1;go_wp2_with fail;go_ret2
 exact⟨rfl,y1.out⟩
theorem v0N (w:World)(v u:Value)(p q:Rat)(hp:IsQ .u64 w v p)(hq:IsQ .u64 w u q)(sp:Sml 1000 p)(sq:Sml 1000 q)(hL:Lay w):
 Calls Tryz.prog 160 #[v,u] w fun e w'=>e=.returned (.tuple #[.string (c0I (p-q)),.int .i64 (c0U (p-q))])∧Below w.heap.size w w':=by
 have F1:=fun V v u hv hu=>hid (x0x V v u p q hv hu (Nat.le_trans sp.n (by omega)) (Nat.le_trans sp.d (by omega)) (Nat.le_trans sq.n (by omega)) (Nat.le_trans sq.d (by omega)))
 have SQ:=t0x sp sq;have F2:=fun V v hv hV=>hid (m0Y V v (p-q) hv (Nat.le_trans SQ.n (by omega)) (Nat.le_trans SQ.d (by omega)) hV)
 obtain⟨Q,hQ⟩:∃ Q,p-q=Q:=⟨_,rfl⟩;rw[hQ]at F1 F2 ⊢;have HL:=hid hL;obtain⟨N1,D1,rfl,hn1,hd1⟩:=hp.ex;obtain⟨N2,D2,rfl,hn2,hd2⟩:=hq.ex;obtain⟨a1,c1,rfl,_⟩:=hn1.openI;obtain⟨a2,c2,rfl,_⟩:=hd1.openI;obtain⟨a3,c3,rfl,_⟩:=hn2.openI;obtain⟨a4,c4,rfl,_⟩:=hd2.openI;obtain⟨k1,hk1⟩:∃ k,(limbs p.num.natAbs).length=k:=⟨_,rfl⟩;obtain⟨k2,hk2⟩:∃ k,(limbs p.den).length=k:=⟨_,rfl⟩;obtain⟨k3,hk3⟩:∃ k,(limbs q.num.natAbs).length=k:=⟨_,rfl⟩;obtain⟨k4,hk4⟩:∃ k,(limbs q.den).length=k:=⟨_,rfl⟩;obtain⟨m1,hm1⟩:∃ m,decide (p.num<0)=m:=⟨_,rfl⟩;obtain⟨m2,hm2⟩:∃ m,decide (q.num<0)=m:=⟨_,rfl⟩;rw[hk1,hk2,hm1]at hp ⊢;rw[hk3,hk4,hm2]at hq ⊢;have X1:=hid (Blk.new w #[.bool m1,.slice a1 k1 c1,.slice a2 k2 c2] 94);have b1:=hid ((Below.refl w.heap.size w).alloc (Nat.le_refl _) (.cells #[.bool m1,.slice a1 k1 c1,.slice a2 k2 c2] 94));have Y1:=hid (X1.out.alloc (.cells #[.bool m2,.slice a3 k3 c3,.slice a4 k4 c4] 94));have X2:=hid (Blk.new (w.alloc (.cells #[.bool m1,.slice a1 k1 c1,.slice a2 k2 c2] 94)) #[.bool m2,.slice a3 k3 c3,.slice a4 k4 c4] 94);have b2:=hid (b1.out.alloc b1.out.size (.cells #[.bool m2,.slice a3 k3 c3,.slice a4 k4 c4] 94));have P2:=hid (hp.call b2.out);have Q2:=hid (hq.call b2.out);have r0:=Y1.out.cell 0;have r1:=Y1.out.cell 1;have r2:=Y1.out.cell 2;have s0:=X2.out.cell 0;have s1:=X2.out.cell 1;have s2:=X2.out.cell 2;simp at r0 r1 r2 s0 s1 s2;clear hk1 hk2 hk3 hk4 hm1 hm2 hn1 hn2 hd1 hd2 hp hq hL sp sq SQ hQ;go_enter Tryz.func160,Tryz.ntmps160;go_wp2_with fail;refine (F1 _ _ _ P2.out Q2.out).out.mono ?_;rintro e w3 ⟨⟨v3,rfl,hv3⟩,hb3⟩;have y3:=hid (a0a b2.out hb3);obtain⟨N3,D3,rfl,hn3,hd3⟩:=hv3.ex;obtain⟨a5,c5,rfl,_⟩:=hn3.openI;obtain⟨a6,c6,rfl,_⟩:=hd3.openI;obtain⟨k5,hk5⟩:∃ k,(limbs Q.num.natAbs).length=k:=⟨_,rfl⟩;obtain⟨k6,hk6⟩:∃ k,(limbs Q.den).length=k:=⟨_,rfl⟩;obtain⟨m3,hm3⟩:∃ m,decide (Q.num<0)=m:=⟨_,rfl⟩;rw[hk5,hk6,hm3]at hv3 ⊢;have V3:=hid hv3;clear hb3 hv3 hn3 hd3 hk5 hk6 hm3;go_wp2_with fail;refine (F2 _ _ V3.out (HL.out.call y3.out)).out.mono ?_;rintro e w4 ⟨rfl,hb4⟩;have y4:=hid (a0a y3.out hb4);clear hb4;go_wp2_with fail;go_ret2
 exact⟨rfl,y4.out⟩
theorem x0m (w:World)(s t:ByteArray)(hs:s.size≤1000000)(ht:t.size≤1000000)(hL:Lay w):
 Calls Tryz.prog 97 #[.string s,.string t] w fun e w'=>e=.returned (.tuple #[.string (b0b (· - ·) s t),.int .i64 (d0b (· - ·) s t)])∧Below w.heap.size w w':=by
 have H:=hid (o0s w s t 160 (c0I (vQ s-vQ t)) (c0U (vQ s-vQ t)) hs ht hL (enters_of Tryz.func160 (by kernel_rfl) rfl)
  (fun W v u h1 h2 hv hu hLW=>v0N W v u _ _ hv hu (e0Y h1) (e0Y h2) hLW))
 rw[t2B,t2E (f:=(· - ·))]at H;obtain⟨B,hB⟩:∃ B,b0b (· - ·) s t=B:=⟨_,rfl⟩;obtain⟨E,hE⟩:∃ E,d0b (· - ·) s t=E:=⟨_,rfl⟩;rw[hB,hE]at H ⊢;clear hB hE hs ht hL;go_enter Tryz.func97,Tryz.ntmps97;go_wp2_with fail;refine H.out.mono ?_;rintro e w1 ⟨rfl,hb1⟩;have y1:=hid hb1;clear hb1;go_wp2_with fail;go_ret2
 exact⟨rfl,y1.out⟩
theorem t0A {K:Nat}{q:Rat}(h0:q≠0)(h:Sml K q):Sml K q⁻¹ := ⟨by rw[(k0B h0).2.1];exact h.d,by rw[(k0B h0).2.2];exact h.n⟩
theorem x0l {q:Rat}(h:q≠0):(sgQ q==0)=false:=by
 rw[beq_eq_false_iff_ne];have:q.num≠0:=fun e=>h (Rat.num_eq_zero.1 e)
 unfold sgQ
 repeat' split
 all_goals first | omega | (intro h;omega) | simp_all
theorem o0b (m:Bool)(a:Nat):∀ n:Nat,(sgn m a) ^ n=sgn (m && decide (n%2=1)) (a ^ n)
 | 0=>by simp[sgn]
 | n+1=>by
  rw[Int.pow_succ,o0b m a n,Nat.pow_succ];rcases Nat.mod_two_eq_zero_or_one n with h | h
  ·have e:(n+1)%2=1:=by omega
   cases m<;>simp[sgn,h,e,Int.mul_neg]
  ·have e:(n+1)%2=0:=by omega
   cases m<;>simp[sgn,h,e,Int.mul_neg,Int.neg_mul]
theorem f0S (q:Rat)(n:Nat):decide ((q ^ n).num<0)=(decide (q.num<0) && decide (n%2=1))∧(q ^ n).num.natAbs=q.num.natAbs ^ n∧(q ^ n).den=q.den ^ n:=by
 have h1:(q ^ n).num=sgn (decide (q.num<0) && decide (n%2=1)) (q.num.natAbs ^ n):=by
  rw[Rat.num_pow,← o0b,g0J]
 refine⟨?_,by rw[h1,b0s],Rat.den_pow q n⟩;rw[h1];by_cases hq:q.num<0
 ·rw[k0k (Nat.pow_pos (by omega))]
 ·have:decide (q.num<0)=false:=by simpa using hq
  rw[this];simp[sgn];exact Int.natCast_nonneg _
theorem l0B {q:Rat}{n:Nat}(h:4000<nDigits (q.num.natAbs ^ n)∨4000<nDigits (q.den ^ n)):c0I (q ^ n)=⟨#[]⟩∧c0U (q ^ n)=5:=by
 obtain⟨-,h2,h3⟩:=f0S q n;have:ovQ (q ^ n):=by unfold ovQ;rw[h2,h3];exact h
 exact⟨if_pos this,if_pos this⟩
theorem v0O (w:World)(v:Value)(q:Rat)(n g1:Nat)(hp:IsQ .u64 w v q)(sp:Sml 1000 q)(hn:n≤9223372036854775807)(hL:Lay w)(c1:w.cell? ⟨g1,0,none⟩=some (.int .i64 (n:Nat))):
 Calls Tryz.prog 134 #[v,.pointer (some ⟨g1,0,none⟩)] w fun e w'=>e=.returned (.tuple #[.string (c0I (q ^ n)),.int .i64 (c0U (q ^ n))])∧Below w.heap.size w w':=by
 have F1:=fun V v hv hV=>hid (p0d V v q.num.natAbs n hv (Nat.le_trans sp.n (by omega)) (by omega) hV)
 have F2:=fun V v hv hV=>hid (p0d V v q.den n hv (Nat.le_trans sp.d (by omega)) (by omega) hV)
 obtain⟨e1,e2,e3⟩:=f0S q n;have HOV:=hid (fun h=>l0B (q:=q) (n:=n) h);have F3:=fun V v hv hV (h1:nDigits (q.num.natAbs ^ n)≤4000) (h2:nDigits (q.den ^ n)≤4000)=>hid (m0Y V v (q ^ n) hv (by rw[e2];exact Nat.le_trans (a0u h1) (by omega)) (by rw[e3];exact Nat.le_trans (a0u h2) (by omega)) hV)
 obtain⟨B,hB⟩:∃ B,c0I (q ^ n)=B:=⟨_,rfl⟩;obtain⟨E,hE⟩:∃ E,c0U (q ^ n)=E:=⟨_,rfl⟩;rw[hB,hE]at F3 HOV ⊢;clear hB hE;have HL:=hid hL;obtain⟨N1,D1,rfl,hn1,hd1⟩:=hp.ex;obtain⟨a1,c1',rfl,_⟩:=hn1.openI;obtain⟨a2,c2',rfl,_⟩:=hd1.openI;obtain⟨k1,hk1⟩:∃ k,(limbs q.num.natAbs).length=k:=⟨_,rfl⟩;obtain⟨k2,hk2⟩:∃ k,(limbs q.den).length=k:=⟨_,rfl⟩;obtain⟨m1,hm1⟩:∃ m,decide (q.num<0)=m:=⟨_,rfl⟩;rw[hk1,hk2,hm1]at hp ⊢;rw[hk1]at hn1;rw[hk2]at hd1;rw[hm1]at e1;have X1:=hid (Blk.new w #[.bool m1,.slice a1 k1 c1',.slice a2 k2 c2'] 94);have b1:=hid ((Below.refl w.heap.size w).alloc (Nat.le_refl _) (.cells #[.bool m1,.slice a1 k1 c1',.slice a2 k2 c2'] 94));have N2:=hid (hn1.call b1.out);have D2:=hid (hd1.call b1.out);have r0:=X1.out.cell 0;have r1:=X1.out.cell 1;have r2:=X1.out.cell 2;have C1:=(b1.out.cell (a0k c1)).trans c1;simp at r0 r1 r2;have q0:decide ((n:Int)<0)=false:=by simp
 have w0:IntKind.u64.wrap (n:Int)=(n:Int):=IntWalk.u64_in _ ⟨by omega,by omega⟩;have E1:=hid e1;have E2:=hid e2;have E3:=hid e3;have HN:=hid hn;clear hk1 hk2 hm1 hn1 hd1 hp hL sp e1 e2 e3 c1 hn;go_enter Tryz.func134,Tryz.ntmps134;go_wp2_with fail;refine (F1 _ _ N2.out (HL.out.call b1.out)).out.mono ?_;rintro e w3 ⟨hr3,hb3⟩;have y3:=hid (a0a b1.out hb3);have X3:=hid (X1.out.call hb3);have C3:=(hb3.cell (a0k C1)).trans C1;have D3:=hid (D2.out.call hb3);clear hb3 r0 r1 r2 C1;have r0:=X3.out.cell 0;have r1:=X3.out.cell 1;have r2:=X3.out.cell 2;simp at r0 r1 r2;rcases hr3 with ⟨l3,v3,rfl,hv3⟩ | ⟨l3,rfl⟩
 ·obtain⟨a3,c3,rfl,_⟩:=hv3.openI;obtain⟨k3,hk3⟩:∃ k,(limbs (q.num.natAbs ^ n)).length=k:=⟨_,rfl⟩;rw[hk3]at hv3 ⊢;have V3:=hid hv3;have L3:=hid l3;clear hk3 hv3 l3;go_wp2_with fail;refine (F2 _ _ D3.out (HL.out.call y3.out)).out.mono ?_;rintro e w4 ⟨hr4,hb4⟩;have y4:=hid (a0a y3.out hb4);have X4:=hid (X3.out.call hb4);have C4:=(hb4.cell (a0k C3)).trans C3;have V4:=hid (V3.out.call hb4);clear hb4 r0 r1 r2 C3;have r0:=X4.out.cell 0;have r1:=X4.out.cell 1;have r2:=X4.out.cell 2;simp at r0 r1 r2;rcases hr4 with ⟨l4,v4,rfl,hv4⟩ | ⟨l4,rfl⟩
  ·obtain⟨a4,c4,rfl,_⟩:=hv4.openI;obtain⟨k4,hk4⟩:∃ k,(limbs (q.den ^ n)).length=k:=⟨_,rfl⟩;rw[hk4]at hv4 ⊢;have W4:=hid hv4;have L4:=hid l4;clear hk4 hv4 l4;have M:=hid (show IsQ .u64 w4 (.agg #[.bool (m1 && decide (n%2=1)),.slice a3 k3 c3,.slice a4 k4 c4]) (q ^ n) from⟨_,_,by rw[E1.out],by rw[E2.out];exact V4.out,by rw[E3.out];exact W4.out⟩);obtain⟨Q,hQ⟩:∃ Q,q ^ n=Q:=⟨_,rfl⟩;rw[hQ]at F3 M;clear hQ HOV F1 F2;have F4:=F3 _ _ M.out (HL.out.call y4.out) L3.out L4.out;cases m1
   ·simp only[Bool.false_and]at F4;go_wp2_with fail;refine F4.out.mono ?_;rintro e w5 ⟨rfl,hb5⟩;have y5:=hid (a0a y4.out hb5);clear hb5;go_wp2_with fail;go_ret2
    exact⟨rfl,y5.out⟩
   ·simp only[Bool.true_and]at F4;have e9:((n:Int)%2==1)=decide (n%2=1):=by
     rw[Bool.eq_iff_iff,beq_iff_eq,decide_eq_true_eq];omega
    rw[← e9]at F4;clear e9;go_wp2_with fail;refine F4.out.mono ?_;rintro e w5 ⟨rfl,hb5⟩;have y5:=hid (a0a y4.out hb5);clear hb5;go_wp2_with fail;go_ret2
    exact⟨rfl,y5.out⟩
  ·have e7:=hid (HOV.out (.inr l4));clear l4;go_wp2_with fail;go_ret2
   exact⟨by rw[e7.out.1,e7.out.2];rfl,y4.out⟩
 ·have e7:=hid (HOV.out (.inl l3));clear l3;go_wp2_with fail;refine (F2 _ _ D3.out (HL.out.call y3.out)).out.mono ?_;rintro e w4 ⟨hr4,hb4⟩;have y4:=hid (a0a y3.out hb4);rcases hr4 with ⟨l4,v4,rfl,hv4⟩ | ⟨l4,rfl⟩
  ·obtain⟨a4,c4,rfl,_⟩:=hv4.openI;obtain⟨k4,hk4⟩:∃ k,(limbs (q.den ^ n)).length=k:=⟨_,rfl⟩;rw[hk4];clear hk4 hv4 l4 hb4;go_wp2_with fail;go_ret2
   exact⟨by rw[e7.out.1,e7.out.2];rfl,y4.out⟩
  ·clear l4 hb4;go_wp2_with fail;go_ret2
   exact⟨by rw[e7.out.1,e7.out.2];rfl,y4.out⟩
def pwB (n:Nat)(s:ByteArray):ByteArray:=v0i (· ^ n) s
def pwE (n:Nat)(s:ByteArray):Int:=v0Y (· ^ n) s
theorem x0n (w:World)(s:ByteArray)(n:Nat)(hs:s.size≤1000000)(hn:n≤9223372036854775807)(hL:Lay w):
 Calls Tryz.prog 63 #[.string s,.int .i64 (n:Nat)] w fun e w'=>e=.returned (.tuple #[.string (pwB n s),.int .i64 (pwE n s)])∧Below w.heap.size w w':=by
 have HL:=hid hL;have b1:=hid ((Below.refl w.heap.size w).alloc (Nat.le_refl _) (.cells #[.int .i64 (n:Nat)] 3));have X1:=hid (Blk.new w #[.int .i64 (n:Nat)] 3);obtain⟨g1,hg1⟩:∃ g,w.heap.size=g:=⟨_,rfl⟩;obtain⟨w1,hw1⟩:∃ w1,w.alloc (.cells #[.int .i64 (n:Nat)] 3)=w1:=⟨_,rfl⟩;have L1:=hid (HL.out.call b1.out);have b1':=b1;rw[hw1]at b1 X1 L1;rw[hg1]at X1;have W1:=hid (l0z w1 s 134 #[.pointer (some ⟨g1,0,none⟩)] (c0I (vQ s ^ n)) (c0U (vQ s ^ n)) hs L1.out (enters_of Tryz.func134 (by kernel_rfl) rfl)
  (fun W v hq hb hv hLW=>v0O W v (vQ s) n g1 hv (e0Y hq) hn hLW ((X1.out.call hb).cell 0)))
 have e1:wB (c0I (vQ s ^ n)) s=pwB n s:=rfl;have e2:wE (c0U (vQ s ^ n)) s=pwE n s:=rfl;rw[e1,e2]at W1;obtain⟨B,hB⟩:∃ B,pwB n s=B:=⟨_,rfl⟩;obtain⟨E,hE⟩:∃ E,pwE n s=E:=⟨_,rfl⟩;rw[hB,hE]at W1 ⊢;have HW:=hid hw1;have HG:=hid hg1;clear hB hE hs hL hn e1 e2 hw1 hg1 b1';go_enter Tryz.func63,Tryz.ntmps63;go_wp2_with fail;have hw1:=HW.out;have hg1:=HG.out;rw[hw1,hg1];refine W1.out.mono ?_;rintro e w2 ⟨rfl,hb2⟩;have y2:=hid (a0a b1.out hb2);clear hb2 hw1 hg1;go_wp2_with fail;go_ret2
 exact⟨rfl,y2.out⟩
end Go.Proofs.YtlmnpocifldpmaaGreatDoor
namespace Go.Proofs.YtlmnpocifldpmaaGreatDoor
open Go.RowKit
open Go.Lib (decDigits nDigits)
theorem r0c {a:ByteArray}(h:gPE a=0):vQ a=mkRat (bN (cW a):Nat) (bN (qD a)):=by
 have hm:iM (cW a)=false:=by
  unfold gPE at h
  split at h
  ·rename_i he;exact absurd h he
  ·split at h
   ·cases h
   ·rename_i _ hm
    cases hi:iM (cW a)
    ·rfl
    ·exact absurd (.inl hi) hm
 unfold vQ;rw[hm,e0H hm,h0E]
section
variable {a : ByteArray} {n : Nat} (hG : gPE a = 0) (hs : a.size ≤ 20) (hn : n ≤ 12)
include hG hs hn
end
end Go.Proofs.YtlmnpocifldpmaaGreatDoor
namespace Go.Proofs.YtlmnpocifldpmaaGreatDoor
open Go.RowKit
def p3 (N D n i k s:Nat)(v:Int):Nat:=if (k:Int)-(i:Int)=v then a0i (fun s'=>edn N D k s'*cw (n-s') (f0p N D i)) s else 0
def q3 (N D n i k:Nat)(v:Int):Nat:=a0i (fun k'=>p3 N D n i k' (n+1) v) k
def t3 (N D n i:Nat)(v:Int):Nat:=a0i (fun i'=>q3 N D n i' (n+1) v) i
def c3 (N D n i k s:Nat)(v:Int):Nat:=t3 N D n i v+q3 N D n i k v+p3 N D n i k s v
open Go.Lib (decDigits nDigits)
theorem h0y {a:ByteArray}(h:gPE a=0):qE a=0∧iM (cW a)=false:=by
 unfold gPE at h
 split at h
 ·rename_i he;exact absurd h he
 ·rename_i he
  split at h
  ·cases h
  ·rename_i hm
   refine⟨by simpa using he,?_⟩;cases hi:iM (cW a)
   ·rfl
   ·exact absurd (.inl hi) hm
theorem j0b {a:ByteArray}(h:gPE a=0)(h0:a≠⟨#[48]⟩):0<bN (cW a):=by
 obtain⟨h1,h2⟩:=h0y h;obtain⟨v1,v2,-,-,-,v6⟩:=q0w h1;rw[e0H h2]at v1 v6;rcases Nat.eq_zero_or_pos (bN (cW a)) with e | e
 ·refine absurd ?_ h0;rw[e,Nat.gcd_zero_left]at v1;rw[v6,e,v1,h2];apply a0Y
  rw[c0g,b0W]
  rfl
 ·exact e
section
variable {N D : Nat} (h : N < D)
include h
def o3 (N D n i j:Nat):Nat:=if n≤j∧j<n+i then gV N D false n ((j:Int)-n) else 0
omit h in
end
def i0x (n:Nat)(s:ByteArray):ByteArray:=v0i (fun q=>q⁻¹ ^ n) s
def o0x (n:Nat)(s:ByteArray):Int:=v0Y (fun q=>q⁻¹ ^ n) s
def g0V (a:ByteArray):Int:=if gPE a≠0 then gPE a else if a=⟨#[48]⟩ then 6 else 0
def ffM (reach:Int)(one:Bool):Nat:=if one=true then reach.toNat else 2*reach.toNat
theorem d0i (f:Rat→Rat→Rat)(s t:ByteArray):(b0b f s t).size≤10000:=by
 unfold b0b
 split
 ·exact c0Y _
 ·exact Nat.zero_le _
theorem u0n {a:ByteArray}(h:g0V a=0):gPE a=0∧a≠⟨#[48]⟩:=by
 unfold g0V at h
 split at h
 ·rename_i h1;exact absurd h h1
 ·rename_i h1
  refine⟨Classical.byContradiction h1,fun e=>?_⟩;rw[if_pos e]at h;cases h
theorem p0g {a:ByteArray}(h:g0V a=0):qE a=0∧0<(vQ a).num:=by
 obtain⟨h1,h2⟩:=u0n h;obtain⟨hq,hm⟩:=h0y h1;obtain⟨e1,e2,e3⟩:=n0y hq;refine⟨hq,?_⟩;have hp:=j0b h1 h2;have e4:iD (cW a)=cW a:=e0H hm;rw[e4]at e2;have h3:¬ (vQ a).num<0:=by
  have:=e1;rw[hm]at this;simpa using this
 omega
theorem w0p {a:ByteArray}(h:g0V a=0):vQ a≠0:=fun e=>by
 have:=(p0g h).2;rw[e]at this;exact absurd this (by decide)
end Go.Proofs.YtlmnpocifldpmaaGreatDoor
namespace Go.Proofs
open Go.Shelf
def Tryz.sortMW_ren:Go.Shelf.Ren:=⟨fun | 14=>100 | 20=>163 | 21=>164 | 22=>165 | 23=>166 | 24=>167 | 25=>168 | 26=>169 | 27=>170 | 46=>230 | 47=>231 | 48=>232 | 49=>233 | 50=>234 | 15=>101 | 57=>279 | 28=>171 | 29=>172 | n=>n,fun | 24=>39 | 22=>25 | 3=>3 | 25=>78 | 4=>4 | 0=>0 | 46=>183 | 45=>182 | 50=>187 | 66=>238 | 39=>125 | 55=>151 | 70=>242 | 76=>293 | 77=>294 | 53=>175 | 5=>5 | 9=>9 | n=>n,fun | n=>n⟩
theorem Tryz.sortMW:Go.Proofs.SlLaysF0.n14 Tryz.prog Tryz.sortMW_ren:={
 mixed:=by kernel_rfl
 f14:=⟨Tryz.f100.name,by decide,Tryz.func100.trans (congrArg some (by kernel_rfl))⟩
 f15:=Tryz.func101.trans (congrArg some (by kernel_rfl))
 f20:=⟨Tryz.f163.name,by decide,Tryz.func163.trans (congrArg some (by kernel_rfl))⟩
 f21:=⟨Tryz.f164.name,by decide,Tryz.func164.trans (congrArg some (by kernel_rfl))⟩
 f22:=⟨Tryz.f165.name,by decide,Tryz.func165.trans (congrArg some (by kernel_rfl))⟩
 f23:=⟨Tryz.f166.name,by decide,Tryz.func166.trans (congrArg some (by kernel_rfl))⟩
 f24:=⟨Tryz.f167.name,by decide,Tryz.func167.trans (congrArg some (by kernel_rfl))⟩
 f25:=⟨Tryz.f168.name,by decide,Tryz.func168.trans (congrArg some (by kernel_rfl))⟩
 f26:=⟨Tryz.f169.name,by decide,Tryz.func169.trans (congrArg some (by kernel_rfl))⟩
 f27:=⟨Tryz.f170.name,by decide,Tryz.func170.trans (congrArg some (by kernel_rfl))⟩
 f28:=Tryz.func171.trans (congrArg some (by kernel_rfl))
 f29:=Tryz.func172.trans (congrArg some (by kernel_rfl))
 f46:=⟨Tryz.f230.name,by decide,Tryz.func230.trans (congrArg some (by kernel_rfl))⟩
 f47:=Tryz.func231.trans (congrArg some (by kernel_rfl))
 f48:=Tryz.func232.trans (congrArg some (by kernel_rfl))
 f49:=⟨Tryz.f233.name,by decide,Tryz.func233.trans (congrArg some (by kernel_rfl))⟩
 f50:=⟨Tryz.f234.name,by decide,Tryz.func234.trans (congrArg some (by kernel_rfl))⟩
 f57:=⟨Tryz.f279.name,by decide,Tryz.func279.trans (congrArg some (by kernel_rfl))⟩
 t0:=Tryz.underlying0
 a0:=Tryz.isAgg0
 z0:=Tryz.sizeOf0
 v0:=Tryz.zeroValue0
 t3:=Tryz.underlying3
 a3:=Tryz.isAgg3
 z3:=Tryz.sizeOf3
 v3:=Tryz.zeroValue3
 t4:=Tryz.underlying4
 a4:=Tryz.isAgg4
 z4:=Tryz.sizeOf4
 v4:=Tryz.zeroValue4
 t5:=Tryz.underlying5
 a5:=Tryz.isAgg5
 z5:=Tryz.sizeOf5
 v5:=Tryz.zeroValue5
 t9:=Tryz.underlying9
 a9:=Tryz.isAgg9
 z9:=Tryz.sizeOf9
 v9:=Tryz.zeroValue9
 t22:=Tryz.underlying25
 a22:=Tryz.isAgg25
 z22:=Tryz.sizeOf25
 v22:=Tryz.zeroValue25
 t25:=Tryz.underlying78
 a25:=Tryz.isAgg78
 z25:=Tryz.sizeOf78
 v25:=Tryz.zeroValue78
 t39:=Tryz.underlying125
 a39:=Tryz.isAgg125
 z39:=Tryz.sizeOf125
 v39:=Tryz.zeroValue125
 t45:=Tryz.underlying182
 a45:=Tryz.isAgg182
 z45:=Tryz.sizeOf182
 v45:=Tryz.zeroValue182
 t46:=Tryz.underlying183
 a46:=Tryz.isAgg183
 z46:=Tryz.sizeOf183
 v46:=Tryz.zeroValue183
 t50:=Tryz.underlying187
 a50:=Tryz.isAgg187
 z50:=Tryz.sizeOf187
 v50:=Tryz.zeroValue187
 t53:=Tryz.underlying175
 a53:=Tryz.isAgg175
 z53:=Tryz.sizeOf175
 v53:=Tryz.zeroValue175
 t55:=Tryz.underlying151
 a55:=Tryz.isAgg151
 z55:=Tryz.sizeOf151
 v55:=Tryz.zeroValue151
 t66:=Tryz.underlying238
 a66:=Tryz.isAgg238
 z66:=Tryz.sizeOf238
 v66:=Tryz.zeroValue238
 t70:=Tryz.underlying242
 a70:=Tryz.isAgg242
 z70:=Tryz.sizeOf242
 v70:=Tryz.zeroValue242
 t76:=Tryz.underlying293
 a76:=Tryz.isAgg293
 z76:=Tryz.sizeOf293
 v76:=Tryz.zeroValue293
 t77:=Tryz.underlying294
 a77:=Tryz.isAgg294
 z77:=Tryz.sizeOf294
 v77:=Tryz.zeroValue294 }
def Tryz.lenW_ren:Go.Shelf.Ren:=⟨fun | 125=>101 | 128=>171 | 129=>172 | n=>n,fun | 46=>125 | 3=>3 | 51=>175 | 53=>151 | 4=>4 | 5=>5 | 9=>9 | n=>n,fun | n=>n⟩
theorem Tryz.lenW:Go.Proofs.Lays.n125 Tryz.prog Tryz.lenW_ren:={
 mixed:=by kernel_rfl
 f125:=Tryz.func101.trans (congrArg some (by kernel_rfl))
 f128:=Tryz.func171.trans (congrArg some (by kernel_rfl))
 f129:=Tryz.func172.trans (congrArg some (by kernel_rfl))
 t3:=Tryz.underlying3
 a3:=Tryz.isAgg3
 z3:=Tryz.sizeOf3
 v3:=Tryz.zeroValue3
 t4:=Tryz.underlying4
 a4:=Tryz.isAgg4
 z4:=Tryz.sizeOf4
 v4:=Tryz.zeroValue4
 t5:=Tryz.underlying5
 a5:=Tryz.isAgg5
 z5:=Tryz.sizeOf5
 v5:=Tryz.zeroValue5
 t9:=Tryz.underlying9
 a9:=Tryz.isAgg9
 z9:=Tryz.sizeOf9
 v9:=Tryz.zeroValue9
 t46:=Tryz.underlying125
 a46:=Tryz.isAgg125
 z46:=Tryz.sizeOf125
 v46:=Tryz.zeroValue125
 t51:=Tryz.underlying175
 a51:=Tryz.isAgg175
 z51:=Tryz.sizeOf175
 v51:=Tryz.zeroValue175
 t53:=Tryz.underlying151
 a53:=Tryz.isAgg151
 z53:=Tryz.sizeOf151
 v53:=Tryz.zeroValue151 }
end Go.Proofs
namespace Go.Proofs.YtlmnpocifldpmaaGreatDoor
open Go.RowKit
open Go.Sort
open Go.Shelf
open Go.Lib
def n0g (p q:ByteArray×ByteArray):Int:=if b0p p<b0p q then -1 else if b0p q<b0p p then 1 else 0
theorem f0v (p q:ByteArray×ByteArray):n0g p q<0↔b0p p<b0p q:=by
 unfold n0g
 split
 ·rename_i h;simp[h]
 ·rename_i h
  split<;>simp[h]
def p0C (p:ByteArray×ByteArray):List Value:=[.string p.1,.string p.2]
theorem x0H:SWO (ltOf n0g) where
 irrefl x:=by
  simp only[ltOf,decide_eq_false_iff_not,f0v];exact List.lt_irrefl _
 trans x y z h1 h2:=by
  simp only[ltOf,decide_eq_true_eq,f0v]at *;exact List.lt_trans h1 h2
 ntrans x y z h1 h2:=by
  simp only[ltOf,decide_eq_false_iff_not,f0v,List.not_lt]at *;exact List.le_trans h2 h1
theorem e0C {L:List (ByteArray×ByteArray)}(i:Nat):(b0B L)[i]? = (L[i / 2]?).map (fun p=>if i%2=0 then Value.string p.1 else Value.string p.2):=by
 cases h:L[i / 2]? with
 | none=>
  rw[List.getElem?_eq_none_iff]at h;rw[Option.map_none,List.getElem?_eq_none_iff,b0f];omega
 | some p=>
  obtain⟨h1,h2⟩:=c0t h;rw[Option.map_some];by_cases hm:i%2=0
  ·rw[if_pos hm,show i=2*(i / 2) by omega];exact h1
  ·rw[if_neg hm,show i=2*(i / 2)+1 by omega];exact h2
theorem g0Z (d:Array (ByteArray×ByteArray)):(flatK p0C 2 d).toList=b0B d.toList:=by
 apply List.ext_getElem?
 intro i;rw[e0C];by_cases hi:i<d.size*2
 ·have e1:=get_flatK p0C 2 d i (by omega);rw[getElem!_pos _ _ (by simp;omega)]at e1;have hi2:i / 2<d.size:=by omega
  rw[Array.getElem?_toList,Array.getElem?_eq_getElem (by simp;omega),e1,Array.getElem?_toList,Array.getElem?_eq_getElem hi2,Option.map_some,getElem!_pos d (i / 2) hi2];by_cases hm:i%2=0
  ·rw[if_pos hm,hm];rfl
  ·rw[if_neg hm,show i%2=1 by omega];rfl
 ·rw[List.getElem?_eq_none (by simp;omega),Array.getElem?_toList,Array.getElem?_eq_none (by omega)];rfl
theorem j0z {w:World}{g n:Nat}{os:Array Obj}{cur:Array Value}{e:TypeId}{fr:Nat×Nat}(d:Array Value)(hb:w.heap[g]?=some (.cells cur e fr)):
 (grow (putRow id (Sort.ahead w n) g 0 d) os).heap[g]?=some (.cells (putCells id 0 d cur) e fr):=by
 have hg:g<w.heap.size:=(Array.getElem?_eq_some_iff.1 hb).1;rw[Go.Sort.heap_grow_old _ _ (by simpa using hg)];simp[putRow,mapBlock,Sort.ahead,Array.getElem?_modify,hb,onCells]
theorem i0r {w:World}{g n base:Nat}{os:Array Obj}(d:Array Value)(hb:base≤g)(hw:base≤w.heap.size):Below base w (grow (putRow id (Sort.ahead w n) g 0 d) os):=by
 refine⟨rfl,rfl,rfl,by simp,fun k hk=>?_⟩;rw[Go.Sort.heap_grow_old _ _ (by simp;omega)];have:g≠k:=by omega
 simp[putRow,mapBlock,Sort.ahead,Array.getElem?_modify,this]
theorem g0s (cur F:Array Value)(h:F.size≤cur.size):(putCells id 0 F cur).toList.take F.size=F.toList:=by
 apply List.ext_getElem?
 intro j;by_cases hj:j<F.size
 ·rw[List.getElem?_take_of_lt hj,Array.getElem?_toList];simp[putCells,hj,show j<cur.size by omega]
 ·rw[List.getElem?_take_eq_none (by omega),List.getElem?_eq_none (by simp;omega)]
theorem m0F {d d':Array (ByteArray×ByteArray)}(h:PermIn 0 d.size d d'):d'.size=d.size∧d'.toList.Perm d.toList:=by
 obtain⟨h1,_,h3⟩:=h;refine⟨h1,?_⟩;have e1:d'.extract 0 d.size=d':=by rw[← h1];simp
 have e2:d.extract 0 d.size=d:=by simp
 rwa[e1,e2]at h3
theorem i0U {d':Array (ByteArray×ByteArray)}(h:SortedIn (ltOf n0g) 0 d'.size d'):d'.toList.Pairwise (fun p q=>leB (b0p p) (b0p q)=true):=by
 rw[List.pairwise_iff_getElem];intro i j hi hj hij;have:=h i j (Nat.zero_le _) hij (by simpa using hj);simp only[ltOf,decide_eq_false_iff_not,f0v,List.not_lt]at this;rw[getElem!_pos _ _ (by simpa using hi),getElem!_pos _ _ (by simpa using hj)]at this;simp only[leB,decide_eq_true_eq];simpa using this
theorem n0W {L M:List (ByteArray×ByteArray)}(hp:L.Perm M)(hs:L.Pairwise (fun p q=>leB (b0p p) (b0p q)=true))(nd:(M.map b0p).Nodup):L=a0D M:=by
 have nd2:(L.map b0p).Nodup:=((hp.map b0p).nodup_iff).2 nd;rw[← g0I nd2 nd (fun p=>hp.mem_iff)];exact (List.mergeSort_of_pairwise hs).symm
theorem o0h (F:Nat)(g cap base:Nat)(d:Array (ByteArray×ByteArray))(w:World)(cur:Array Value)(hb:base≤g)(hg:w.heap[g]?=some (.cells cur 39 (0,0)))(h1:d.size≤cap)(h2:cap≤maxLen)(h3:cur.size=cap*2)(h4:cur.toList.take (d.size*2)=b0B d.toList)(hs:d.size≤1000)(hnd:(d.toList.map b0p).Nodup)
 (eg:∀ args w,(callFunc F args).run Tryz.prog w=.ok (.enter F args) w) (hF:∀ (x y:ByteArray×ByteArray) (W:World),Calls Tryz.prog F #[.agg #[.string x.1,.string x.2],.agg #[.string y.1,.string y.2]] W fun e w'=>e=.returned (.int .i64 (n0g x y))∧∃ n os',w'=grow (W.drewN n) os'):
 Calls Tryz.prog 41 #[.slice (some ⟨g,0,none⟩) d.size cap,.func (.func F) #[] #[]] w fun e w'=>e=.returned (.tuple #[])∧w'.ownsRow base 39 2 (.slice (some ⟨g,0,none⟩) d.size cap) d.size (b0B (a0D d.toList))∧Below base w w':=by
 have hblk:g<w.heap.size:=(Array.getElem?_eq_some_iff.1 hg).1;have hH:HoldsK p0C 2 w g 0 d:=by
  intro j hj;have hj':j<d.size*2:=by simpa using hj
  refine⟨?_,by simp[World.frozen?,hg]⟩;have e:(cur.toList.take (d.size*2))[j]? = (flatK p0C 2 d).toList[j]? := by rw[h4,g0Z]
  rw[List.getElem?_take_of_lt hj']at e;simp only[World.cell?,hg,Nat.zero_add];simp only[Option.isSome_none,Bool.false_eq_true,if_false];rw[← Array.getElem?_toList,e,Array.getElem?_toList,Array.getElem?_eq_getElem hj,getElem!_pos (flatK p0C 2 d) j hj]
  rfl
 have hcmp:CmpLays Tryz.prog F #[] p0C 2 n0g g 0 d.size w:=fun _ _ _ _ x y=>hF x y _
 have hd:∀ x:ByteArray×ByteArray,(p0C x).length=2:=fun _=>rfl
 have h1c:∀ x:ByteArray×ByteArray,∀ v∈p0C x,v.oneCell'=true:=fun x v hv=>by simp[p0C]at hv;rcases hv with rfl | rfl<;>rfl
 have hlim:Lib.bitLen d.size<4611686018427387904:=Nat.lt_of_le_of_lt (Lib.bitLen_le d.size 62 (by omega) (by omega)) (by omega);have hpd:=AnyQ.pdqsortCmpFunc_all Tryz.sortMW 2 Tryz.isAgg39 Tryz.sizeOf39 p0C n0g F #[] x0H g 0 cap d w eg hcmp ⟨hd,h1c,hH,hblk⟩ (d.size+1) 0 d.size (Lib.bitLen d.size) d w (by omega) rfl (SWK.start hH) (Nat.zero_le _) (Nat.le_refl _) (by omega) hlim (Or.inl rfl)
 change Calls Tryz.prog 100 _ _ _ at hpd
 have hbl:Calls Tryz.prog 101 #[.int .u64 (d.size:Int)] w fun e w'=>e=.returned (.int .i64 (Lib.bitLen d.size:Nat))∧w'=w:=by
  have h:=Any.bits_Len Tryz.lenW (d.size:Int) w (by omega) (by omega);rwa[Int.toNat_natCast]at h
 have wr:IntKind.u64.wrap (d.size:Int)=d.size:=by simp[IntKind.wrap,IntKind.bits,IntKind.signed];omega
 have hz:=pdq_sorts (ltOf n0g) x0H d 0 d.size (Lib.bitLen d.size) true true (Nat.zero_le _) (Nat.le_refl _) (Or.inl rfl);have P:=m0F hz.1;have hz2:=hz.2;generalize pdq (ltOf n0g) d 0 d.size (Lib.bitLen d.size) true true=d' at *
 have S:=i0U (P.1 ▸ hz2);have hd':d'.toList=a0D d.toList:=n0W P.2 S hnd;clear hH hcmp hz hz2 hF;have h2h:=hid h2;clear h2;have h4h:=hid h4;clear h4;have HND:=hid hnd;clear hnd;go_enter Tryz.func41,Tryz.ntmps41;go_wp2_with fail;refine hbl.mono ?_;rintro e w' ⟨rfl,rfl⟩;go_wp2_with fail;refine hpd.mono ?_;rintro e w' ⟨rfl,n,os,rfl⟩;go_wp2_with fail
 go_end0
 refine⟨rfl,⟨?_,.inr ⟨g,cap,_,rfl,hb,j0z _ hg,h1,h2h.out,by simp[putCells,h3],?_⟩⟩,i0r _ hb (by omega)⟩
 ·rw[b0f,← hd'];simp[P.1]
 ·rw[← hd',← g0Z];have:=g0s cur (flatK p0C 2 d') (by rw[size_flatK,P.1,h3];omega);rwa[size_flatK,P.1]at this
end Go.Proofs.YtlmnpocifldpmaaGreatDoor
namespace Go.Proofs.YtlmnpocifldpmaaGreatDoor
open Go.RowKit
open Go.Sort
open Go.Shelf
open Go.Maps
open Go.Lib (decDigits nDigits)
theorem t0G (w:World)(v:Int)(h1 : -100000≤v)(h2:v≤100000)(hL:Lay w):
 Calls Tryz.prog 38 #[.int .i64 v] w fun e w'=>e=.returned (.string (zB v))∧Below w.heap.size w w':=by
 refine (Tryz.strconv_Itoa v (by omega) (by omega) w hL.tab).mono ?_;rintro e w' ⟨rfl,k,os,rfl⟩;exact⟨rfl,e0V w k os⟩
theorem k0m (v x:Int):(Lit.int .i64 v).sameKey (.int .i64 x)=decide (v=x):=by
 by_cases h:v=x
 ·subst h;rw[WideAt.sameKey_self (show WideAt.IsKeyLit (.int .i64 v) from trivial)];simp
 ·rw[Maps.sameKey_ne (fun e=>h (by injection e))];simp[h]
theorem g0U (x z:ByteArray):Op.bytesLess x.toList z.toList=decide (x.data.toList<z.data.toList):=by
 rw[bytesLess_eq,Lib.toList_data,Lib.toList_data]
theorem o0g (w:World)(x:ByteArray):Calls Tryz.prog 102 #[.string x] w fun e w'=>e=.returned (.bool false)∧w=w':=by
 have q1:(x.toList != x.toList)=false:=by simp
 have q2:(x.toList==x.toList)=true:=by simp
 go_enter Tryz.func102,Tryz.ntmps102;go_wp2_with fail;go_ret
 exact⟨rfl,rfl⟩
theorem i0Z (w:World)(x z:ByteArray):Calls Tryz.prog 43 #[.string x,.string z] w fun e w'=>e=.returned (.int .i64 (if x.data.toList<z.data.toList then -1 else if z.data.toList<x.data.toList then 1 else 0))∧w=w':=by
 have h1:=g0U x z;have h2:=g0U z x;have N1:=fun V=>hid (o0g V x)
 have N2:=fun V=>hid (o0g V z)
 by_cases c1:x.data.toList<z.data.toList
 ·rw[if_pos c1];rw[decide_eq_true c1]at h1;clear h2 c1;go_enter Tryz.func43,Tryz.ntmps43;go_wp2_with fail;refine (N1 _).out.mono ?_;rintro e w1 ⟨rfl,rfl⟩;go_wp2_with fail;refine (N2 _).out.mono ?_;rintro e w1 ⟨rfl,rfl⟩;go_wp2_with fail;go_ret
  exact⟨rfl,rfl⟩
 ·rw[if_neg c1];rw[decide_eq_false c1]at h1;by_cases c2:z.data.toList<x.data.toList
  ·rw[if_pos c2];rw[decide_eq_true c2]at h2;have h3:(x.toList==z.toList)=false:=by
    rw[beq_eq_false_iff_ne];intro e;rw[Lib.toList_data,Lib.toList_data]at e;rw[e]at c2;exact List.lt_irrefl _ c2
   clear c1 c2;go_enter Tryz.func43,Tryz.ntmps43;go_wp2_with fail;refine (N1 _).out.mono ?_;rintro e w1 ⟨rfl,rfl⟩;go_wp2_with fail;refine (N2 _).out.mono ?_;rintro e w1 ⟨rfl,rfl⟩;go_wp2_with fail;go_ret
   exact⟨rfl,rfl⟩
  ·rw[if_neg c2];rw[decide_eq_false c2]at h2;have h3:(x.toList==z.toList)=true:=by
    rw[beq_iff_eq,Lib.toList_data,Lib.toList_data];exact List.le_antisymm (List.not_lt.1 c2) (List.not_lt.1 c1)
   clear c1 c2;go_enter Tryz.func43,Tryz.ntmps43;go_wp2_with fail;refine (N1 _).out.mono ?_;rintro e w1 ⟨rfl,rfl⟩;go_wp2_with fail;refine (N2 _).out.mono ?_;rintro e w1 ⟨rfl,rfl⟩;go_wp2_with fail;go_ret
   exact⟨rfl,rfl⟩
theorem u0x (p q:ByteArray×ByteArray)(w:World):Calls Tryz.prog 219 #[.agg #[.string p.1,.string p.2],.agg #[.string q.1,.string q.2]] w fun e w'=>e=.returned (.int .i64 (n0g p q))∧∃ n os',w'=grow (w.drewN n) os':=by
 obtain⟨p1,p2⟩:=p;obtain⟨q1,q2⟩:=q;dsimp only;have HC:=fun V=>hid (i0Z V p1 q1)
 unfold n0g b0p;dsimp only;obtain⟨r,hr⟩:∃ r:Int,(if p1.data.toList<q1.data.toList then (-1:Int) else if q1.data.toList<p1.data.toList then 1 else 0)=r:=⟨_,rfl⟩;rw[hr]at HC ⊢;clear hr;go_enter Tryz.func219,Tryz.ntmps219;go_wp2_with fail;refine (HC _).out.mono ?_;rintro e w1 ⟨rfl,rfl⟩;go_wp2_with fail;go_ret
 exact⟨rfl,0,_,by rw[alloc_eq_grow,alloc_eq_grow,grow_grow];rfl⟩
end Go.Proofs.YtlmnpocifldpmaaGreatDoor
namespace Go.Proofs.YtlmnpocifldpmaaGreatDoor
open Go.RowKit
open Go.Maps
open Go.Lib (decDigits nDigits)
structure ReadsI {H:Type}(D:DataW H)(c:Int→Nat):Prop where
 map:IsMap D
 has:∀ v:Int,Maps.has D (.int .i64 v)=decide (c v≠0)
 look:∀ v:Int,c v≠0→∀ z,D.atKey (.int .i64 v) z=.lit (.string (a0f (c v)).data.toList)
theorem ReadsI.nil {H:Type}:ReadsI (.map []:DataW H) (fun _=>0):=
 ⟨isMap_empty,fun v=>by simp[Maps.has_eq],fun v h=>absurd rfl h⟩
theorem ReadsI.put {H:Type}{D:DataW H}{c:Int→Nat}(h:ReadsI D c)(v:Int){x:Nat}(hx:0<x):
 ReadsI (D.put (.int .i64 v) (.lit (.string (a0f (c v+x)).data.toList))) (n0l c v x):=by
 refine⟨h.map.put _ _,fun y=>?_,fun y hy z=>?_⟩
 ·by_cases e:y=v
  ·subst e;rw[has_put_same h.map (show WideAt.IsKeyLit (.int .i64 y) from trivial)];unfold n0l;rw[if_pos rfl];simp;omega
  ·rw[has_put_other (fun e'=>e (by injection e')),h.has];unfold n0l;rw[if_neg e]
 ·by_cases e:y=v
  ·subst e;rw[atKey_put_same h.map (show WideAt.IsKeyLit (.int .i64 y) from trivial)];unfold n0l;rw[if_pos rfl]
  ·unfold n0l at hy ⊢;rw[if_neg e]at hy ⊢;rw[atKey_put_other (fun e'=>e (by injection e'))];exact h.look y hy z
def i0o (x:Nat):ByteArray:=if x=0 then ⟨#[]⟩ else a0f x
theorem s0N {H:Type}{w:World}{B nn:Nat}{D:DataW H}{c:Int→Nat}(hown:w.ownsMap Tryz.prog 3 (plainElem Tryz.prog 22) B nn D)(hR:ReadsI D c){v:Int}(hw:(Lit.int .i64 v).wf=true):
 (Instr.lookup 226 (.map (some B)) (.int .i64 v) false).run Tryz.prog w=.ok (.string (i0o (c v))) w:=by
 obtain⟨x,ps,h1,h2⟩:=hown.lookup (int_keyed Tryz.underlying3) Tryz.underlying226 (q0t w) (plainElem_string Tryz.underlying22 (s:=⟨#[]⟩) (Nat.zero_le _)) (keyOf_int_mk Tryz.underlying3 hw);rw[h1];unfold i0o;by_cases h0:c v=0
 ·rw[if_pos h0];rw[atKey_of_not_has (by rw[hR.has,h0];rfl)]at h2;obtain⟨s,rfl,h3,-⟩:=plainElem_string_inv Tryz.underlying22 h2;simp only[Prod.mk.injEq,DataW.lit.injEq,Lit.string.injEq]at h3;have e:s=(⟨#[]⟩:ByteArray):=a0Y (by simpa using h3.1.symm);rw[e]
 ·rw[if_neg h0];rw[hR.look v h0]at h2;obtain⟨s,rfl,h3,-⟩:=plainElem_string_inv Tryz.underlying22 h2;simp only[Prod.mk.injEq,DataW.lit.injEq,Lit.string.injEq]at h3;rw[a0Y h3.1]
end Go.Proofs.YtlmnpocifldpmaaGreatDoor
namespace Go.Proofs.YtlmnpocifldpmaaGreatDoor
open Go.RowKit
open Go.Shelf
open Go.Lib (decDigits nDigits)
def j0U (n g:Nat):Value:=.slice (some ⟨g,0,none⟩) (n+1) (n+1)
structure TabR (W:World)(gt n:Nat)(f:Nat→List Nat):Prop where
 len:∀ i,i≤n→(f i).length=n+1
 ex:∃ g c,n+1≤c∧c≤9223372036854775807∧W.cell? ⟨gt,0,none⟩=some (.slice (some ⟨g,0,none⟩) (n+1) c)∧W.cell? ⟨gt,1,none⟩=some (.string ⟨#[48]⟩)∧∀ i,i≤n→∃ gr,W.cell? ⟨g,i,none⟩=some (j0U n gr)∧NRowT W gr (f i)
theorem TabR.call {W W':World}{gt n:Nat}{f:Nat→List Nat}(h:TabR W gt n f)(hb:Below W.heap.size W W'):TabR W' gt n f:=by
 obtain⟨h0,g,c,h1,h2,h3,h4,h5⟩:=h;refine⟨h0,g,c,h1,h2,(hb.cell (a0k h3)).trans h3,(hb.cell (a0k h4)).trans h4,fun i hi=>?_⟩;obtain⟨gr,k1,k2⟩:=h5 i hi;exact⟨gr,(hb.cell (a0k k1)).trans k1,k2.call hb⟩
theorem v0s (w:World)(gt n i k:Nat)(f:Nat→List Nat)(h:TabR w gt n f)(hi:i≤n)(hk:k≤n)(hn:n≤100000):
 Calls Tryz.prog 270 #[.pointer (some ⟨gt,0,none⟩),.int .i64 (i:Nat),.int .i64 (k:Nat)] w fun e w'=>e=.returned (.string (a0f ((f i).getD k 0)))∧w=w':=by
 obtain⟨h0,g,c,h1,h2,r0,r1,h5⟩:=h;obtain⟨gr,r2,k2⟩:=h5 i hi;have r3:=k2.cell (i:=k) (by rw[h0 i hi];omega);unfold j0U at r2;obtain⟨X,hX⟩:∃ s,a0f ((f i).getD k 0)=s:=⟨_,rfl⟩;rw[hX]at r3 ⊢;have b1:(0:Int)≤(i:Int):=by omega
 have b2:(i:Int)<((n+1:Nat):Int):=by omega
 have b3:(0:Int)≤(k:Int):=by omega
 have b4:(k:Int)<((n+1:Nat):Int):=by omega
 obtain⟨m,hm⟩:∃ m,n+1=m:=⟨_,rfl⟩;rw[hm]at r0 r2 b2 b4 h1;have t1:decide ((i:Int)<0)=false:=by simp
 have t2:decide (m≤i)=false:=by simp;omega
 have t3:decide ((k:Int)<0)=false:=by simp
 have t4:decide (m≤k)=false:=by simp;omega
 clear h0 h5 k2 hX hi hk hn hm;go_enter Tryz.func270,Tryz.ntmps270;go_wp2_with fail;go_ret
 exact⟨rfl,rfl⟩
structure TabO (W:World)(H gt:Nat)(rv:Value)(gs:List Nat)(n r:Nat)(f:Nat→List Nat):Prop where
 blk:Blk W gt #[rv,.string ⟨#[48]⟩] 283
 own:W.ownsRow H 71 1 rv gs.length (gs.map (j0U n))
 rows:∀ i g,i<r→gs[i]?=some g→NRowT W g (f i)
 ne:rv.ownBlock≠some gt
 sep:∀ i g,i<r→gs[i]?=some g→rv.ownBlock≠some g
 gne:∀ i g,i<r→gs[i]?=some g→g≠gt
theorem NRowT.lt' {w:World}{g:Nat}{l:List Nat}(h:NRowT w g l):g<w.heap.size:=Blk.lt h
theorem l0D {W:World}{H:Nat}{e:TypeId}{rv:Value}{n:Nat}{xs:List Value}(h:W.ownsRow H e 1 rv n xs){a:Addr}(h2:rv.ownBlock≠some a.block)(v:Value):(W.setCell a v).ownsRow H e 1 rv n xs:=by
 refine⟨h.1,?_⟩;rcases h.2 with h0 | ⟨g,cap,cur,rfl,k1,k2,k3⟩
 ·exact .inl h0
 ·refine .inr ⟨g,cap,cur,rfl,k1,?_,k3⟩;have hg:g≠a.block:=fun e=>h2 (by rw[← e];rfl)
  rw[← k2];unfold World.setCell;simp[Array.getElem?_modify,Ne.symm hg]
theorem TabO.call {W W':World}{H gt:Nat}{rv:Value}{gs:List Nat}{n r:Nat}{f:Nat→List Nat}(h:TabO W H gt rv gs n r f)(hb:Below W.heap.size W W'):TabO W' H gt rv gs n r f:=
 ⟨h.blk.call hb,a0s h.own hb,fun i g hi hg=>(h.rows i g hi hg).call hb,h.ne,h.sep,h.gne⟩
theorem TabO.other {W:World}{H gt:Nat}{rv:Value}{gs:List Nat}{n r:Nat}{f:Nat→List Nat}(h:TabO W H gt rv gs n r f){a:Addr}(h1:a.block≠gt)(h2:rv.ownBlock≠some a.block)(h3:∀ i g,i<r→gs[i]?=some g→a.block≠g)(v:Value):TabO (W.setCell a v) H gt rv gs n r f:=by
 exact⟨h.blk.other h1 v,l0D h.own h2 v,fun i g hi hg=>(h.rows i g hi hg).other (h3 i g hi hg) v,h.ne,h.sep,h.gne⟩
structure KpR (gt:Nat)(rb:Option Nat)(W W':World):Prop where
 os:W'.os=W.os
 tape:W'.tape=W.tape
 output:W'.output=W.output
 size:W.heap.size≤W'.heap.size
 block:∀ i,i<W.heap.size→i≠gt→some i≠rb→W'.heap[i]?=W.heap[i]?
theorem TabO.drew {W:World}{H gt:Nat}{rv:Value}{gs:List Nat}{n r:Nat}{f:Nat→List Nat}(h:TabO W H gt rv gs n r f):TabO W.drew H gt rv gs n r f:=⟨h.blk,h.own,h.rows,h.ne,h.sep,h.gne⟩
theorem KpR.drew {gt:Nat}{rb:Option Nat}{W W':World}(h:KpR gt rb W W'):KpR gt rb W W'.drew:=⟨h.os,h.tape,h.output,h.size,h.block⟩
theorem p0j:(Tryz.prog.info? 71).map (fun i=>(i.zero,i.size,i.bytes))=some (some (.slice none 0 0),1,24):=by kernel_rfl
theorem v0r (w:World)(H gt:Nat)(rv:Value)(gs:List Nat)(n r:Nat)(f:Nat→List Nat)(h:TabO w H gt rv gs n r f)(hr:r≤gs.length)(hgs:gs.length≤1000)(hn:n≤1000)(hH:H≤w.heap.size):
 Calls Tryz.prog 294 #[.pointer (some ⟨gt,0,none⟩),.int .i64 ((n+1:Nat):Int)] w fun e w'=>∃ g rv',e=.returned (j0U n g)∧w.heap.size≤g∧NRowT w' g (List.replicate (n+1) 0)∧TabO w' H gt rv' (gs ++ [g]) n r f∧rv'.ownBlock≠some g∧(rv'.ownBlock=rv.ownBlock∨∃ b,rv'.ownBlock=some b∧w.heap.size≤b)∧KpR gt rv.ownBlock w w':=by
 obtain⟨i0,hi,hz0,hz1,hz2⟩:=info_parts p0j;have HR:=fun V g h=>hid (h0v V g (n+1) ⟨#[48]⟩ (by omega) (by omega) h)
 have hgt:gt<w.heap.size:=h.blk.lt;have r0:=h.blk.cell 0;have r1:=h.blk.cell 1;simp at r0 r1;have T0:=hid h;have HGT:=hid hgt;have HHS:=hid hH;have HGS:=hid hgs;have HRL:=hid hr;obtain⟨ar,cr,hrv⟩:=a0p h.own;obtain⟨L,hL⟩:∃ L,gs.length=L:=⟨_,rfl⟩;have HLL:=hid hL;obtain⟨m,hm⟩:∃ m,n+1=m:=⟨_,rfl⟩;have HM:=hid hm;have KK:Hid (∀ W,Below w.heap.size w W→W.cell? ⟨gt,0,none⟩=some rv∧W.cell? ⟨gt,1,none⟩=some (.string ⟨#[48]⟩)):=fun W hW=>⟨(hW.cell (a0k r0)).trans r0,(hW.cell (a0k r1)).trans r1⟩
 rw[hm]at HR ⊢;have HRV:=hid hrv;clear h hgt hH hgs hr hL hm hrv hn;go_enter Tryz.func294,Tryz.ntmps294;go_wp2_with fail;refine c0a 14 3 [0,1,2,3,4,5,6,7,8,10] 4 (fun W'=>W'.cell? ⟨gt,0,none⟩=some rv∧W'.cell? ⟨gt,1,none⟩=some (.string ⟨#[48]⟩)) (by kernel_rfl) rfl (by kernel_rfl) (by kernel_rfl) (by kernel_rfl) (by kernel_rfl) (KK.out _ (Below.refl _ _).drew) ?_
 iterate 10
  refine⟨_,rfl,?_⟩;apply Exists.intro
  refine⟨.inl ⟨by rfl,?_⟩,?_⟩
  ·(intro W' hW';obtain⟨q1,q2⟩:=hW';go_simp;try (with_reducible rfl))
  (dsimp only[Act.put];try simp only[List.setIfInBounds_toArray,List.set_cons_zero,List.set_cons_succ])
 refine a0c (i:=9) (by kernel_rfl) (by rfl) (by rfl) ?_;go_wp2_with fail;have A1:=hid (show Below w.heap.size w (w.alloc (.cells #[.string ⟨#[48]⟩] 22)).drew from ((Below.refl _ _).alloc (Nat.le_refl _) _).drew);have C1:(w.alloc (.cells #[.string ⟨#[48]⟩] 22)).drew.cell? ⟨w.heap.size,0,none⟩=some (.string ⟨#[48]⟩):=(Blk.new w #[.string ⟨#[48]⟩] 22).cell 0;refine⟨KK.out _ A1.out,?_⟩;refine a0c (i:=11) (by kernel_rfl) (by rfl) (by rfl) ?_;go_wp2_with fail;refine (HR _ _ C1).out.mono ?_;rintro e w2 ⟨rfl,hg,hb⟩;obtain⟨g,hgg⟩:∃ g,(w.alloc (.cells #[.string ⟨#[48]⟩] 22)).drew.heap.size=g:=⟨_,rfl⟩;have B2:=hid (a0a A1.out hb);rw[hgg]at hg ⊢;have HG:Hid (w.heap.size<g):=by rw[← hgg];show _<_;simp
 have R2:=hid (NRowT.zeros hg);have L2:=hid (show g<w2.heap.size from hg.lt);clear hg hb hgg C1;go_wp2_with fail;refine⟨KK.out _ B2.out,?_⟩;refine a0c (i:=12) (by kernel_rfl) (by rfl) (by rfl) ?_;go_wp2_with fail;have A3:=hid (show Below w.heap.size w (w2.alloc (.cells #[.slice (some ⟨g,0,none⟩) m m] 71)) from B2.out.alloc B2.out.size _);refine⟨KK.out _ A3.out,?_⟩;refine a0c (i:=13) (by kernel_rfl) (by rfl) (by rfl) ?_;have O3:=hid (((T0.out.call B2.out).own).alloc (.cells #[.slice (some ⟨g,0,none⟩) m m] 71));refine wpList_append_own_at _ rfl _ _ 281 rfl H 71 i0 (.slice none 0 0) 1 24 Tryz.underlying281 hi hz0 hz1 hz2 rfl (by decide) rv gs.length (gs.map (j0U n)) rfl O3.out ⟨w2.heap.size,0,none⟩ 1 1 [.slice (some ⟨g,0,none⟩) m m] rfl rfl (cell_one_new w2 (.slice (some ⟨g,0,none⟩) m m) 71) (by simp[Value.oneCell']) (by have:=HGS.out;unfold maxLen;omega) (by have:=HGS.out;omega) (by have:=HHS.out;have:=B2.out.size;simp;omega) ?_;intro rv' w3 hown3 hgrow3 _ hat3;have hat4:rv'.ownBlock=rv.ownBlock∨rv'.ownBlock=some (w2.heap.size+1):=by simpa using hat3
 have OW:=hid hown3;have GR:=hid hgrow3;have AT:=hid hat4;clear hown3 hgrow3 hat3 hat4;have c30:w3.cell? ⟨gt,0,none⟩=some rv:=by
  have:=GR.out.cell (KK.out _ A3.out).1 (fun e=>T0.out.ne e.symm);exact this
 have c31:w3.cell? ⟨gt,1,none⟩=some (.string ⟨#[48]⟩):=GR.out.cell (KK.out _ A3.out).2 (fun e=>T0.out.ne e.symm);have X3:Hid (Blk w3 gt #[rv,.string ⟨#[48]⟩] 283):=((T0.out.blk.call B2.out).alloc _).grown GR.out (fun e=>T0.out.ne e);go_wp2_with fail;refine⟨⟨c30,c31⟩,?_⟩;refine wpAnyH_done (by kernel_rfl) ?_ _;simp only[b0l,c0R,List.drop_succ_cons,List.drop_zero];have f3:=X3.out.free 0;have NE3:Hid (rv'.ownBlock≠some gt):=by
  rcases AT.out with e | e
  ·show rv'.ownBlock≠some gt
   rw[e];exact T0.out.ne
  ·show rv'.ownBlock≠some gt
   rw[e];intro hh;have:=Option.some.inj hh;have:=HGT.out;have:=B2.out.size;omega
 have NEG:Hid (rv'.ownBlock≠some g):=by
  rcases AT.out with e | e
  ·show rv'.ownBlock≠some g
   rw[e];intro hh;have:=(T0.out.own.lt g hh).2;have:=HG.out;omega
  ·show rv'.ownBlock≠some g
   rw[e];intro hh;have:=Option.some.inj hh;have:=L2.out;omega
 have AT2:Hid (rv'.ownBlock=rv.ownBlock∨∃ b,rv'.ownBlock=some b∧w.heap.size≤b):=AT.out.imp id fun e=>⟨_,e,Nat.le_succ_of_le B2.out.size⟩
 have KP:Hid (KpR gt rv.ownBlock w w3):=⟨GR.out.os.trans A3.out.os,GR.out.tape.trans A3.out.tape,GR.out.output.trans A3.out.output,Nat.le_trans A3.out.size GR.out.size,fun i hi _ h2=>(GR.out.block i (by have:=A3.out.size;omega) h2).trans (A3.out.block i hi)⟩;have N3:Hid (NRowT w3 g (List.replicate m 0)):=Blk.grown (Blk.alloc R2.out _) GR.out (fun e=>by have:=(T0.out.own.lt g e).2;have:=HG.out;omega);have RO:Hid (∀ i g',i<r→gs[i]?=some g'→NRowT w3 g' (f i)):=fun i g' hi2 hg'=>Blk.grown (Blk.alloc ((T0.out.rows i g' hi2 hg').call B2.out) _) GR.out (T0.out.sep i g' hi2 hg')
 have GSR:Hid (∀ i g',i<r→gs[i]?=some g'→g'≠gt):=fun i g' hi2 hg'=>T0.out.gne i g' hi2 hg'
 obtain⟨gr,cap,rfl⟩:=ownsRow_succ OW.out;have HGR:Hid (gr≠gt):=fun e=>NE3.out (by rw[e];rfl)
 go_wp2_with fail
 try simp only[b0l]
 obtain⟨w4,hw4⟩:∃ W,w3.setCell ⟨gt,0,none⟩ (.slice (some ⟨gr,0,none⟩) (gs.length+1) cap)=W:=⟨_,rfl⟩;have T4:Hid (TabO w4 H gt (.slice (some ⟨gr,0,none⟩) (gs.length+1) cap) (gs ++ [g]) n r f):=by
  refine⟨?_,?_,fun i g' hi2 hg'=>?_,NE3.out,?_,?_⟩
  ·rw[← hw4];exact X3.out.set 0 _
  ·rw[← hw4,List.length_append,List.map_append];have hl:(gs.map (j0U n) ++ [Value.slice (some ⟨g,0,none⟩) m m])=gs.map (j0U n) ++ [g].map (j0U n):=by rw[← HM.out];rfl
   rw[← hl];exact l0D OW.out (fun e=>HGR.out (by simpa[Value.ownBlock]using e)) _
  ·have hlt:i<gs.length:=Nat.lt_of_lt_of_le hi2 HRL.out;rw[List.getElem?_append_left hlt]at hg';rw[← hw4];exact (RO.out i g' hi2 hg').other (GSR.out i g' hi2 hg').symm _
  ·intro i g' hi2 hg';have hlt:i<gs.length:=Nat.lt_of_lt_of_le hi2 HRL.out;rw[List.getElem?_append_left hlt]at hg';rcases AT.out with e | e
   ·rw[e];exact T0.out.sep i g' hi2 hg'
   ·rw[e];intro hh;have:=Option.some.inj hh;have:=(T0.out.rows i g' hi2 hg').lt';have:=B2.out.size;omega
  ·intro i g' hi2 hg';have hlt:i<gs.length:=Nat.lt_of_lt_of_le hi2 HRL.out;rw[List.getElem?_append_left hlt]at hg';exact T0.out.gne i g' hi2 hg'
 have N4:Hid (NRowT w4 g (List.replicate m 0)):=by rw[← hw4];exact N3.out.other (by have:=HG.out;have:=HGT.out;show gt≠g;omega) _
 have K4:Hid (KpR gt rv.ownBlock w w4):=by
  rw[← hw4];refine⟨KP.out.os,KP.out.tape,KP.out.output,by simpa[World.setCell]using KP.out.size,fun i hi h1 h2=>?_⟩;rw[← KP.out.block i hi h1 h2];unfold World.setCell;simp[Array.getElem?_modify,Ne.symm h1]
 rw[hw4];have s0:=T4.out.blk.cell 0;simp at s0;have s1:w4.cell? ⟨gr,gs.length,none⟩=some (.slice (some ⟨g,0,none⟩) m m):=by
  obtain⟨g',o',e1,-,e2⟩:=(Row.of_owns T4.out.own).at (i:=gs.length) (x:=j0U n g) (by rw[List.map_append,List.getElem?_append_right (by simp)];simp);simp only[Option.some.injEq,Addr.mk.injEq]at e1;obtain⟨rfl,rfl,-⟩:=e1;rw[Nat.zero_add]at e2;rw[e2,j0U,HM.out]
 have wl:IntKind.i64.wrap (((gs.length+1:Nat):Int)-1)=(gs.length:Int):=by rw[IntWalk.i64_in _ ⟨by omega,by have:=HGS.out;omega⟩];omega
 have wl2:IntKind.i64.wrap ((gs.length:Int)+1-1)=(gs.length:Int):=by rw[IntWalk.i64_in _ ⟨by omega,by have:=HGS.out;omega⟩];omega
 have b1:(0:Int)≤(gs.length:Int):=by omega
 have b2:(gs.length:Int)<((gs.length+1:Nat):Int):=by omega
 have wl3:IntKind.i64.wrap (gs.length:Int)=(gs.length:Int):=by rw[IntWalk.i64_in _ ⟨by omega,by have:=HGS.out;omega⟩]
 have b3:(gs.length:Int)<(gs.length:Int)+1:=by omega
 clear hw4 c30 c31 f3;refine a0n [0,1,2,3,4,5,6,7,8,9,10,11,12] 0 (fun W'=>W'.cell? ⟨gt,0,none⟩=some (.slice (some ⟨gr,0,none⟩) (gs.length+1) cap)∧W'.cell? ⟨gr,gs.length,none⟩=some (.slice (some ⟨g,0,none⟩) m m)) (by kernel_rfl) (by kernel_rfl) (by kernel_rfl) (by kernel_rfl) ⟨s0,s1⟩ ?_
 iterate 13
  refine⟨_,rfl,?_⟩;apply Exists.intro
  refine⟨.inl ⟨by rfl,?_⟩,?_⟩
  ·(intro W' hW';obtain⟨q3,q4⟩:=hW';go_simp;try (with_reducible rfl))
  (dsimp only[Act.put];try simp only[List.setIfInBounds_toArray,List.set_cons_zero,List.set_cons_succ])
 refine wpAnyH_done (by kernel_rfl) ?_ _;simp only[b0l];go_wp2_with fail;go_ret
 refine⟨g,_,by rw[j0U,HM.out];rfl,Nat.le_of_lt HG.out,N4.out,T4.out.drew,NEG.out,AT2.out,K4.out.drew⟩
structure EnS (W:World)(gt gO gN gD g1 g2 n r:Nat)(rv:Value)(gs:List Nat)(O nx dn:List Nat)(os zs:Nat→Bool)(f:Nat→List Nat):Prop where
 tab:TabO W (gt+1) gt rv (gs ++ [gD]) n r f
 o:NRowT W gO O
 nx:NRowT W gN nx
 dn:NRowT W gD dn
 b1:Blk W g1 (i0z os n).toArray 4
 b2:Blk W g2 (i0z zs n).toArray 4
structure EnD (gt gO gN gD g1 g2 r:Nat)(rv:Value)(gs:List Nat):Prop where
 tN:gN≠gt
 tD:gD≠gt
 rN:rv.ownBlock≠some gN
 rD:rv.ownBlock≠some gD
 ND:gN≠gD
 oN:gO≠gN
 oD:gO≠gD
 n1:gN≠g1
 n2:gN≠g2
 d1:gD≠g1
 d2:gD≠g2
 sN:∀ i g,i<r→(gs ++ [gD])[i]?=some g→gN≠g
 sD:∀ i g,i<r→(gs ++ [gD])[i]?=some g→gD≠g
theorem EnS.call {W W':World}{gt gO gN gD g1 g2 n r:Nat}{rv:Value}{gs:List Nat}{O nx dn:List Nat}{os zs:Nat→Bool}{f:Nat→List Nat}(h:EnS W gt gO gN gD g1 g2 n r rv gs O nx dn os zs f)(hb:Below W.heap.size W W'):EnS W' gt gO gN gD g1 g2 n r rv gs O nx dn os zs f:=
 ⟨h.tab.call hb,h.o.call hb,h.nx.call hb,h.dn.call hb,h.b1.call hb,h.b2.call hb⟩
theorem EnS.setN {W:World}{gt gO gN gD g1 g2 n r:Nat}{rv:Value}{gs:List Nat}{O nx dn:List Nat}{os zs:Nat→Bool}{f:Nat→List Nat}(h:EnS W gt gO gN gD g1 g2 n r rv gs O nx dn os zs f)(d:EnD gt gO gN gD g1 g2 r rv gs)(i x:Nat):EnS (W.setCell ⟨gN,i,none⟩ (.string (a0f x))) gt gO gN gD g1 g2 n r rv gs O (nx.set i x) dn os zs f:=
 ⟨h.tab.other d.tN d.rN d.sN _,h.o.other d.oN.symm _,h.nx.set i x,h.dn.other d.ND _,h.b1.other d.n1 _,h.b2.other d.n2 _⟩
theorem EnS.setD {W:World}{gt gO gN gD g1 g2 n r:Nat}{rv:Value}{gs:List Nat}{O nx dn:List Nat}{os zs:Nat→Bool}{f:Nat→List Nat}(h:EnS W gt gO gN gD g1 g2 n r rv gs O nx dn os zs f)(d:EnD gt gO gN gD g1 g2 r rv gs)(i x:Nat):EnS (W.setCell ⟨gD,i,none⟩ (.string (a0f x))) gt gO gN gD g1 g2 n r rv gs O nx (dn.set i x) os zs f:=
 ⟨h.tab.other d.tD d.rD d.sD _,h.o.other d.oD.symm _,h.nx.other d.ND.symm _,h.dn.set i x,h.b1.other d.d1 _,h.b2.other d.d2 _⟩
theorem o0y {c:Nat→Bool}{N D n r:Nat}{F:Nat→Nat}(hn:n≤32)(hr:r≤32)(hF:d0M c (h0M N D n r) n (n+1)=fnL F n)(hB:∀ s,s≤n→F s≤2 ^ (6*(r+1))){i j k:Nat}(hi:i≤n)(hij:i+j≤n+1)(hk:k≤n):(aIn c ((h0M N D n r).getD i 0) i j (d0M c (h0M N D n r) n i)).getD k 0≤2 ^ 200:=by
 refine Nat.le_trans (w0X hi hij hk) ?_;rw[hF,g0g hk];exact Nat.le_trans (hB k hk) (Nat.pow_le_pow_right (by omega) (by omega))
def v0g (w:World)(n N D:Nat)(e:Ending)(w':World):Prop:=∃ gt,e=.returned (.pointer (some ⟨gt,0,none⟩))∧w.heap.size≤gt∧TabR w' gt n (n0o N D n)
theorem i0q {w w':World}{g:Nat}{cs:Array Value}{t:TypeId}(h:Blk w g cs t)(e:w'.heap[g]?=w.heap[g]?):Blk w' g cs t:=e.trans h
theorem t0m {W:World}{H gt:Nat}{rv:Value}{gs:List Nat}{n:Nat}{f:Nat→List Nat}(h:TabO W H gt rv gs n (n+1) f)(hl:gs.length=n+1)(hf:∀ i,(f i).length=n+1)(hn:n≤1000):TabR W gt n f:=by
 obtain⟨g,cap,rfl⟩:∃ g c,rv=.slice (some ⟨g,0,none⟩) (n+1) c:=by
  have:=h.own;rw[hl]at this;exact ownsRow_succ this
 obtain⟨a,c,e,h1,h2,h3⟩:=(Row.of_owns h.own).ex;simp only[Value.slice.injEq]at e;obtain⟨rfl,-,rfl⟩:=e;rw[List.length_map,hl]at h1;have c0:=h.blk.cell 0;have c1:=h.blk.cell 1;simp at c0 c1;refine⟨fun i _=>hf i,g,cap,h1,by unfold maxLen at h2;omega,c0,c1,fun i hi=>?_⟩;obtain⟨gr,hgr⟩:∃ g,gs[i]?=some g:=⟨_,List.getElem?_eq_getElem (by omega)⟩;obtain⟨g',o',e1,-,e2⟩:=h3 i (j0U n gr) (by rw[List.getElem?_map,hgr];rfl);simp only[Option.some.injEq,Addr.mk.injEq]at e1;obtain⟨rfl,rfl,-⟩:=e1;rw[Nat.zero_add]at e2;exact⟨gr,e2,h.rows i gr (by omega) hgr⟩
theorem s0S (w:World)(a:ByteArray)(n N D:Nat)(ha:a.size≤100000)(he:gPE a=0)(hn:n≤32)(hN:bN (cW a)=N)(hD:bN (qD a)=D)(hND:N<D)(hL:Lay w):
 Calls Tryz.prog 269 #[.string a,.int .i64 n] w fun e w'=>v0g w n N D e w'∧Below w.heap.size w w':=by
 have HS:=hid (u0w w a n N D ha he (by omega) hN hD hND hL);have HR:=fun V g h=>hid (h0v V g (n+1) ⟨#[48]⟩ (by omega) (by omega) h)
 have HTR:=fun V gt rv gs r f (h:TabO V (gt+1) gt rv gs n r f) (h1:r≤gs.length) (h2:gs.length≤1000) (h3:gt+1≤V.heap.size)=>hid (v0r V (gt+1) gt rv gs n r f h h1 h2 (by omega) h3)
 have HL:=hid hL;have HLL:=hid hL.lt;have HN:=hid hn;have wn:IntKind.i64.wrap ((n:Int)+1)=((n+1:Nat):Int):=by rw[IntWalk.i64_in _ ⟨by omega,by omega⟩];omega
 have NX:Hid (∀ r,d0M (c0p N D) (h0M N D n r) n (n+1)=h0M N D n (r+1)):=fun r=>j0l N D n r
 have DN:Hid (∀ r,d0M (a0F N D) (h0M N D n r) n (n+1)=n0o N D n r):=fun r=>p0E N D n r
 have BN:Hid (∀ r i j k,r≤n→i≤n→i+j≤n+1→k≤n→(aIn (c0p N D) ((h0M N D n r).getD i 0) i j (d0M (c0p N D) (h0M N D n r) n i)).getD k 0≤2 ^ 200):=fun r i j k h1 h2 h3 h4=>o0y (F:=opn N D (r+1)) hn (by omega) (j0l N D n r) (fun s hs=>l0E hn (r+1) s hs) h2 h3 h4
 have BD:Hid (∀ r i j k,r≤n→i≤n→i+j≤n+1→k≤n→(aIn (a0F N D) ((h0M N D n r).getD i 0) i j (d0M (a0F N D) (h0M N D n r) n i)).getD k 0≤2 ^ 200):=fun r i j k h1 h2 h3 h4=>o0y (F:=edn N D r) hn (by omega) (p0E N D n r) (fun s hs=>p0D hn r s hs) h2 h3 h4
 have BO:Hid (∀ r i,r≤n→i≤n→(h0M N D n r).getD i 0≤2 ^ 200):=fun r i h1 h2=>by
  unfold h0M;rw[g0g h2];exact Nat.le_trans (l0E hn r i h2) (Nat.pow_le_pow_right (by omega) (by omega))
 have OZ:Hid ((List.replicate (n+1) 0).set 0 1=h0M N D n 0):=o0G N D n;have OL:Hid (∀ r,(h0M N D n r).length=n+1):=fun r=>e0S _ _
 obtain⟨OF,hOF⟩:∃ F,h0M N D n=F:=⟨_,rfl⟩;obtain⟨EF,hEF⟩:∃ F,n0o N D n=F:=⟨_,rfl⟩;obtain⟨os,hos⟩:∃ f,c0p N D=f:=⟨_,rfl⟩;obtain⟨zs,hzs⟩:∃ f,a0F N D=f:=⟨_,rfl⟩;rw[hOF]at NX DN BN BD BO OZ OL;rw[hEF]at DN;rw[hos]at NX BN;rw[hzs]at DN BD;have HOS:=hid hos;have HZS:=hid hzs;have HEF:=hid hEF;clear ha he hn hN hD hND hL hos hzs hOF hEF;go_enter Tryz.func269,Tryz.ntmps269;go_wp2_with fail;refine HS.out.mono ?_;rintro e w1 ⟨⟨v1,v2,rfl,⟨g1,g2,rfl,rfl,h3,h4,h5,hg1,hg2⟩⟩,hb1⟩;rw[HOS.out]at hg1;rw[HZS.out]at hg2;have G1:=hid hg1;have G2:=hid hg2;have B1:=hid hb1;have N1:=hid (show g1<w1.heap.size from Blk.lt hg1);have N2:=hid (show g2<w1.heap.size from Blk.lt hg2);have z1:=hid hb1.size;clear hg1 hg2 hb1 h3 h4 h5 HS;go_wp2_with fail;have T1:=hid (Blk.new w1 #[.slice none 0 0,.string ⟨#[48]⟩] 283);have A1:=hid ((Below.refl w1.heap.size w1).alloc (Nat.le_refl _) (.cells #[.slice none 0 0,.string ⟨#[48]⟩] 283));obtain⟨wt,hwt⟩:∃ W,w1.alloc (.cells #[.slice none 0 0,.string ⟨#[48]⟩] 283)=W:=⟨_,rfl⟩;have zt:Hid (wt.heap.size=w1.heap.size+1):=by show wt.heap.size=_;rw[← hwt];simp
 rw[hwt]at T1 A1 ⊢;obtain⟨gt,hgt⟩:∃ g,w1.heap.size=g:=⟨_,rfl⟩;have HGT:=hid hgt;have T1':Hid (Blk wt gt #[.slice none 0 0,.string ⟨#[48]⟩] 283):=by show Blk _ _ _ _;rw[← hgt];exact T1.out
 try rw[hgt]
 clear T1 hwt hgt;have C0:(wt.alloc (.cells #[.string ⟨#[48]⟩] 22)).cell? ⟨gt+1,0,none⟩=some (.string ⟨#[48]⟩):=by
  have:=(Blk.new wt #[.string ⟨#[48]⟩] 22).cell 0;rw[show wt.heap.size=gt+1 by rw[zt.out,HGT.out]]at this;exact this
 refine (HR _ _ C0).out.mono ?_;rintro e w2 ⟨rfl,hg7,hb2⟩;clear C0;obtain⟨g0,h7⟩:∃ g,(wt.alloc (.cells #[.string ⟨#[48]⟩] 22)).heap.size=g:=⟨_,rfl⟩;rw[h7]at hg7 ⊢;have R7:=hid (NRowT.zeros hg7);have a1:=(Below.refl wt.heap.size wt).alloc (Nat.le_refl _) (.cells #[.string ⟨#[48]⟩] 22);have b2:=hid (a0a a1 hb2);have K7:=hid (show wt.heap.size<g0 by rw[← h7];simp);have L7:=hid (show g0<w2.heap.size from Blk.lt hg7);have Bt:=hid (a0a B1.out A1.out);have B2:=hid (a0a Bt.out b2.out);have G12:=hid ((G1.out.call A1.out).call b2.out);have G22:=hid ((G2.out.call A1.out).call b2.out);have T2:=hid (T1'.out.call b2.out);clear hg7 hb2 a1 h7;have k0:w2.cell? ⟨g0,0,none⟩=some (.string ⟨#[48]⟩):=by
  refine (R7.out.cell (i:=0) (by simp)).trans ?_;rw[← a0w];simp[List.getD_eq_getElem?_getD]
 have k1:=R7.out.free 0;have z0:(0:Int)<((n+1:Nat):Int):=by omega
 have z0':(0:Int)<(n:Int)+1:=by omega
 go_wp2_with fail;obtain⟨W2,hW2⟩:∃ W,w2.setCell ⟨g0,0,none⟩ (.string ⟨#[49]⟩)=W:=⟨_,rfl⟩;have S0:Hid (NRowT W2 g0 (OF 0)):=by
  show NRowT _ _ _
  rw[← hW2,← c0k,← OZ.out];exact R7.out.set 0 1
 have S1:Hid (Blk W2 g1 (i0z os n).toArray 4):=by rw[← hW2];exact G12.out.other (by have:=K7.out;have:=N1.out;have:=zt.out;simp;omega) _
 have S2:Hid (Blk W2 g2 (i0z zs n).toArray 4):=by rw[← hW2];exact G22.out.other (by have:=K7.out;have:=N2.out;have:=zt.out;simp;omega) _
 have ST:Hid (Blk W2 gt #[.slice none 0 0,.string ⟨#[48]⟩] 283):=by rw[← hW2];exact T2.out.other (by have:=K7.out;have:=HGT.out;have:=zt.out;simp;omega) _
 have SB:Hid (Below w.heap.size w W2):=by rw[← hW2];exact B2.out.setCell (by have:=K7.out;have:=z1.out;have:=zt.out;simp;omega) _
 have TO:Hid (TabO W2 (gt+1) gt (.slice none 0 0) [] n 0 EF):=⟨ST.out,World.ownsRow_nil _ _ _ _,fun i g hi=>absurd hi (by omega),by simp[Value.ownBlock],fun i g hi=>absurd hi (by omega),fun i g hi=>absurd hi (by omega)⟩;have D1:Hid (g1<gt∧g2<gt∧w.heap.size≤gt):=⟨by have:=N1.out;have:=HGT.out;omega,by have:=N2.out;have:=HGT.out;omega,by have:=z1.out;have:=HGT.out;omega⟩;have D2:Hid (gt<g0):=by show gt<g0;have:=K7.out;have:=HGT.out;have:=zt.out;omega
 rw[hW2];clear hW2 k0 k1 z0 z0' R7 G12 G22 T2 B2 b2 K7 L7 Bt T1' A1 G1 G2 B1 N1 N2 z1 zt HGT ST
 go_loopw [8,29] (fun oo ii wr=>∃ r gO rv gs,oo=j0U n gO∧ii=.int .i64 (r:Nat)∧r≤n+1∧Hid (gs.length=r∧gt<gO∧rv.ownBlock≠some gO)∧Hid (TabO wr (gt+1) gt rv gs n r EF)∧Hid (NRowT wr gO (OF r))∧Hid (Blk wr g1 (i0z os n).toArray 4)∧Hid (Blk wr g2 (i0z zs n).toArray 4)∧Hid (Below w.heap.size w wr)) (fun oo ii wr=>n+1-(intOf ii).toNat)
 case atStart=>exact⟨0,g0,_,[],rfl,rfl,Nat.zero_le _,⟨rfl,D2.out,by simp[Value.ownBlock]⟩,TO,S0,S1,S2,SB⟩
 case round=>
  obtain⟨r,gO,rv,gs,rfl,rfl,hr,hM,hT,hO,hg1,hg2,hB⟩:=hrel;by_cases hlt:r<n+1
  ·have q0:decide ((r:Int)<((n+1:Nat):Int))=true:=by simp;omega
   have dr:decide ((r:Int)<(n:Int)+1)=true:=by simp;omega
   have HR0:=hid hlt;clear hr hlt;unfold j0U;go_wp2_with fail;refine (HTR _ _ _ _ _ _ hT.out (by have:=hM.out.1;omega) (by have:=hM.out.1;have:=HR0.out;have:=HN.out;omega) hT.out.blk.lt).out.mono ?_;rintro e w3 ⟨gD,rv',rfl,hgD,hND,hT3,hne,hat,hK⟩;simp only[j0U];have T3:=hid hT3;have ND3:=hid hND;have NE3:=hid hne;have zD:=hid hgD;have LD:=hid (show gD<w3.heap.size from hND.lt');have keep:∀ b,b<wr.heap.size→b≠gt→rv.ownBlock≠some b→w3.heap[b]?=wr.heap[b]? := fun b h1 h2 h3=>hK.block b h1 h2 (fun e=>h3 e.symm)
   have lO:gO<wr.heap.size:=hO.out.lt';have l1:g1<wr.heap.size:=Blk.lt hg1.out;have l2:g2<wr.heap.size:=Blk.lt hg2.out;have rvge:∀ b,rv.ownBlock=some b→gt+1≤b:=fun b hb=>(hT.out.own.lt b hb).1
   have O3:Hid (NRowT w3 gO (OF r)):=i0q hO.out (keep gO lO (by have:=hM.out.2.1;omega) hM.out.2.2);have G13:Hid (Blk w3 g1 (i0z os n).toArray 4):=i0q hg1.out (keep g1 l1 (by have:=D1.out.1;omega) (fun e=>by have:=rvge _ e;have:=D1.out.1;omega));have G23:Hid (Blk w3 g2 (i0z zs n).toArray 4):=i0q hg2.out (keep g2 l2 (by have:=D1.out.2.1;omega) (fun e=>by have:=rvge _ e;have:=D1.out.2.1;omega));have B3:Hid (Below w.heap.size w w3):=⟨hK.os.trans hB.out.os,hK.tape.trans hB.out.tape,hK.output.trans hB.out.output,Nat.le_trans hB.out.size hK.size,fun k hk=>by
    have s0:=hB.out.size;have d:=D1.out.2.2;exact (keep k (by omega) (by omega) (fun e=>by have:=rvge _ e;omega)).trans (hB.out.block k hk)⟩
   have M3:Hid (gD≠gO∧gD≠g1∧gD≠g2∧gD≠gt∧rv'.ownBlock≠some gO):=by
    refine⟨by omega,by omega,by omega,by have:=hT.out.blk.lt;omega,?_⟩;rcases hat with e | ⟨b,e,hb⟩
    ·rw[e];exact hM.out.2.2
    ·rw[e];intro e';have:=Option.some.inj e';omega
   have SG:Hid (∀ i g,i<r→(gs ++ [gD])[i]?=some g→gD≠g∧g<w3.heap.size):=fun i g hi hg=>by
    have hl:=hM.out.1;have hg':=hg;rw[List.getElem?_append_left (by omega)]at hg';have h1:=(hT.out.rows i g hi hg').lt';have h2:=hK.size;exact⟨by omega,by omega⟩
   clear hT3 hND hne hgD hat hK keep lO l1 l2 rvge;go_wp2_with fail;refine (HR _ _ ((Blk.new w3 _ _).cell 0)).out.mono ?_;rintro e w4 ⟨rfl,hg7,hb2⟩;obtain⟨gN,h7⟩:∃ g,(w3.alloc (.cells #[.string ⟨#[48]⟩] 22)).heap.size=g:=⟨_,rfl⟩;rw[h7]at hg7 ⊢;have R7:=hid (NRowT.zeros hg7);have a1:=(Below.refl w3.heap.size w3).alloc (Nat.le_refl _) (.cells #[.string ⟨#[48]⟩] 22);have b4:=hid (a0a a1 hb2);have K7:=hid (show w3.heap.size<gN by rw[← h7];simp);have T4:=hid (T3.out.call b4.out);have B4:=hid (a0a B3.out b4.out);have QD:=hid (show w.heap.size≤gD by have:=zD.out;have:=hB.out.size;omega);have QN:=hid (show w.heap.size≤gN by have:=K7.out;have:=B3.out.size;omega);have l1:g1<w3.heap.size:=Blk.lt G13.out;have l2:g2<w3.heap.size:=Blk.lt G23.out;have lO:gO<w3.heap.size:=O3.out.lt';have lT:gt<w3.heap.size:=T3.out.blk.lt;have lR:∀ b,rv'.ownBlock=some b→b<w3.heap.size:=fun b hb=>(T3.out.own.lt b hb).2
   have ED:Hid (EnD gt gO gN gD g1 g2 r rv' gs):=by
    have k:=K7.out;have d:=LD.out;refine⟨by omega,M3.out.2.2.2.1,fun e=>?_,NE3.out,by omega,by omega,fun e=>M3.out.1 e.symm,by omega,by omega,M3.out.2.1,M3.out.2.2.1,fun i g hi hg=>?_,fun i g hi hg=>(SG.out i g hi hg).1⟩
    ·have:=lR _ e;omega
    ·have:=(SG.out i g hi hg).2;omega
   have ES:Hid (EnS w4 gt gO gN gD g1 g2 n r rv' gs (OF r) (List.replicate (n+1) 0) (List.replicate (n+1) 0) os zs EF):=⟨T4.out,O3.out.call b4.out,R7.out,ND3.out.call b4.out,G13.out.call b4.out,G23.out.call b4.out⟩;have NO:Hid (rv'.ownBlock≠some gN):=fun e=>by have:=lR _ e;have:=K7.out;omega
   have DG:Hid (gt<gN):=by show gt<gN;have:=K7.out;omega
   have RL:Hid (r≤n):=by show r≤n;have:=HR0.out;omega
   have LG:=hid hM.out.1;clear hg7 hb2 a1 h7 l1 l2 lO lT lR T3 ND3 NE3 zD LD O3 G13 G23 B3 M3 SG R7 K7 T4 hM hT hO hg1 hg2 hB b4 q0
   -- the state of this round
   have NXr:=hid (NX.out r);have DNr:=hid (DN.out r);have OLr:=hid (OL.out r);have BNr:=hid (fun i j k=>BN.out r i j k RL.out);have BDr:=hid (fun i j k=>BD.out r i j k RL.out);have BOr:=hid (fun i=>BO.out r i RL.out);obtain⟨O,hO⟩:∃ O,OF r=O:=⟨_,rfl⟩;rw[hO]at NXr DNr OLr BNr BDr BOr ES;clear hO;go_wp2_with fail
   go_loopw [41] (fun ii wr=>∃ i:Nat,ii=.int .i64 (i:Nat)∧i≤n+1∧Hid (EnS wr gt gO gN gD g1 g2 n r rv' gs O (d0M os O n i) (d0M zs O n i) os zs EF)∧Hid (Below w.heap.size w wr)) (fun ii wr=>n+1-(intOf ii).toNat)
   case atStart=>exact⟨0,rfl,Nat.zero_le _,ES,B4⟩
   case round=>
    clear ES;obtain⟨i,rfl,hi,hS,hB⟩:=hrel;by_cases hlt:i<n+1
    ·have q0:decide ((i:Int)<((n+1:Nat):Int))=true:=by simp;omega
     have di:decide ((i:Int)<(n:Int)+1)=true:=by simp;omega
     have f0:(0:Int)≤(i:Int):=by omega
     have f1:(i:Int)<((n+1:Nat):Int):=by omega
     have f1':(i:Int)<(n:Int)+1:=by omega
     have f2:(i:Int)≤1000:=by have:=HN.out;omega
     have IL:=hid hlt;clear hi hlt;go_wp2_with fail;obtain⟨x,hx⟩:∃ x,O.getD i 0=x:=⟨_,rfl⟩;obtain⟨wo,rfl⟩:∃ wo:World,wo=wr:=⟨_,rfl⟩;have hnx:Hid (d0M os O n (i+1)=aIn os x i (n+1-i) (d0M os O n i)):=by show _=_;rw[d0M,hx]
     have hdn:Hid (d0M zs O n (i+1)=aIn zs x i (n+1-i) (d0M zs O n i)):=by show _=_;rw[d0M,hx]
     by_cases hx0:x=0
     ·have k0:wo.cell? ⟨gO,i,none⟩=some (.string (a0f x)):=by rw[← hx];exact hS.out.o.cell (by rw[OLr.out];exact IL.out)
      have q1:((a0f x).toList == [48])=true:=by rw[hx0,a0w];exact d0y
      have e1:Hid (d0M os O n (i+1)=d0M os O n i):=by show _=_;rw[hnx.out,hx0,i0u]
      have e2:Hid (d0M zs O n (i+1)=d0M zs O n i):=by show _=_;rw[hdn.out,hx0,i0u]
      obtain⟨sx,hsx⟩:∃ s,a0f x=s:=⟨_,rfl⟩;rw[hsx]at k0 q1;clear hx hx0 hsx
      go_loopw [12] (fun jj wq=>jj=.int .i64 0∧wq=wo) (fun jj wq=>0)
      case atStart=>exact⟨rfl,rfl⟩
      case round=>
       obtain⟨rfl,rfl⟩:=hrel;go_wp2_with fail;go_roundw
       case rel=>exact⟨i+1,by go_num,by have:=IL.out;omega,by rw[e1.out,e2.out];exact hS,hB⟩
       case measure=>simp[intOf]<;>(have:=IL.out;omega)
     ·have q1:((a0f x).toList == [48])=false:=a0J (l:=[48]) (by rw[← a0w];exact b0Q hx0);have AOL:Hid (∀ c,(d0M c O n i).length=n+1):=fun c=>c0f c O n i
      have BNi:=hid (fun j k=>BNr.out i j k (by have:=IL.out;omega));have BDi:=hid (fun j k=>BDr.out i j k (by have:=IL.out;omega));have hxb:x≤2 ^ 200:=by rw[← hx];exact BOr.out i (by have:=IL.out;omega)
      have HXB:=hid hxb;have HX:=hid hx;rw[hx]at BNi BDi;obtain⟨nx0,hnx0⟩:∃ l,d0M os O n i=l:=⟨_,rfl⟩;obtain⟨dn0,hdn0⟩:∃ l,d0M zs O n i=l:=⟨_,rfl⟩;have HNL:Hid (∀ j,(aIn os x i j nx0).length=n+1):=fun j=>by rw[c0B,← hnx0];exact AOL.out os
      have HDL:Hid (∀ j,(aIn zs x i j dn0).length=n+1):=fun j=>by rw[c0B,← hdn0];exact AOL.out zs
      rw[hnx0]at BNi hnx hS;rw[hdn0]at BDi hdn hS;obtain⟨sx,hsx⟩:∃ s,a0f x=s:=⟨_,rfl⟩;rw[hsx]at q1;have HSX:=hid hsx;clear hx hx0 hsx hnx0 hdn0 hxb AOL
      go_loopw [12] (fun jj wq=>∃ j:Nat,jj=.int .i64 (j:Nat)∧i+j≤n+1∧Hid (EnS wq gt gO gN gD g1 g2 n r rv' gs O (aIn os x i j nx0) (aIn zs x i j dn0) os zs EF)∧Hid (Below w.heap.size w wq)) (fun jj wq=>n+1-(intOf jj).toNat)
      case atStart=>exact⟨0,rfl,by have:=IL.out;omega,hS,hB⟩
      case round=>
       clear hS hB;obtain⟨j,rfl,hj,hS,hB⟩:=hrel;have k0:wr.cell? ⟨gO,i,none⟩=some (.string sx):=by
        refine (hS.out.o.cell (by rw[OLr.out];exact IL.out)).trans ?_;rw[HX.out,HSX.out]
       by_cases hlt:i+j≤n
       ·have q2:decide ((i:Int)+(j:Int)≤(n:Int))=true:=by simp;omega
        have f5:(0:Int)≤(j:Int):=by omega
        have f6:(j:Int)<((n+1:Nat):Int):=by omega
        have f6':(j:Int)<(n:Int)+1:=by omega
        have f7:(j:Int)≤1000:=by have:=HN.out;omega
        have f8:(i:Int)+(j:Int)<((n+1:Nat):Int):=by omega
        have f9:(i:Int)+(j:Int)<(n:Int)+1:=by omega
        have f10:(0:Int)≤(i:Int)+(j:Int):=by omega
        have c1:wr.cell? ⟨g1,j,none⟩=some (.bool (os j)):=(hS.out.b1.cell j).trans (by rw[List.getElem?_toArray,f0y (by omega)]);have c2:wr.cell? ⟨g2,j,none⟩=some (.bool (zs j)):=(hS.out.b2.cell j).trans (by rw[List.getElem?_toArray,f0y (by omega)]);have HLT:=hid hlt;obtain⟨zj,hzj⟩:∃ b,zs j=b:=⟨_,rfl⟩;obtain⟨oj,hoj⟩:∃ b,os j=b:=⟨_,rfl⟩;rw[hoj]at c1;rw[hzj]at c2;have HZJ:=hid hzj;have HOJ:=hid hoj;clear hlt hj hzj hoj;obtain⟨y1,hy1⟩:∃ y,(aIn zs x i j dn0).getD (i+j) 0=y:=⟨_,rfl⟩;obtain⟨y2,hy2⟩:∃ y,(aIn os x i j nx0).getD (i+j) 0=y:=⟨_,rfl⟩;have p2:(2:Nat) ^ 201=2 ^ 200+2 ^ 200:=by rw[show (201:Nat)=200+1 from rfl,Nat.pow_succ]
        have hxb:=HXB.out;have hy1b:y1≤2 ^ 200:=hy1 ▸ BDi.out j (i+j) (by have:=HLT.out;omega) HLT.out;have hy2b:y2≤2 ^ 200:=hy2 ▸ BNi.out j (i+j) (by have:=HLT.out;omega) HLT.out;have dx:=a0g hxb (by omega);have P1:=fun V hV=>hid (j0h V y1 x (a0g hy1b (by omega)) dx (a0g (i:=201) (by rw[p2];exact Nat.add_le_add hy1b hxb) (by omega)) hV)
        have P2:=fun V hV=>hid (j0h V y2 x (a0g hy2b (by omega)) dx (a0g (i:=201) (by rw[p2];exact Nat.add_le_add hy2b hxb) (by omega)) hV)
        have t1:wr.cell? ⟨gD,i+j,none⟩=some (.string (a0f y1)):=by rw[← hy1];exact hS.out.dn.cell (by rw[HDL.out];have:=HLT.out;omega)
        have t2:wr.cell? ⟨gN,i+j,none⟩=some (.string (a0f y2)):=by rw[← hy2];exact hS.out.nx.cell (by rw[HNL.out];have:=HLT.out;omega)
        rw[HSX.out]at P1 P2;obtain⟨u1,hu1⟩:∃ s,a0f y1=s:=⟨_,rfl⟩;obtain⟨u2,hu2⟩:∃ s,a0f y2=s:=⟨_,rfl⟩;rw[hu1]at P1 t1;rw[hu2]at P2 t2;have HY1:=hid hy1;have HY2:=hid hy2;have HU2:=hid hu2;obtain⟨m1,hm1⟩:∃ s,a0f (y1+x)=s:=⟨_,rfl⟩;obtain⟨m2,hm2⟩:∃ s,a0f (y2+x)=s:=⟨_,rfl⟩;rw[hm1]at P1;rw[hm2]at P2;have HM1:=hid hm1;have HM2:=hid hm2;have k1:=k0;have k2:=k0;have HOL:=OLr;clear hm1 hm2;clear hy1 hy2 p2 hxb hy1b hy2b dx hu1 hu2;cases zj
        ·have hD0:Hid (aIn zs x i (j+1) dn0=aIn zs x i j dn0):=by show _=_;rw[aIn,HZJ.out,c0Q]
         cases oj
         ·have hN0:Hid (aIn os x i (j+1) nx0=aIn os x i j nx0):=by show _=_;rw[aIn,HOJ.out,c0Q]
          go_wp2_with fail;go_roundw
          case rel=>exact⟨j+1,by go_num,by have:=HLT.out;omega,by rw[hN0.out,hD0.out];exact hS,hB⟩
          case measure=>simp[intOf]<;>(have:=HLT.out;omega)
         ·have hN0:Hid (aIn os x i (j+1) nx0=(aIn os x i j nx0).set (i+j) (y2+x)):=by show _=_;rw[aIn,HOJ.out,d0I,HY2.out]
          go_wp2_with fail;have ew:IntKind.i64.wrap ((i:Int)+(j:Int))=(i:Int)+(j:Int):=by rw[IntWalk.i64_in _ ⟨by omega,by omega⟩]
          have et:((i:Int)+(j:Int)).toNat=i+j:=by omega
          refine c0a 15 2 [0,1,2,3,4,5,6,7,8,9,10,11,12,13] 1 (fun W'=>W'.cell? ⟨gN,i+j,none⟩=some (.string u2)∧W'.cell? ⟨gO,i,none⟩=some (.string sx)) (by kernel_rfl) rfl (by kernel_rfl) (by kernel_rfl) (by kernel_rfl) (by kernel_rfl) ⟨t2,k2⟩ ?_
          iterate 14
           refine⟨_,rfl,?_⟩;apply Exists.intro
           refine⟨.inl ⟨by rfl,?_⟩,?_⟩
           ·(intro W' hW';obtain⟨r1,r2⟩:=hW';go_simp;try (with_reducible rfl))
           (dsimp only[Act.put];try simp only[List.setIfInBounds_toArray,List.set_cons_zero,List.set_cons_succ])
          refine a0c (i:=14) (by kernel_rfl) (by rfl) (by rfl) ?_;go_wp2_with fail;refine (P2 _ (HL.out.below hB.out.drew HLL.out)).out.mono ?_;rintro e w5 ⟨rfl,hbc⟩;have C2:=hid (show Below wr.heap.size wr w5 from (Below.refl _ _).drew.trans hbc);have E2:=hid (hS.out.call C2.out);have F2:=hid (hB.out.trans (C2.out.mono hB.out.size));have tc2:=(C2.out.cell (a0k t2)).trans t2;have kc2:=(C2.out.cell (a0k k2)).trans k2;clear hbc;go_wp2_with fail;refine⟨⟨tc2,kc2⟩,?_⟩;refine wpAnyH_done (by kernel_rfl) ?_ _;simp only[b0l,c0R,List.drop_succ_cons,List.drop_zero];have fz2:=E2.out.nx.free (i+j);clear kc2;go_wp2_with fail
          try simp only[b0l]
          go_roundw
          case rel=>exact⟨j+1,by go_num,by have:=HLT.out;omega,by rw[hN0.out,hD0.out,← HM2.out];exact E2.out.setN ED.out (i+j) (y2+x),F2.out.setCell QN.out _⟩
          case measure=>simp[intOf]<;>(have:=HLT.out;omega)
        ·have hD0:Hid (aIn zs x i (j+1) dn0=(aIn zs x i j dn0).set (i+j) (y1+x)):=by show _=_;rw[aIn,HZJ.out,d0I,HY1.out]
         cases oj
         ·have hN0:Hid (aIn os x i (j+1) nx0=aIn os x i j nx0):=by show _=_;rw[aIn,HOJ.out,c0Q]
          go_wp2_with fail;have ew:IntKind.i64.wrap ((i:Int)+(j:Int))=(i:Int)+(j:Int):=by rw[IntWalk.i64_in _ ⟨by omega,by omega⟩]
          have et:((i:Int)+(j:Int)).toNat=i+j:=by omega
          refine c0a 15 2 [0,1,2,3,4,5,6,7,8,9,10,11,12,13] 1 (fun W'=>W'.cell? ⟨gD,i+j,none⟩=some (.string u1)∧W'.cell? ⟨gO,i,none⟩=some (.string sx)) (by kernel_rfl) rfl (by kernel_rfl) (by kernel_rfl) (by kernel_rfl) (by kernel_rfl) ⟨t1,k1⟩ ?_
          iterate 14
           refine⟨_,rfl,?_⟩;apply Exists.intro
           refine⟨.inl ⟨by rfl,?_⟩,?_⟩
           ·(intro W' hW';obtain⟨r1,r2⟩:=hW';go_simp;try (with_reducible rfl))
           (dsimp only[Act.put];try simp only[List.setIfInBounds_toArray,List.set_cons_zero,List.set_cons_succ])
          refine a0c (i:=14) (by kernel_rfl) (by rfl) (by rfl) ?_;go_wp2_with fail;refine (P1 _ (HL.out.below hB.out.drew HLL.out)).out.mono ?_;rintro e w5 ⟨rfl,hbc⟩;have C1:=hid (show Below wr.heap.size wr w5 from (Below.refl _ _).drew.trans hbc);have E1:=hid (hS.out.call C1.out);have F1:=hid (hB.out.trans (C1.out.mono hB.out.size));have tc1:=(C1.out.cell (a0k t1)).trans t1;have kc1:=(C1.out.cell (a0k k1)).trans k1;clear hbc;go_wp2_with fail;refine⟨⟨tc1,kc1⟩,?_⟩;refine wpAnyH_done (by kernel_rfl) ?_ _;simp only[b0l,c0R,List.drop_succ_cons,List.drop_zero];have fz1:=E1.out.dn.free (i+j);clear kc1;have S6:Hid (EnS (w5.setCell ⟨gD,i+j,none⟩ (.string m1)) gt gO gN gD g1 g2 n r rv' gs O (aIn os x i j nx0) ((aIn zs x i j dn0).set (i+j) (y1+x)) os zs EF):=by rw[← HM1.out];exact E1.out.setD ED.out (i+j) (y1+x)
          have c1s:(w5.setCell ⟨gD,i+j,none⟩ (.string m1)).cell? ⟨g1,j,none⟩=some (.bool false):=(S6.out.b1.cell j).trans (by rw[List.getElem?_toArray,f0y (by have:=HLT.out;omega),HOJ.out]);go_wp2_with fail
          try simp only[b0l]
          go_roundw
          case rel=>exact⟨j+1,by go_num,by have:=HLT.out;omega,by rw[hN0.out,hD0.out];exact S6,F1.out.setCell QD.out _⟩
          case measure=>simp[intOf]<;>(have:=HLT.out;omega)
         ·have hN0:Hid (aIn os x i (j+1) nx0=(aIn os x i j nx0).set (i+j) (y2+x)):=by show _=_;rw[aIn,HOJ.out,d0I,HY2.out]
          go_wp2_with fail;have ew:IntKind.i64.wrap ((i:Int)+(j:Int))=(i:Int)+(j:Int):=by rw[IntWalk.i64_in _ ⟨by omega,by omega⟩]
          have et:((i:Int)+(j:Int)).toNat=i+j:=by omega
          refine c0a 15 2 [0,1,2,3,4,5,6,7,8,9,10,11,12,13] 1 (fun W'=>W'.cell? ⟨gD,i+j,none⟩=some (.string u1)∧W'.cell? ⟨gO,i,none⟩=some (.string sx)) (by kernel_rfl) rfl (by kernel_rfl) (by kernel_rfl) (by kernel_rfl) (by kernel_rfl) ⟨t1,k1⟩ ?_
          iterate 14
           refine⟨_,rfl,?_⟩;apply Exists.intro
           refine⟨.inl ⟨by rfl,?_⟩,?_⟩
           ·(intro W' hW';obtain⟨r1,r2⟩:=hW';go_simp;try (with_reducible rfl))
           (dsimp only[Act.put];try simp only[List.setIfInBounds_toArray,List.set_cons_zero,List.set_cons_succ])
          refine a0c (i:=14) (by kernel_rfl) (by rfl) (by rfl) ?_;go_wp2_with fail;refine (P1 _ (HL.out.below hB.out.drew HLL.out)).out.mono ?_;rintro e w5 ⟨rfl,hbc⟩;have C1:=hid (show Below wr.heap.size wr w5 from (Below.refl _ _).drew.trans hbc);have E1:=hid (hS.out.call C1.out);have F1:=hid (hB.out.trans (C1.out.mono hB.out.size));have tc1:=(C1.out.cell (a0k t1)).trans t1;have kc1:=(C1.out.cell (a0k k1)).trans k1;clear hbc;go_wp2_with fail;refine⟨⟨tc1,kc1⟩,?_⟩;refine wpAnyH_done (by kernel_rfl) ?_ _;simp only[b0l,c0R,List.drop_succ_cons,List.drop_zero];have fz1:=E1.out.dn.free (i+j);clear kc1;have S6:Hid (EnS (w5.setCell ⟨gD,i+j,none⟩ (.string m1)) gt gO gN gD g1 g2 n r rv' gs O (aIn os x i j nx0) ((aIn zs x i j dn0).set (i+j) (y1+x)) os zs EF):=by rw[← HM1.out];exact E1.out.setD ED.out (i+j) (y1+x)
          have c1s:(w5.setCell ⟨gD,i+j,none⟩ (.string m1)).cell? ⟨g1,j,none⟩=some (.bool true):=(S6.out.b1.cell j).trans (by rw[List.getElem?_toArray,f0y (by have:=HLT.out;omega),HOJ.out]);go_wp2_with fail
          try simp only[b0l]
          have B6:=hid (F1.out.setCell (p:=⟨gD,i+j,none⟩) QD.out (.string m1));obtain⟨w6,hw6⟩:∃ W,w5.setCell ⟨gD,i+j,none⟩ (.string m1)=W:=⟨_,rfl⟩;rw[hw6]at S6 B6 ⊢;have k2:w6.cell? ⟨gO,i,none⟩=some (.string sx):=by
           refine (S6.out.o.cell (by rw[HOL.out];exact IL.out)).trans ?_;rw[HX.out,HSX.out]
          have t2:w6.cell? ⟨gN,i+j,none⟩=some (.string u2):=by
           refine (S6.out.nx.cell (by rw[HNL.out j];have:=HLT.out;omega)).trans ?_;rw[HY2.out,HU2.out]
          clear hw6 c1s fz1 tc1 ew t1 k1;have ew:IntKind.i64.wrap ((i:Int)+(j:Int))=(i:Int)+(j:Int):=by rw[IntWalk.i64_in _ ⟨by omega,by omega⟩]
          refine c0a 15 2 [0,1,2,3,4,5,6,7,8,9,10,11,12,13] 1 (fun W'=>W'.cell? ⟨gN,i+j,none⟩=some (.string u2)∧W'.cell? ⟨gO,i,none⟩=some (.string sx)) (by kernel_rfl) rfl (by kernel_rfl) (by kernel_rfl) (by kernel_rfl) (by kernel_rfl) ⟨t2,k2⟩ ?_
          iterate 14
           refine⟨_,rfl,?_⟩;apply Exists.intro
           refine⟨.inl ⟨by rfl,?_⟩,?_⟩
           ·(intro W' hW';obtain⟨r1,r2⟩:=hW';go_simp;try (with_reducible rfl))
           (dsimp only[Act.put];try simp only[List.setIfInBounds_toArray,List.set_cons_zero,List.set_cons_succ])
          refine a0c (i:=14) (by kernel_rfl) (by rfl) (by rfl) ?_;go_wp2_with fail;refine (P2 _ (HL.out.below B6.out.drew HLL.out)).out.mono ?_;rintro e w7 ⟨rfl,hbc⟩;have C2:=hid (show Below w6.heap.size w6 w7 from (Below.refl _ _).drew.trans hbc);have E2:=hid (S6.out.call C2.out);have F2:=hid (B6.out.trans (C2.out.mono B6.out.size));have tc2:=(C2.out.cell (a0k t2)).trans t2;have kc2:=(C2.out.cell (a0k k2)).trans k2;clear hbc;go_wp2_with fail;refine⟨⟨tc2,kc2⟩,?_⟩;refine wpAnyH_done (by kernel_rfl) ?_ _;simp only[b0l,c0R,List.drop_succ_cons,List.drop_zero];have fz2:=E2.out.nx.free (i+j);clear kc2;go_wp2_with fail
          try simp only[b0l]
          go_roundw
          case rel=>exact⟨j+1,by go_num,by have:=HLT.out;omega,by rw[hN0.out,hD0.out,← HM2.out];exact E2.out.setN ED.out (i+j) (y2+x),F2.out.setCell QN.out _⟩
          case measure=>simp[intOf]<;>(have:=HLT.out;omega)
       ·have q2:decide ((i:Int)+(j:Int)≤(n:Int))=false:=by simp;omega
        have e1:j=n+1-i:=by omega
        have f7:(j:Int)≤1001:=by have:=HN.out;omega
        have f5:(0:Int)≤(j:Int):=by omega
        subst e1;clear hj hlt;go_wp2_with fail;go_roundw
        case rel=>exact⟨i+1,by go_num,by have:=IL.out;omega,by rw[hnx.out,hdn.out];exact hS,hB⟩
        case measure=>simp[intOf]<;>(have:=IL.out;omega)
    ·have q0:decide ((i:Int)<((n+1:Nat):Int))=false:=by simp;omega
     have di:decide ((i:Int)<(n:Int)+1)=false:=by simp;omega
     have e1:i=n+1:=by omega
     subst e1;rw[NXr.out,DNr.out]at hS;clear hi hlt;have wr1:IntKind.i64.wrap ((r:Int)+1)=((r+1:Nat):Int):=by have:=RL.out;have:=HN.out;rw[IntWalk.i64_in _ ⟨by omega,by omega⟩];omega
     go_wp2_with fail;go_roundw
     case rel=>
      refine⟨r+1,gN,rv',gs ++ [gD],rfl,by go_num,by have:=RL.out;omega,⟨by rw[List.length_append,LG.out];rfl,DG.out,NO.out⟩,?_,hS.out.nx,hS.out.b1,hS.out.b2,hB⟩;have h:=hS.out.tab;refine⟨h.blk,h.own,fun i g hi hg=>?_,h.ne,fun i g hi hg=>?_,fun i g hi hg=>?_⟩
      ·by_cases hi2:i<r
       ·exact h.rows i g hi2 hg
       ·obtain rfl:i=r:=by omega
        rw[List.getElem?_append_right (by have:=LG.out;omega),LG.out,Nat.sub_self]at hg;simp at hg;subst hg;exact hS.out.dn
      ·by_cases hi2:i<r
       ·exact h.sep i g hi2 hg
       ·obtain rfl:i=r:=by omega
        rw[List.getElem?_append_right (by have:=LG.out;omega),LG.out,Nat.sub_self]at hg;simp at hg;subst hg;exact ED.out.rD
      ·by_cases hi2:i<r
       ·exact h.gne i g hi2 hg
       ·obtain rfl:i=r:=by omega
        rw[List.getElem?_append_right (by have:=LG.out;omega),LG.out,Nat.sub_self]at hg;simp at hg;subst hg;exact ED.out.tD
     case measure=>simp[intOf]<;>(have:=RL.out;omega)
  ·have q0:decide ((r:Int)<((n+1:Nat):Int))=false:=by simp;omega
   have dr:decide ((r:Int)<(n:Int)+1)=false:=by simp;omega
   have e1:r=n+1:=by omega
   subst e1;clear hr hlt;unfold j0U;go_wp2_with fail;go_ret
   refine⟨⟨gt,rfl,D1.out.2.2,?_⟩,hB.out⟩;rw[HEF.out];exact t0m hT.out hM.out.1 (fun i=>by rw[← HEF.out];exact e0S _ _) (by have:=HN.out;omega)
end Go.Proofs.YtlmnpocifldpmaaGreatDoor
namespace Go.Proofs.YtlmnpocifldpmaaGreatDoor
open Go.RowKit
open Go.Maps
open Go.Lib (decDigits nDigits)
theorem x0M (w:World)(g x:Nat)(h:Blk w g #[.string (i0o x),.string ⟨#[48]⟩] 22):
 Calls Tryz.prog 271 #[.slice (some ⟨g,0,none⟩) 2 2] w fun e w'=>e=.returned (.string (a0f x))∧w=w':=by
 have r0:=h.cell 0;have r1:=h.cell 1;simp at r0 r1;by_cases hx:x=0
 ·subst hx;have e1:i0o 0=⟨#[]⟩:=rfl;have e2:a0f 0=⟨#[48]⟩:=a0w;rw[e1]at r0;rw[e2];clear h e1 e2;go_enter Tryz.func271,Tryz.ntmps271;go_wp2_with fail
  go_loopw [8] (fun ii wr=>∃ i:Nat,ii=.int .i64 (i:Nat)∧i≤1∧wr=w) (fun ii wr=>2-(intOf ii).toNat)
  case atStart=>exact⟨0,rfl,Nat.zero_le _,rfl⟩
  case round=>
   obtain⟨i,rfl,hi,rfl⟩:=hrel;rcases Nat.lt_or_ge i 1 with h0 | h0
   ·obtain rfl:i=0:=by omega
    clear hi h0;go_wp2_with fail;go_roundw
    case rel=>exact⟨1,by go_num,by omega,by simp⟩
    case measure=>simp[intOf]
   ·obtain rfl:i=1:=by omega
    clear hi h0;go_wp2_with fail;go_ret
    exact⟨rfl,rfl⟩
 ·have e1:i0o x=a0f x:=if_neg hx;rw[e1]at r0;have q1:((a0f x).toList == [])=false:=a0J (l:=[]) (fun e=>by
   have h1:=a0W x;rw[e]at h1;have h2:=Go.Lib.nDigits_pos x;simp[ByteArray.size]at h1;omega)
  obtain⟨s,hs⟩:∃ s,a0f x=s:=⟨_,rfl⟩;rw[hs]at r0 q1 ⊢;clear h e1 hs hx;go_enter Tryz.func271,Tryz.ntmps271;go_wp2_with fail
  go_loopw [8] (fun ii wr=>ii=.int .i64 0∧wr=w) (fun ii wr=>0)
  case atStart=>exact⟨rfl,rfl⟩
  case round=>
   obtain⟨rfl,rfl⟩:=hrel;go_wp2_with fail;go_ret
   exact⟨rfl,rfl⟩
structure GlS (H:Type)(w1 w:World)(B K:Nat)(c:Int→Nat):Prop where
 bel:Below w1.heap.size w1 w
 ex:∃ (nn:Nat) (D:DataW H),nn≤K∧w.ownsMap Tryz.prog 3 (plainElem Tryz.prog 22) B nn D∧ReadsI D c
theorem GlS.mono {H:Type}{w1 w:World}{B K K':Nat}{c c':Int→Nat}(h:GlS H w1 w B K c)(hK:K≤K')(hc:c=c'):GlS H w1 w B K' c':=by
 subst hc;obtain⟨h1,nn,D,h2,h3,h4⟩:=h;exact⟨h1,nn,D,by omega,h3,h4⟩
theorem j0N {w1 w w':World}{B:Nat}(h:Below w1.heap.size w1 w)(hg:w.grownBy w' (some B))(hB:w1.heap.size≤B):Below w1.heap.size w1 w':=by
 refine⟨hg.os.trans h.os,hg.tape.trans h.tape,hg.output.trans h.output,Nat.le_trans h.size hg.size,fun i hi=>?_⟩;exact (hg.block i (by have:=h.size;omega) (fun e=>by injection e with e;omega)).trans (h.block i hi)
theorem k0Z {v:Int}(h1 : -100000≤v)(h2:v≤100000):(Lit.int .i64 v).wf=true:=WalkArith.wf_i64 ⟨by omega,by omega⟩
theorem o0Q {x y a b:Nat}(h1:x≤2 ^ a)(h2:y≤2 ^ b)(h:a+b≤3000):nDigits (x*y)≤4000:=a0g (by rw[Nat.pow_add];exact Nat.mul_le_mul h1 h2) h
theorem f0c {x:Nat}(h:nDigits x≤4000):(a0f x).size≤maxLen:=by rw[a0W];unfold maxLen;omega
theorem w0u {H:Type}(w:World)(a:ByteArray)(n N D:Nat)(ha:a.size≤100000)(he:gPE a=0)(hn:n≤32)(hN:bN (cW a)=N)(hD:bN (qD a)=D)(hND:N<D)(hL:Lay w):
 Calls Tryz.prog 218 #[.string a,.int .i64 n,.bool false] w fun e w'=>(∃ B nn Dm,e=.returned (.map (some B))∧w.heap.size≤B∧nn≤3000000∧w'.ownsMap Tryz.prog 3 (plainElem (H:=H) Tryz.prog 22) B nn Dm∧ReadsI Dm (gV N D false n))∧Below w.heap.size w w':=by
 have HE:=hid (s0S w a n N D ha he hn hN hD hND hL);have HAT:Hid (∀ V gt i k,TabR V gt n (n0o N D n)→i≤n→k≤n→Calls Tryz.prog 270 #[.pointer (some ⟨gt,0,none⟩),.int .i64 (i:Nat),.int .i64 (k:Nat)] V fun e w'=>e=.returned (.string (a0f (edn N D i k)))∧V=w'):=fun V gt i k hT hi hk=>by
  have:=v0s V gt n i k (n0o N D n) hT hi hk (by omega);unfold n0o at this;rw[g0g hk]at this;exact this
 have HPW:=fun V k (hk:k≤1000) hV=>hid (k0D V k hk hV)
 have EB:Hid (∀ i k,i≤n→k≤n→edn N D i k≤2 ^ 200):=fun i k hi hk=>Nat.le_trans (p0D hn i k hk) (Nat.pow_le_pow_right (by omega) (by omega))
 have HL:=hid hL;have HLL:=hid hL.lt;have HN:=hid hn;have HND:=hid hND;have wn:IntKind.i64.wrap ((n:Int)+1)=((n+1:Nat):Int):=by rw[IntWalk.i64_in _ ⟨by omega,by omega⟩];omega
 have hmm:=@run_makeMap Tryz.prog;clear ha he hn hN hD hND hL;go_enter Tryz.func218,Tryz.ntmps218;go_wp2_with fail;refine HE.out.mono ?_;rintro e w1 ⟨⟨gt,rfl,hgt,hT⟩,hb1⟩;have T1:=hid hT;have B1:=hid hb1;clear hT hb1 HE hgt;have TK:Hid (∀ V,Below w1.heap.size w1 V→TabR V gt n (n0o N D n)):=fun V hV=>T1.out.call hV
 have LK:Hid (∀ V,Below w1.heap.size w1 V→Lay V):=fun V hV=>(HL.out.call B1.out).call hV
 have HR0:Hid (∀ V,Below w1.heap.size w1 V→∃ g c,n+1≤c∧c≤9223372036854775807∧V.cell? ⟨gt,0,none⟩=some (.slice (some ⟨g,0,none⟩) (n+1) c)):=fun V hV=>by
  obtain⟨-,g,c,h1,h2,h3,-,-⟩:=TK.out V hV;exact⟨g,c,h1,h2,h3⟩
 have G0:Hid (GlS H w1 (w1.alloc (.map #[] 0)) w1.heap.size 0 (fun _=>0)):=⟨(Below.refl _ _).alloc (Nat.le_refl _) _,0,.map [],Nat.le_refl _,World.ownsMap_made _ _ _ _,ReadsI.nil⟩;obtain⟨g,c,hc1,hc2,r0⟩:=HR0.out _ G0.out.bel;clear T1;go_wp2_with fail;obtain⟨W1,hW1⟩:∃ W,w1.alloc (.map #[] 0)=W:=⟨_,rfl⟩;obtain⟨B,hB⟩:∃ B,w1.heap.size=B:=⟨_,rfl⟩;have HB:=hid hB;have G1:Hid (GlS H w1 W1 B 0 (fun _=>0)):=by rw[← hW1,← hB];exact G0.out
 rw[hW1,hB];clear hW1 hB G0 r0 hc1 hc2
 go_loopw [22] (fun ii wr=>∃ i:Nat,ii=.int .i64 (i:Nat)∧i≤n+1∧Hid (GlS H w1 wr B (i*64000) (c1 N D n i 0))) (fun ii wr=>n+1-(intOf ii).toNat)
 case atStart=>exact⟨0,rfl,Nat.zero_le _,hid (by rw[u0U];exact G1.out)⟩
 case round=>
  obtain⟨i,rfl,hi,hG⟩:=hrel;by_cases hlt:i<n+1
  ·have q0:decide ((i:Int)<((n+1:Nat):Int))=true:=by simp;omega
   have di:decide ((i:Int)<(n:Int)+1)=true:=by simp;omega
   have IL:=hid hlt;have f2:(i:Int)≤100:=by have:=HN.out;omega
   clear hi hlt;go_wp2_with fail
   go_loopw [27] (fun ss wq=>∃ s:Nat,ss=.int .i64 (s:Nat)∧s≤n+1∧Hid (GlS H w1 wq B (i*64000+s*1600) (c1 N D n i s))) (fun ss wq=>n+1-(intOf ss).toNat)
   case atStart=>exact⟨0,rfl,Nat.zero_le _,hid (hG.out.mono (by omega) rfl)⟩
   case round=>
    clear hG;obtain⟨s,rfl,hs,hG⟩:=hrel;by_cases hlt:s<n+1
    ·have q0:decide ((s:Int)<((n+1:Nat):Int))=true:=by simp;omega
     have d30:decide ((s:Int)<(n:Int)+1)=true:=by simp;omega
     have SL:=hid hlt;have f3:(s:Int)≤100:=by have:=HN.out;omega
     have A1:=fun V hV=>hid (HAT.out V gt i s (TK.out V hV) (by have:=IL.out;omega) (by have:=SL.out;omega))
     obtain⟨x,hx⟩:∃ x,edn N D i s=x:=⟨_,rfl⟩;rw[hx]at A1;have bx:x≤2 ^ 200:=hx ▸ EB.out i s (by have:=IL.out;omega) (by have:=SL.out;omega);by_cases hx0:x=0
     ·have q1:((a0f x).toList == [48])=true:=by rw[hx0,a0w];exact d0y
      have hsk:=hid (u0V (N:=N) (D:=D) (n:=n) (i:=i) (s:=s) (hx.trans hx0));obtain⟨sx,hsx⟩:∃ s,a0f x=s:=⟨_,rfl⟩;rw[hsx]at A1 q1;clear hs hlt hx bx hx0 hsx;go_wp2_with fail;refine (A1 _ hG.out.bel).out.mono ?_;rintro e w2 ⟨rfl,rfl⟩;go_wp2_with fail;go_roundw
      case rel=>exact⟨s+1,by go_num,by have:=SL.out;omega,hid (by rw[hsk.out];exact hG.out.mono (by omega) rfl)⟩
      case measure=>simp[intOf]<;>(have:=SL.out;omega)
     ·have q1:((a0f x).toList == [48])=false:=a0J (l:=[48]) (by rw[← a0w];exact b0Q hx0);obtain⟨hbl,nn,Dm,hnn,hO,hR⟩:=hG.out;have hcl:=w0U (N:=N) (D:=D) HND.out (n:=n) (i:=i) (s:=s) (by have:=IL.out;omega) (by omega) (i:Int);have hcl2:=w0U (N:=N) (D:=D) HND.out (n:=n) (i:=i) (s:=s+1) (by have:=IL.out;omega) (by have:=SL.out;omega) (i:Int);have hgv:=r0P HND.out false n (i:Int);have hstep:=q0d N D n i s;rw[hstep]at hcl2;rw[hx]at hstep hcl2;unfold n0l at hcl2;rw[if_pos rfl]at hcl2;have hp2:2 ^ (n-s)≤2 ^ 32:=Nat.pow_le_pow_right (by omega) (by have:=HN.out;omega);have hpn:2 ^ n≤2 ^ 32:=Nat.pow_le_pow_right (by omega) HN.out;have hxp:0<x*2 ^ (n-s):=Nat.mul_pos (by omega) (Nat.pow_pos (by omega));have hRP:=ReadsI.put hR (i:Int) hxp;have HRP:=hid hRP;have HO:=hid hO;have HNN:=hid hnn;have HBL:=hid hbl;have HST:=hid hstep;obtain⟨y,hy⟩:∃ y,c1 N D n i s (i:Int)=y:=⟨_,rfl⟩;have HLK:Hid (∀ V,Below wr.heap.size wr V→(Instr.lookup 226 (.map (some B)) (.int .i64 (i:Nat)) false).run Tryz.prog V=.ok (.string (i0o y)) V):=fun V hV=>by
       have:=s0N (HO.out.kept (row:=none) ⟨hV.os,hV.tape,hV.output,hV.size,fun k hk _=>hV.block k hk⟩ (by simp)) hR (k0Z (v:=(i:Int)) (by omega) (by omega));rw[hy]at this;exact this
      rw[hy]at HRP hcl hcl2;have dx:=a0g bx (by omega);have dp:=a0g hp2 (by omega);have dxp:=a0g (i:=32) (show x*2 ^ (n-s)≤2 ^ 32 by omega) (by omega);have dy:=a0g (i:=32) (show y≤2 ^ 32 by omega) (by omega);have ds:=a0g (i:=32) (show y+x*2 ^ (n-s)≤2 ^ 32 by omega) (by omega);have P0:=fun V hV=>HPW V (n-s) (by have:=HN.out;omega) hV
      have P1:=fun V hV=>hid (k0t V x (2 ^ (n-s)) dx dp dxp hV)
      have P2:=fun V hV=>hid (j0h V y (x*2 ^ (n-s)) dy dxp ds hV)
      have POR:=fun V g h=>hid (x0M V g y h)
      have hsz:=hid (f0c ds);have wsub:IntKind.i64.wrap ((n:Int)-(s:Int))=((n-s:Nat):Int):=by have:=HN.out;have:=SL.out;rw[IntWalk.i64_in _ ⟨by omega,by omega⟩];omega
      obtain⟨sx,hsx⟩:∃ t,a0f x=t:=⟨_,rfl⟩;obtain⟨sp,hsp⟩:∃ t,a0f (2 ^ (n-s))=t:=⟨_,rfl⟩;obtain⟨sxp,hsxp⟩:∃ t,a0f (x*2 ^ (n-s))=t:=⟨_,rfl⟩;obtain⟨sy,hsy⟩:∃ t,a0f y=t:=⟨_,rfl⟩;obtain⟨sz,hszz⟩:∃ t,a0f (y+x*2 ^ (n-s))=t:=⟨_,rfl⟩;obtain⟨cy,hcy⟩:∃ t,i0o y=t:=⟨_,rfl⟩;rw[hsx]at A1 q1;rw[hsp]at P0;rw[hsx,hsp,hsxp]at P1;rw[hsy,hsxp,hszz]at P2;rw[hsy,hcy]at POR;rw[hcy]at HLK;rw[hszz]at hsz HRP;have Z0:Hid (w1.heap.size≤wr.heap.size):=hbl.size;clear hs hlt hx bx hx0 hsx hcl hcl2 hgv hstep hp2 hpn hxp hRP hbl hnn hO hR hy dx dp dxp dy ds hsp hsxp hsy hszz hcy;have lk:=HLK.out wr (Below.refl _ _);have C2:Blk (wr.alloc (.cells #[.string cy,.string ⟨#[48]⟩] 22)) wr.heap.size #[.string cy,.string ⟨#[48]⟩] 22:=Blk.new wr #[.string cy,.string ⟨#[48]⟩] 22;have A2:=hid (show Below wr.heap.size wr (wr.alloc (.cells #[.string cy,.string ⟨#[48]⟩] 22)) from (Below.refl _ _).alloc (Nat.le_refl _) _);have F2:=hid (a0a HBL.out A2.out);go_wp2_with fail;refine (A1 _ hG.out.bel).out.mono ?_;rintro e w2 ⟨rfl,rfl⟩;go_wp2_with fail;refine (POR _ _ C2).out.mono ?_;rintro e w2 ⟨rfl,rfl⟩;clear lk C2;go_wp2_with fail;refine (A1 _ F2.out).out.mono ?_;rintro e w2 ⟨rfl,rfl⟩;go_wp2_with fail;refine (P0 _ (LK.out _ F2.out)).out.mono ?_;rintro e w3 ⟨rfl,hb3⟩;have A3:=hid (a0a A2.out hb3);clear hb3;go_wp2_with fail;refine (P1 _ (LK.out _ (a0a HBL.out A3.out))).out.mono ?_;rintro e w4 ⟨rfl,hb4⟩;have A4:=hid (a0a A3.out hb4);clear hb4;go_wp2_with fail;refine (P2 _ (LK.out _ (a0a HBL.out A4.out))).out.mono ?_;rintro e w5 ⟨rfl,hb5⟩;have A5:=hid (a0a A4.out hb5);clear hb5;go_wp2_with (at_mapUpdate;refine wpList_mapUpdate_own _ rfl _ _ _ 226 rfl 3 22 (int_keyed Tryz.underlying3) Tryz.underlying226 _ B nn _ rfl (HO.out.kept (row:=none) ⟨A5.out.os,A5.out.tape,A5.out.output,A5.out.size,fun k hk _=>A5.out.block k hk⟩ (by simp)) (by have:=HNN.out;have:=HN.out;have:=IL.out;have:=SL.out;unfold maxLen;omega) _ _ _ rfl rfl (keyOf_int_mk Tryz.underlying3 (k0Z (v:=(i:Int)) (by omega) (by omega))) _ [] (plainElem_string Tryz.underlying22 hsz.out) ?_;intro w6 hown hgrow)
      have OW:=hid hown;have B6:=hid (j0N (a0a HBL.out A5.out) hgrow (by rw[HB.out];exact Nat.le_refl _));clear hown hgrow HLK;go_roundw
      case rel=>
       refine⟨s+1,by go_num,by have:=SL.out;omega,hid ⟨B6.out,nn+1,_,by have:=HNN.out;omega,OW.out,?_⟩⟩;rw[HST.out];exact HRP.out
      case measure=>simp[intOf]<;>(have:=SL.out;omega)
    ·have q0:decide ((s:Int)<((n+1:Nat):Int))=false:=by simp;omega
     have d30:decide ((s:Int)<(n:Int)+1)=false:=by simp;omega
     have e1:s=n+1:=by omega
     subst e1;clear hs hlt;have hrow:=hid (s0Z N D n i);go_wp2_with fail;go_roundw
     case rel=>exact⟨i+1,by go_num,by have:=IL.out;omega,hid (hG.out.mono (by have:=HN.out;omega) hrow.out)⟩
     case measure=>simp[intOf]<;>(have:=IL.out;omega)
  ·have q0:decide ((i:Int)<((n+1:Nat):Int))=false:=by simp;omega
   have di:decide ((i:Int)<(n:Int)+1)=false:=by simp;omega
   have e1:i=n+1:=by omega
   subst e1;clear hi hlt;obtain⟨hbl,nn,Dm,h1,h2,h3⟩:=hG.out;have HBL:=hid hbl;have H1:=hid h1;have H2:=hid h2;have H3:=hid h3;clear hbl h1 h2 h3;go_wp2_with fail;go_ret
   refine⟨⟨B,nn,Dm,rfl,by rw[← HB.out];exact B1.out.size,by have:=H1.out;have:=HN.out;omega,H2.out,?_⟩,a0a B1.out HBL.out⟩;have e2:c1 N D n (n+1) 0=gV N D false n:=funext fun v=>t0a HND.out n v
   rw[← e2];exact H3.out
theorem w0t {H:Type}(w:World)(a:ByteArray)(n N D:Nat)(ha:a.size≤100000)(he:gPE a=0)(hn:n≤32)(hN:bN (cW a)=N)(hD:bN (qD a)=D)(hND:N<D)(hL:Lay w):
 Calls Tryz.prog 218 #[.string a,.int .i64 n,.bool true] w fun e w'=>(∃ B nn Dm,e=.returned (.map (some B))∧w.heap.size≤B∧nn≤3000000∧w'.ownsMap Tryz.prog 3 (plainElem (H:=H) Tryz.prog 22) B nn Dm∧ReadsI Dm (gV N D true n))∧Below w.heap.size w w':=by
 have HE:=hid (s0S w a n N D ha he hn hN hD hND hL);have HAT:Hid (∀ V gt i k,TabR V gt n (n0o N D n)→i≤n→k≤n→Calls Tryz.prog 270 #[.pointer (some ⟨gt,0,none⟩),.int .i64 (i:Nat),.int .i64 (k:Nat)] V fun e w'=>e=.returned (.string (a0f (edn N D i k)))∧V=w'):=fun V gt i k hT hi hk=>by
  have:=v0s V gt n i k (n0o N D n) hT hi hk (by omega);unfold n0o at this;rw[g0g hk]at this;exact this
 have HPW:=fun V k (hk:k≤1000) hV=>hid (k0D V k hk hV)
 have EB:Hid (∀ i k,i≤n→k≤n→edn N D i k≤2 ^ 200):=fun i k hi hk=>Nat.le_trans (p0D hn i k hk) (Nat.pow_le_pow_right (by omega) (by omega))
 have HL:=hid hL;have HLL:=hid hL.lt;have HN:=hid hn;have HND:=hid hND;have wn:IntKind.i64.wrap ((n:Int)+1)=((n+1:Nat):Int):=by rw[IntWalk.i64_in _ ⟨by omega,by omega⟩];omega
 have hmm:=@run_makeMap Tryz.prog;clear ha he hn hN hD hND hL;go_enter Tryz.func218,Tryz.ntmps218;go_wp2_with fail;refine HE.out.mono ?_;rintro e w1 ⟨⟨gt,rfl,hgt,hT⟩,hb1⟩;have T1:=hid hT;have B1:=hid hb1;clear hT hb1 HE hgt;have TK:Hid (∀ V,Below w1.heap.size w1 V→TabR V gt n (n0o N D n)):=fun V hV=>T1.out.call hV
 have LK:Hid (∀ V,Below w1.heap.size w1 V→Lay V):=fun V hV=>(HL.out.call B1.out).call hV
 have HR0:Hid (∀ V,Below w1.heap.size w1 V→∃ g c,n+1≤c∧c≤9223372036854775807∧V.cell? ⟨gt,0,none⟩=some (.slice (some ⟨g,0,none⟩) (n+1) c)):=fun V hV=>by
  obtain⟨-,g,c,h1,h2,h3,-,-⟩:=TK.out V hV;exact⟨g,c,h1,h2,h3⟩
 have G0:Hid (GlS H w1 (w1.alloc (.map #[] 0)) w1.heap.size 0 (fun _=>0)):=⟨(Below.refl _ _).alloc (Nat.le_refl _) _,0,.map [],Nat.le_refl _,World.ownsMap_made _ _ _ _,ReadsI.nil⟩;obtain⟨g,c,hc1,hc2,r0⟩:=HR0.out _ G0.out.bel;clear T1;go_wp2_with fail;obtain⟨W1,hW1⟩:∃ W,w1.alloc (.map #[] 0)=W:=⟨_,rfl⟩;obtain⟨B,hB⟩:∃ B,w1.heap.size=B:=⟨_,rfl⟩;have HB:=hid hB;have G1:Hid (GlS H w1 W1 B 0 (fun _=>0)):=by rw[← hW1,← hB];exact G0.out
 rw[hW1,hB];clear hW1 hB G0 r0 hc1 hc2
 go_loopw [22] (fun ii wr=>∃ i:Nat,ii=.int .i64 (i:Nat)∧i≤n+1∧Hid (GlS H w1 wr B (i*64000) (c2 N D n i 0 0 0))) (fun ii wr=>n+1-(intOf ii).toNat)
 case atStart=>exact⟨0,rfl,Nat.zero_le _,hid (by rw[u0R];exact G1.out)⟩
 case round=>
  obtain⟨i,rfl,hi,hG⟩:=hrel;by_cases hlt:i<n+1
  ·have q0:decide ((i:Int)<((n+1:Nat):Int))=true:=by simp;omega
   have di:decide ((i:Int)<(n:Int)+1)=true:=by simp;omega
   have IL:=hid hlt;have f2:(i:Int)≤100:=by have:=HN.out;omega
   clear hi hlt;go_wp2_with fail
   go_loopw [27] (fun ss wq=>∃ s:Nat,ss=.int .i64 (s:Nat)∧s≤n+1∧Hid (GlS H w1 wq B (i*64000+s*1600) (c2 N D n i s 0 0))) (fun ss wq=>n+1-(intOf ss).toNat)
   case atStart=>exact⟨0,rfl,Nat.zero_le _,hid (hG.out.mono (by omega) rfl)⟩
   case round=>
    clear hG;obtain⟨s,rfl,hs,hG⟩:=hrel;by_cases hlt:s<n+1
    ·have q0:decide ((s:Int)<((n+1:Nat):Int))=true:=by simp;omega
     have d30:decide ((s:Int)<(n:Int)+1)=true:=by simp;omega
     have SL:=hid hlt;have f3:(s:Int)≤100:=by have:=HN.out;omega
     have A1:=fun V hV=>hid (HAT.out V gt i s (TK.out V hV) (by have:=IL.out;omega) (by have:=SL.out;omega))
     obtain⟨x,hx⟩:∃ x,edn N D i s=x:=⟨_,rfl⟩;rw[hx]at A1;have bx:x≤2 ^ 200:=hx ▸ EB.out i s (by have:=IL.out;omega) (by have:=SL.out;omega);by_cases hx0:x=0
     ·have q1:((a0f x).toList == [48])=true:=by rw[hx0,a0w];exact d0y
      have hsk:=hid (u0T (N:=N) (D:=D) (n:=n) (i:=i) (s:=s) (hx.trans hx0));obtain⟨sx,hsx⟩:∃ s,a0f x=s:=⟨_,rfl⟩;rw[hsx]at A1 q1;clear hs hlt hx bx hx0 hsx;go_wp2_with fail;refine (A1 _ hG.out.bel).out.mono ?_;rintro e w2 ⟨rfl,rfl⟩;go_wp2_with fail;go_roundw
      case rel=>exact⟨s+1,by go_num,by have:=SL.out;omega,hid (by rw[hsk.out];exact hG.out.mono (by omega) rfl)⟩
      case measure=>simp[intOf]<;>(have:=SL.out;omega)
     ·have q1:((a0f x).toList == [48])=false:=a0J (l:=[48]) (by rw[← a0w];exact b0Q hx0);have HX:=hid hx;have BX:=hid bx;have HX0:=hid hx0;obtain⟨sx,hsx⟩:∃ s,a0f x=s:=⟨_,rfl⟩;rw[hsx]at A1 q1;have HSX:=hid hsx;obtain⟨g',c',hc1',hc2',r0'⟩:=HR0.out _ hG.out.bel;clear hs hlt hx bx hx0 hsx;go_wp2_with fail;refine (A1 _ hG.out.bel).out.mono ?_;rintro e w2 ⟨rfl,rfl⟩;go_wp2_with fail;clear q1
      go_loopw [59] (fun kk wq=>∃ k:Nat,kk=.int .i64 (k:Nat)∧k≤n+1∧Hid (GlS H w1 wq B (i*64000+s*1600+k*40) (c2 N D n i s k 0))) (fun kk wq=>n+1-(intOf kk).toNat)
      case atStart=>exact⟨0,rfl,Nat.zero_le _,hid (hG.out.mono (by omega) rfl)⟩
      case round=>
       clear r0' hG;obtain⟨k,rfl,hk,hG⟩:=hrel;by_cases hlt:k<n+1
       ·have q0:decide ((k:Int)<((n+1:Nat):Int))=true:=by simp;omega
        have dk:decide ((k:Int)<(n:Int)+1)=true:=by simp;omega
        have KL:=hid hlt;have f4:(k:Int)≤100:=by have:=HN.out;omega
        clear hk hlt;go_wp2_with fail
        go_loopw [12] (fun uu wq=>∃ u:Nat,uu=.int .i64 (u:Nat)∧s+u≤n+1∧Hid (GlS H w1 wq B (i*64000+s*1600+k*40+u) (c2 N D n i s k u))) (fun uu wq=>n+1-(intOf uu).toNat)
        case atStart=>exact⟨0,rfl,by have:=SL.out;omega,hid (hG.out.mono (by omega) rfl)⟩
        case round=>
         clear hG;obtain⟨u,rfl,hu,hG⟩:=hrel;by_cases hlt:s+u≤n
         ·have q2:decide ((s:Int)+(u:Int)≤(n:Int))=true:=by simp;omega
          have UL:=hid hlt;have f5:(u:Int)≤100:=by have:=HN.out;omega
          have A2:=fun V hV=>hid (HAT.out V gt k u (TK.out V hV) (by have:=KL.out;omega) (by have:=UL.out;omega))
          obtain⟨y,hy⟩:∃ y,edn N D k u=y:=⟨_,rfl⟩;rw[hy]at A2;have by':y≤2 ^ 200:=hy ▸ EB.out k u (by have:=KL.out;omega) (by omega)
          by_cases hy0:y=0
          ·have q1:((a0f y).toList == [48])=true:=by rw[hy0,a0w];exact d0y
           have hsk:=hid (u0S (N:=N) (D:=D) (n:=n) (i:=i) (s:=s) (k:=k) (u:=u) (hy.trans hy0));obtain⟨sy,hsy⟩:∃ s,a0f y=s:=⟨_,rfl⟩;rw[hsy]at A2 q1;clear hu hlt hy by' hy0 hsy
           go_wp2_with fail;refine (A2 _ hG.out.bel).out.mono ?_;rintro e w2 ⟨rfl,rfl⟩;go_wp2_with fail;go_roundw
           case rel=>exact⟨u+1,by go_num,by have:=UL.out;omega,hid (by rw[hsk.out];exact hG.out.mono (by omega) rfl)⟩
           case measure=>simp[intOf]<;>(have:=UL.out;omega)
          ·have q1:((a0f y).toList == [48])=false:=a0J (l:=[48]) (by rw[← a0w];exact b0Q hy0);obtain⟨hbl,nn,Dm,hnn,hO,hR⟩:=hG.out;obtain⟨v,hv⟩:∃ v:Int,(i:Int)-(k:Int)=v:=⟨_,rfl⟩;have hvb : -1000≤v∧v≤1000:=⟨by omega,by have:=IL.out;have:=HN.out;omega⟩;have hcl:=w0T (N:=N) (D:=D) HND.out (n:=n) (i:=i) (s:=s) (k:=k) (u:=u) (by have:=IL.out;omega) (by omega) (by have:=KL.out;omega) (by omega) v;have hcl2:=w0T (N:=N) (D:=D) HND.out (n:=n) (i:=i) (s:=s) (k:=k) (u:=u+1) (by have:=IL.out;omega) (by omega) (by have:=KL.out;omega) (by omega) v;have hgv:=r0P HND.out true n v;have hstep:=x0N N D n i s k u;rw[hstep]at hcl2;rw[HX.out,hy,hv]at hstep hcl2;unfold n0l at hcl2;rw[if_pos rfl]at hcl2;obtain⟨m,hm⟩:∃ m,n-s-u=m:=⟨_,rfl⟩;obtain⟨ns,hns⟩:∃ m,n-s=m:=⟨_,rfl⟩;have hm32:m≤32:=by have:=HN.out;omega
           have wsub:IntKind.i64.wrap ((n:Int)-(s:Int))=(ns:Int):=by rw[IntWalk.i64_in _ ⟨by omega,by omega⟩];omega
           have wsub2:IntKind.i64.wrap ((ns:Int)-(u:Int))=(m:Int):=by rw[IntWalk.i64_in _ ⟨by omega,by omega⟩];omega
           have wik:IntKind.i64.wrap ((i:Int)-(k:Int))=v:=by rw[IntWalk.i64_in _ ⟨by omega,by omega⟩];exact hv
           rw[hm]at hstep hcl2;have hp2:2 ^ m≤2 ^ 32:=Nat.pow_le_pow_right (by omega) hm32;have hpn:2 ^ n≤2 ^ 32:=Nat.pow_le_pow_right (by omega) HN.out;obtain⟨xy,hxy⟩:∃ z,x*y=z:=⟨_,rfl⟩;have hxy0:0<xy:=by rw[← hxy];exact Nat.mul_pos (by have:=HX0.out;omega) (by omega)
           have hxp:0<xy*2 ^ m:=Nat.mul_pos hxy0 (Nat.pow_pos (by omega));have dxy':=o0Q BX.out by' (by omega)
           rw[hxy]at dxy';have dx:=a0g BX.out (by omega);have dyy:=a0g by' (by omega)
           have PXY:=fun V hV=>hid (k0t V x y dx dyy (by rw[hxy];exact dxy') hV)
           rw[hxy]at hstep hcl2 PXY;have hRP:=ReadsI.put hR v hxp;have HRP:=hid hRP;have HO:=hid hO;have HNN:=hid hnn;have HBL:=hid hbl;have HST:=hid hstep;obtain⟨z,hz⟩:∃ y,c2 N D n i s k u v=y:=⟨_,rfl⟩;have HLK:Hid (∀ V,Below wr.heap.size wr V→(Instr.lookup 226 (.map (some B)) (.int .i64 v) false).run Tryz.prog V=.ok (.string (i0o z)) V):=fun V hV=>by
            have:=s0N (HO.out.kept (row:=none) ⟨hV.os,hV.tape,hV.output,hV.size,fun k hk _=>hV.block k hk⟩ (by simp)) hR (k0Z (v:=v) (by omega) (by omega));rw[hz]at this;exact this
           rw[hz]at HRP hcl hcl2;have dp:=a0g hp2 (by omega);have dxp:=a0g (i:=32) (show xy*2 ^ m≤2 ^ 32 by omega) (by omega);have dz:=a0g (i:=32) (show z≤2 ^ 32 by omega) (by omega);have ds:=a0g (i:=32) (show z+xy*2 ^ m≤2 ^ 32 by omega) (by omega);have P0:=fun V hV=>HPW V m (by omega) hV
           have P1:=fun V hV=>hid (k0t V xy (2 ^ m) dxy' dp dxp hV)
           have P2:=fun V hV=>hid (j0h V z (xy*2 ^ m) dz dxp ds hV)
           have POR:=fun V g h=>hid (x0M V g z h)
           have hsz:=hid (f0c ds);have hwf:=hid (keyOf_int_mk Tryz.underlying3 (k0Z (v:=v) (by omega) (by omega)));obtain⟨sy,hsy⟩:∃ t,a0f y=t:=⟨_,rfl⟩;obtain⟨sxy,hsxy⟩:∃ t,a0f xy=t:=⟨_,rfl⟩;obtain⟨sp,hsp⟩:∃ t,a0f (2 ^ m)=t:=⟨_,rfl⟩;obtain⟨sxp,hsxp⟩:∃ t,a0f (xy*2 ^ m)=t:=⟨_,rfl⟩;obtain⟨sz,hsz1⟩:∃ t,a0f z=t:=⟨_,rfl⟩;obtain⟨st,hst⟩:∃ t,a0f (z+xy*2 ^ m)=t:=⟨_,rfl⟩;obtain⟨cz,hcz⟩:∃ t,i0o z=t:=⟨_,rfl⟩;rw[hsy]at A2 q1;rw[HSX.out,hsy,hsxy]at PXY;rw[hsp]at P0;rw[hsxy,hsp,hsxp]at P1;rw[hsz1,hsxp,hst]at P2;rw[hsz1,hcz]at POR;rw[hcz]at HLK;rw[hst]at hsz HRP;clear hu hlt hy by' hy0 hbl hnn hO hR hv hvb hcl hcl2 hgv hstep hm hns hm32 hp2 hpn hxy hxy0 hxp dxy' dx dyy hRP hz dp dxp dz ds hsy hsxy hsp hsxp hsz1 hst hcz
           have lk:=HLK.out wr (Below.refl _ _);have C2:Blk (wr.alloc (.cells #[.string cz,.string ⟨#[48]⟩] 22)) wr.heap.size #[.string cz,.string ⟨#[48]⟩] 22:=Blk.new wr #[.string cz,.string ⟨#[48]⟩] 22;have F2:=hid (show Below wr.heap.size wr (wr.alloc (.cells #[.string cz,.string ⟨#[48]⟩] 22)) from (Below.refl _ _).alloc (Nat.le_refl _) _);have E2:=hid (a0a HBL.out F2.out);go_wp2_with fail;refine (A2 _ hG.out.bel).out.mono ?_;rintro e w2 ⟨rfl,rfl⟩;go_wp2_with fail;refine (POR _ _ C2).out.mono ?_;rintro e w2 ⟨rfl,rfl⟩;clear lk C2;go_wp2_with fail;refine (A1 _ E2.out).out.mono ?_;rintro e w2 ⟨rfl,rfl⟩;go_wp2_with fail;refine (A2 _ E2.out).out.mono ?_;rintro e w2 ⟨rfl,rfl⟩;go_wp2_with fail;refine (PXY _ (LK.out _ E2.out)).out.mono ?_;rintro e w3 ⟨rfl,hb3⟩;have F3:=hid (a0a F2.out hb3);clear hb3;go_wp2_with fail;refine (P0 _ (LK.out _ (a0a HBL.out F3.out))).out.mono ?_;rintro e w4 ⟨rfl,hb4⟩;have F4:=hid (a0a F3.out hb4);clear hb4;go_wp2_with fail;refine (P1 _ (LK.out _ (a0a HBL.out F4.out))).out.mono ?_;rintro e w5 ⟨rfl,hb5⟩;have F5:=hid (a0a F4.out hb5);clear hb5;go_wp2_with fail;refine (P2 _ (LK.out _ (a0a HBL.out F5.out))).out.mono ?_;rintro e w6 ⟨rfl,hb6⟩;have F6:=hid (a0a F5.out hb6);clear hb6;go_wp2_with (at_mapUpdate;refine wpList_mapUpdate_own _ rfl _ _ _ 226 rfl 3 22 (int_keyed Tryz.underlying3) Tryz.underlying226 _ B nn _ rfl (HO.out.kept (row:=none) ⟨F6.out.os,F6.out.tape,F6.out.output,F6.out.size,fun k hk _=>F6.out.block k hk⟩ (by simp)) (by have:=HNN.out;have:=HN.out;have:=IL.out;have:=SL.out;have:=KL.out;have:=UL.out;unfold maxLen;omega) _ _ _ rfl rfl hwf.out _ [] (plainElem_string Tryz.underlying22 hsz.out) ?_;intro w7 hown hgrow)
           have OW:=hid hown;have B7:=hid (j0N (a0a HBL.out F6.out) hgrow (by rw[HB.out];exact Nat.le_refl _));clear hown hgrow HLK;go_roundw
           case rel=>
            refine⟨u+1,by go_num,by have:=UL.out;omega,hid ⟨B7.out,nn+1,_,by have:=HNN.out;omega,OW.out,?_⟩⟩;rw[HST.out];exact HRP.out
           case measure=>simp[intOf]<;>(have:=UL.out;omega)
         ·have q2:decide ((s:Int)+(u:Int)≤(n:Int))=false:=by simp;omega
          have e1:u=n-s+1:=by have:=SL.out;omega
          have f5:(u:Int)≤100:=by have:=HN.out;omega
          subst e1;clear hu hlt;have hck:=hid (x0U N D n i s k);go_wp2_with fail;go_roundw
          case rel=>exact⟨k+1,by go_num,by have:=KL.out;omega,hid (hG.out.mono (by have:=HN.out;omega) hck.out)⟩
          case measure=>simp[intOf]<;>(have:=KL.out;omega)
       ·have q0:decide ((k:Int)<((n+1:Nat):Int))=false:=by simp;omega
        have dk:decide ((k:Int)<(n:Int)+1)=false:=by simp;omega
        have e1:k=n+1:=by omega
        subst e1;clear hk hlt;have hcs:=hid (x0O N D n i s);go_wp2_with fail;go_roundw
        case rel=>exact⟨s+1,by go_num,by have:=SL.out;omega,hid (hG.out.mono (by have:=HN.out;omega) hcs.out)⟩
        case measure=>simp[intOf]<;>(have:=SL.out;omega)
    ·have q0:decide ((s:Int)<((n+1:Nat):Int))=false:=by simp;omega
     have d30:decide ((s:Int)<(n:Int)+1)=false:=by simp;omega
     have e1:s=n+1:=by omega
     subst e1;clear hs hlt;have hrow:=hid (x0V N D n i);go_wp2_with fail;go_roundw
     case rel=>exact⟨i+1,by go_num,by have:=IL.out;omega,hid (hG.out.mono (by have:=HN.out;omega) hrow.out)⟩
     case measure=>simp[intOf]<;>(have:=IL.out;omega)
  ·have q0:decide ((i:Int)<((n+1:Nat):Int))=false:=by simp;omega
   have di:decide ((i:Int)<(n:Int)+1)=false:=by simp;omega
   have e1:i=n+1:=by omega
   subst e1;clear hi hlt;obtain⟨hbl,nn,Dm,h1,h2,h3⟩:=hG.out;have HBL:=hid hbl;have H1:=hid h1;have H2:=hid h2;have H3:=hid h3;clear hbl h1 h2 h3;go_wp2_with fail;go_ret
   refine⟨⟨B,nn,Dm,rfl,by rw[← HB.out];exact B1.out.size,by have:=H1.out;have:=HN.out;omega,H2.out,?_⟩,a0a B1.out HBL.out⟩;have e2:c2 N D n (n+1) 0 0 0=gV N D true n:=funext fun v=>s0Y HND.out n v
   rw[← e2];exact H3.out
end Go.Proofs.YtlmnpocifldpmaaGreatDoor
