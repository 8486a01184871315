/- Texts that the proof rests on, merged: R2p, R2c, R2o, R2t, R2s, Pbw, Sw2, AtZ, Sa6, Slt, Slb, Sa4, Sf0. -/
import Derived.Test.YtlmnpocifldpmaaGreatDoorKc10
import Derived.Deep.RegionHeld3
import Derived.Deep.DeepCutAuto
import Derived.Maps.AppendAt
set_option linter.unusedVariables false
set_option linter.unusedSimpArgs false
set_option linter.unusedSectionVars false
set_option maxRecDepth 100000
set_option maxHeartbeats 8000000
namespace Go.Proofs.YtlmnpocifldpmaaGreatDoor
open Go.RowKit
def x0b (m1 m2:Bool)(x y:Nat)(m:Bool)(s:Nat):Prop:=
 (m1=m2∧m=m1∧s=x+y)∨((m1==m2)=false∧x<y∧m=m2∧s=y-x)∨((m1==m2)=false∧y≤x∧m=m1∧s=x-y)
theorem o0Z {a b p:Nat}(ha:(limbs a).length≤p)(hb:(limbs b).length≤p):(limbs (a+b)).length≤p+1:=by
 refine a0d.2 ?_;have h1:=a0d.1 ha;have h2:=a0d.1 hb;rw[Nat.pow_succ];omega
theorem v0X {x y:Nat}(h:y≤x):decide (b0G x y<0)=false:=by
 unfold b0G
 split
 ·omega
 ·split<;>simp
theorem j0c (w:World)(m1 m2 m:Bool)(N1 D1 N2 D2:Value)(n1 d1 n2 d2 s:Nat)(hn1:IsN .i64 w N1 n1)(hd1:IsN .i64 w D1 d1)(hn2:IsN .i64 w N2 n2)(hd2:IsN .i64 w D2 d2)
 (l1:(limbs n1).length≤100000) (l2:(limbs d1).length≤100000) (l3:(limbs n2).length≤100000) (l4:(limbs d2).length≤100000) (p1:0<d1) (p2:0<d2) (key:x0b m1 m2 (n1*d2) (n2*d1) m s):
 Calls Tryz.prog 82 #[.agg #[.bool m1,N1,D1],.agg #[.bool m2,N2,D2]] w fun e w'=>n0n .i64 (qmk m s (d1*d2)) e w'∧Below w.heap.size w w':=by
 have HN1:=hid hn1;have HD1:=hid hd1;have HN2:=hid hn2;have HD2:=hid hd2;have L1:=hid (Nat.le_trans (a0S l1 l4) (show 100000+100000≤1000000 by omega));have L2:=hid (Nat.le_trans (a0S l3 l2) (show 100000+100000≤1000000 by omega));have L3:=hid (Nat.le_trans (a0S l2 l4) (show 100000+100000≤1000000 by omega));have H1:=hid (Nat.le_trans l1 (show 100000≤1000000 by omega));have H2:=hid (Nat.le_trans l2 (show 100000≤1000000 by omega));have H3:=hid (Nat.le_trans l3 (show 100000≤1000000 by omega));have H4:=hid (Nat.le_trans l4 (show 100000≤1000000 by omega));have hD:=hid (Nat.mul_pos p1 p2);have LS:Hid ((limbs s).length≤1000000):=by
  have q1:=a0S l1 l4;have q2:=a0S l3 l2;have q3:=o0Z q1 q2;have q4:(limbs s).length≤(limbs (n1*d2+n2*d1)).length:=a0e (by rcases key with ⟨-,-,rfl⟩ | ⟨-,-,-,rfl⟩ | ⟨-,-,-,rfl⟩<;>omega);show _≤_
  omega
 clear l1 l2 l3 l4 p1 p2;obtain⟨a1,c1,rfl,_⟩:=hn1.openI;obtain⟨a2,c2,rfl,_⟩:=hd1.openI;obtain⟨a3,c3,rfl,_⟩:=hn2.openI;obtain⟨a4,c4,rfl,_⟩:=hd2.openI;obtain⟨k1,hk1⟩:∃ k,(limbs n1).length=k:=⟨_,rfl⟩;obtain⟨k2,hk2⟩:∃ k,(limbs d1).length=k:=⟨_,rfl⟩;obtain⟨k3,hk3⟩:∃ k,(limbs n2).length=k:=⟨_,rfl⟩;obtain⟨k4,hk4⟩:∃ k,(limbs d2).length=k:=⟨_,rfl⟩;rw[hk1]at HN1 ⊢;rw[hk2]at HD1 ⊢;rw[hk3]at HN2 ⊢;rw[hk4]at HD2 ⊢;clear hn1 hd1 hn2 hd2 hk1 hk2 hk3 hk4;obtain⟨x,hx⟩:∃ x,n1*d2=x:=⟨_,rfl⟩;obtain⟨y,hy⟩:∃ y,n2*d1=y:=⟨_,rfl⟩;obtain⟨z,hz⟩:∃ z,d1*d2=z:=⟨_,rfl⟩;rw[hx,hy]at key;rw[hx]at L1;rw[hy]at L2;rw[hz]at hD L3 ⊢;have HX:=hid hx;have HY:=hid hy;have HZ:=hid hz;clear hx hy hz;unfold x0b at key;rcases key with ⟨rfl,rfl,rfl⟩ | ⟨hne,hlt,rfl,rfl⟩ | ⟨hne,hle,rfl,rfl⟩
 ·go_enter Tryz.func82,Tryz.ntmps82;go_wp2_with fail;obtain⟨W,hW⟩:∃ W,((w.alloc (.cells #[.bool m,.slice a1 k1 c1,.slice a2 k2 c2] 100)).alloc (.cells #[.bool m,.slice a3 k3 c3,.slice a4 k4 c4] 100)).alloc (.cells #[.bool false,.slice none 0 0,.slice none 0 0] 100)=W:=⟨_,rfl⟩;rw[hW];have X0:Below w.heap.size w W:=by rw[← hW];exact (((Below.refl _ _).alloc (Nat.le_refl _) _).alloc (by simp) _).alloc (by simp;omega) _
  have Y0:Blk W w.heap.size #[.bool m,.slice a1 k1 c1,.slice a2 k2 c2] 100:=by rw[← hW];exact ((Blk.new w _ _).alloc _).alloc _
  have Y1:Blk W (w.heap.size+1) #[.bool m,.slice a3 k3 c3,.slice a4 k4 c4] 100:=by rw[← hW];exact (Blk.made (w.alloc _) _ _ (by simp)).alloc _
  have Y2:Blk W (w.heap.size+1+1) #[.bool false,.slice none 0 0,.slice none 0 0] 100:=by rw[← hW];exact Blk.made ((w.alloc _).alloc _) _ _ (by simp)
  have K:Hid (∀ w',Below W.heap.size W w'→w'.cell? ⟨w.heap.size,0,none⟩=some (.bool m)∧w'.cell? ⟨w.heap.size,1,none⟩=some (.slice a1 k1 c1)∧w'.cell? ⟨w.heap.size,2,none⟩=some (.slice a2 k2 c2)∧w'.cell? ⟨w.heap.size+1,0,none⟩=some (.bool m)∧w'.cell? ⟨w.heap.size+1,1,none⟩=some (.slice a3 k3 c3)∧w'.cell? ⟨w.heap.size+1,2,none⟩=some (.slice a4 k4 c4)):=fun w' hb=>⟨(Y0.call hb).cell 0,(Y0.call hb).cell 1,(Y0.call hb).cell 2,(Y1.call hb).cell 0,(Y1.call hb).cell 1,(Y1.call hb).cell 2⟩
  have HY0:=hid Y0;have HY1:=hid Y1;have HY2:=hid Y2;have HX0:=hid X0;obtain⟨i0,i1,i2,i3,i4,i5⟩:=K W (Below.refl _ _);clear Y0 Y1 Y2 X0 hW;have XN1:=hid (HN1.out.call HX0.out);have XD1:=hid (HD1.out.call HX0.out);have XN2:=hid (HN2.out.call HX0.out);have XD2:=hid (HD2.out.call HX0.out)
  go_region_held3 (fun w'=>w'.cell? ⟨w.heap.size,0,none⟩=some (.bool m)∧w'.cell? ⟨w.heap.size,1,none⟩=some (.slice a1 k1 c1)∧w'.cell? ⟨w.heap.size,2,none⟩=some (.slice a2 k2 c2)∧w'.cell? ⟨w.heap.size+1,0,none⟩=some (.bool m)∧w'.cell? ⟨w.heap.size+1,1,none⟩=some (.slice a3 k3 c3)∧w'.cell? ⟨w.heap.size+1,2,none⟩=some (.slice a4 k4 c4))
   (first
    | exact K.out _ (Below.refl _ _).drew
    | exact K.out _ bb2.out
    | exact K.out _ bb1.out)
   (first
    | (go_at_call_of 132 (Value.slice a1 k1 c1);refine (b0y _ _ _ n1 d2 (XN1.out.call (by first | exact bb2.out | exact (Below.refl _ _).drew)) (XD2.out.call (by first | exact bb2.out | exact (Below.refl _ _).drew)) H1.out H4.out).mono ?_;rintro e w1 ⟨⟨v1,rfl,hv1⟩,hb1⟩;have bb1:=hid (a0a (by first | exact bb2.out | exact (Below.refl _ _).drew) hb1))
    | (go_at_call_of 132 (Value.slice a3 k3 c3);refine (b0y _ _ _ n2 d1 (XN2.out.call (by first | exact bb1.out | exact (Below.refl _ _).drew)) (XD1.out.call (by first | exact bb1.out | exact (Below.refl _ _).drew)) H3.out H2.out).mono ?_;rintro e w2 ⟨⟨v2,rfl,hv2⟩,hb2⟩;have bb2:=hid (a0a (by first | exact bb1.out | exact (Below.refl _ _).drew) hb2)))
  have V2:=hid hv2;have V1:=hid (hv1.call hb2);rw[HX.out]at V1;rw[HY.out]at V2;clear hv1 hv2 hb1 hb2 i0 i1 i2 i3 i4 i5;obtain⟨i0,i1,i2,i3,i4,i5⟩:=K.out _ bb2.out;go_wp2_with fail;refine (b0y _ _ _ d1 d2 (XD1.out.call bb2.out) (XD2.out.call bb2.out) H2.out H4.out).mono ?_;rintro e w3 ⟨⟨v3,rfl,hv3⟩,hb3⟩;have bb3:=hid (a0a bb2.out hb3);rw[HZ.out]at hv3;have V3:=hid hv3;have V1':=hid (V1.out.call hb3);have V2':=hid (V2.out.call hb3);clear hv3 hb3 i0 i1 i2 i3 i4 i5 V1 V2;obtain⟨i0,i1,i2,i3,i4,i5⟩:=K.out _ bb3.out;obtain⟨ja1,jc1,rfl,_⟩:=V1'.out.openI;obtain⟨ja2,jc2,rfl,_⟩:=V2'.out.openI;obtain⟨ja3,jc3,rfl,_⟩:=V3.out.openI;obtain⟨jk1,hj1⟩:∃ k,(limbs x).length=k:=⟨_,rfl⟩;obtain⟨jk2,hj2⟩:∃ k,(limbs y).length=k:=⟨_,rfl⟩;obtain⟨jk3,hj3⟩:∃ k,(limbs z).length=k:=⟨_,rfl⟩;rw[hj1]at V1' ⊢;rw[hj2]at V2' ⊢;rw[hj3]at V3 ⊢;clear hj1 hj2 hj3;go_wp2_with fail;have K2:Hid (∀ w1 x y z,Below W.heap.size W w1→∀ w',((w1.setCell ⟨w.heap.size+1+1,0,none⟩ x).setCell ⟨w.heap.size+1+1,1,none⟩ y).setCell ⟨w.heap.size+1+1,2,none⟩ z=w'→w'.cell? ⟨w.heap.size,0,none⟩=some (.bool m)∧w'.cell? ⟨w.heap.size,1,none⟩=some (.slice a1 k1 c1)∧w'.cell? ⟨w.heap.size,2,none⟩=some (.slice a2 k2 c2)∧w'.cell? ⟨w.heap.size+1,0,none⟩=some (.bool m)∧w'.cell? ⟨w.heap.size+1,1,none⟩=some (.slice a3 k3 c3)∧w'.cell? ⟨w.heap.size+1,2,none⟩=some (.slice a4 k4 c4)):=by
   rintro w1 x y z hb _ rfl;have Z0:=(((HY0.out.call hb).other (a:=⟨w.heap.size+1+1,0,none⟩) (by simp;omega) x).other (a:=⟨w.heap.size+1+1,1,none⟩) (by simp;omega) y).other (a:=⟨w.heap.size+1+1,2,none⟩) (by simp;omega) z;have Z1:=(((HY1.out.call hb).other (a:=⟨w.heap.size+1+1,0,none⟩) (by simp) x).other (a:=⟨w.heap.size+1+1,1,none⟩) (by simp) y).other (a:=⟨w.heap.size+1+1,2,none⟩) (by simp) z;exact⟨Z0.cell 0,Z0.cell 1,Z0.cell 2,Z1.cell 0,Z1.cell 1,Z1.cell 2⟩
  go_region_held3 (fun w'=>w'.cell? ⟨w.heap.size,0,none⟩=some (.bool m)∧w'.cell? ⟨w.heap.size,1,none⟩=some (.slice a1 k1 c1)∧w'.cell? ⟨w.heap.size,2,none⟩=some (.slice a2 k2 c2)∧w'.cell? ⟨w.heap.size+1,0,none⟩=some (.bool m)∧w'.cell? ⟨w.heap.size+1,1,none⟩=some (.slice a3 k3 c3)∧w'.cell? ⟨w.heap.size+1,2,none⟩=some (.slice a4 k4 c4))
   (first
    | exact K.out _ (by first | exact bb3.out.drew | exact a0h bb3.out _)
    | exact K2.out _ _ _ _ bb6.out _ rfl
    | exact K.out _ bb6.out
    | exact K.out _ bb5.out)
   (first
    | (go_at_call 111;refine (t0P _ _ _ x y (V1'.out.call (by first | exact (Below.refl _ _).drew | exact a0h (Below.refl _ _) _ | exact Below.refl _ _)) (V2'.out.call (by first | exact (Below.refl _ _).drew | exact a0h (Below.refl _ _) _ | exact Below.refl _ _)) L1.out L2.out).mono ?_;rintro e w5 ⟨⟨v5,rfl,hv5⟩,hb5⟩;have bb5:=hid (a0a (by first | exact bb3.out.drew | exact a0h bb3.out _ | exact bb3.out) hb5);have V5:=hid hv5;have Z5:=hid ((V3.out.call (Below.refl _ _).drew).call hb5))
    | (go_at_call 131;refine (e0x _ _ _ _ (x+y) z V5.out Z5.out hD.out LS.out L3.out).mono ?_;rintro e w6 ⟨⟨v6,rfl,hv6⟩,hb6⟩;obtain⟨N6,D6,rfl,hN6,hD6⟩:=hv6.ex;have bb6:=hid (a0a bb5.out hb6);obtain⟨a5,c5,rfl,_⟩:=hN6.openI;obtain⟨a6,c6,rfl,_⟩:=hD6.openI;have HN6:=hid hN6;have HD6:=hid hD6;have Z:=hid (HY2.out.call bb6.out);have t0:=Z.out.cell 0;have t1:=Z.out.cell 1;have t2:=Z.out.cell 2;have t3:=Z.out.free 0;have t4:=Z.out.free 1;have t5:=Z.out.free 2;clear hv6 hN6 hD6))
  go_wp2_with fail;obtain⟨s1,s2⟩:=c0c Z.out (decide ((qmk m (x+y) z).num<0)) a5 a6 (limbs (qmk m (x+y) z).num.natAbs).length c5 (limbs (qmk m (x+y) z).den).length c6;have f0:=s2.cell 0;have f1:=s2.cell 1;have f2:=s2.cell 2;simp at f0 f1 f2;refine bodyPost_ret (v:=.agg #[.bool (decide ((qmk m (x+y) z).num<0)),.slice a5 (limbs (qmk m (x+y) z).num.natAbs).length c5,.slice a6 (limbs (qmk m (x+y) z).den).length c6]) (by simp[results,Tryz.results82,go_sem,f0,f1,f2]) rfl ⟨⟨_,rfl,⟨_,_,rfl,s1 _ _ _ HN6.out,s1 _ _ _ HD6.out⟩⟩,?_⟩;exact (((HX0.out.trans (bb6.out.mono (Nat.le_trans (Nat.le_refl _) HX0.out.size))).setCell (by simp;omega) _).setCell (by simp;omega) _).setCell (by simp;omega) _
 ·have HLT:=hid hlt;have HLE:=hid (Nat.le_of_lt hlt);clear hlt;go_enter Tryz.func82,Tryz.ntmps82;go_wp2_with fail;obtain⟨W,hW⟩:∃ W,((w.alloc (.cells #[.bool m1,.slice a1 k1 c1,.slice a2 k2 c2] 100)).alloc (.cells #[.bool m,.slice a3 k3 c3,.slice a4 k4 c4] 100)).alloc (.cells #[.bool false,.slice none 0 0,.slice none 0 0] 100)=W:=⟨_,rfl⟩;rw[hW];have X0:Below w.heap.size w W:=by rw[← hW];exact (((Below.refl _ _).alloc (Nat.le_refl _) _).alloc (by simp) _).alloc (by simp;omega) _
  have Y0:Blk W w.heap.size #[.bool m1,.slice a1 k1 c1,.slice a2 k2 c2] 100:=by rw[← hW];exact ((Blk.new w _ _).alloc _).alloc _
  have Y1:Blk W (w.heap.size+1) #[.bool m,.slice a3 k3 c3,.slice a4 k4 c4] 100:=by rw[← hW];exact (Blk.made (w.alloc _) _ _ (by simp)).alloc _
  have Y2:Blk W (w.heap.size+1+1) #[.bool false,.slice none 0 0,.slice none 0 0] 100:=by rw[← hW];exact Blk.made ((w.alloc _).alloc _) _ _ (by simp)
  have K:Hid (∀ w',Below W.heap.size W w'→w'.cell? ⟨w.heap.size,0,none⟩=some (.bool m1)∧w'.cell? ⟨w.heap.size,1,none⟩=some (.slice a1 k1 c1)∧w'.cell? ⟨w.heap.size,2,none⟩=some (.slice a2 k2 c2)∧w'.cell? ⟨w.heap.size+1,0,none⟩=some (.bool m)∧w'.cell? ⟨w.heap.size+1,1,none⟩=some (.slice a3 k3 c3)∧w'.cell? ⟨w.heap.size+1,2,none⟩=some (.slice a4 k4 c4)):=fun w' hb=>⟨(Y0.call hb).cell 0,(Y0.call hb).cell 1,(Y0.call hb).cell 2,(Y1.call hb).cell 0,(Y1.call hb).cell 1,(Y1.call hb).cell 2⟩
  have HY0:=hid Y0;have HY1:=hid Y1;have HY2:=hid Y2;have HX0:=hid X0;obtain⟨i0,i1,i2,i3,i4,i5⟩:=K W (Below.refl _ _);clear Y0 Y1 Y2 X0 hW;have XN1:=hid (HN1.out.call HX0.out);have XD1:=hid (HD1.out.call HX0.out);have XN2:=hid (HN2.out.call HX0.out);have XD2:=hid (HD2.out.call HX0.out)
  go_region_held3 (fun w'=>w'.cell? ⟨w.heap.size,0,none⟩=some (.bool m1)∧w'.cell? ⟨w.heap.size,1,none⟩=some (.slice a1 k1 c1)∧w'.cell? ⟨w.heap.size,2,none⟩=some (.slice a2 k2 c2)∧w'.cell? ⟨w.heap.size+1,0,none⟩=some (.bool m)∧w'.cell? ⟨w.heap.size+1,1,none⟩=some (.slice a3 k3 c3)∧w'.cell? ⟨w.heap.size+1,2,none⟩=some (.slice a4 k4 c4))
   (first
    | exact K.out _ (Below.refl _ _).drew
    | exact K.out _ bb2.out
    | exact K.out _ bb1.out)
   (first
    | (go_at_call_of 132 (Value.slice a1 k1 c1);refine (b0y _ _ _ n1 d2 (XN1.out.call (by first | exact bb2.out | exact (Below.refl _ _).drew)) (XD2.out.call (by first | exact bb2.out | exact (Below.refl _ _).drew)) H1.out H4.out).mono ?_;rintro e w1 ⟨⟨v1,rfl,hv1⟩,hb1⟩;have bb1:=hid (a0a (by first | exact bb2.out | exact (Below.refl _ _).drew) hb1))
    | (go_at_call_of 132 (Value.slice a3 k3 c3);refine (b0y _ _ _ n2 d1 (XN2.out.call (by first | exact bb1.out | exact (Below.refl _ _).drew)) (XD1.out.call (by first | exact bb1.out | exact (Below.refl _ _).drew)) H3.out H2.out).mono ?_;rintro e w2 ⟨⟨v2,rfl,hv2⟩,hb2⟩;have bb2:=hid (a0a (by first | exact bb1.out | exact (Below.refl _ _).drew) hb2)))
  have V2:=hid hv2;have V1:=hid (hv1.call hb2);rw[HX.out]at V1;rw[HY.out]at V2;clear hv1 hv2 hb1 hb2 i0 i1 i2 i3 i4 i5;obtain⟨i0,i1,i2,i3,i4,i5⟩:=K.out _ bb2.out;go_wp2_with fail;refine (b0y _ _ _ d1 d2 (XD1.out.call bb2.out) (XD2.out.call bb2.out) H2.out H4.out).mono ?_;rintro e w3 ⟨⟨v3,rfl,hv3⟩,hb3⟩;have bb3:=hid (a0a bb2.out hb3);rw[HZ.out]at hv3;have V3:=hid hv3;have V1':=hid (V1.out.call hb3);have V2':=hid (V2.out.call hb3);clear hv3 hb3 i0 i1 i2 i3 i4 i5 V1 V2;obtain⟨i0,i1,i2,i3,i4,i5⟩:=K.out _ bb3.out;obtain⟨ja1,jc1,rfl,_⟩:=V1'.out.openI;obtain⟨ja2,jc2,rfl,_⟩:=V2'.out.openI;obtain⟨ja3,jc3,rfl,_⟩:=V3.out.openI;obtain⟨jk1,hj1⟩:∃ k,(limbs x).length=k:=⟨_,rfl⟩;obtain⟨jk2,hj2⟩:∃ k,(limbs y).length=k:=⟨_,rfl⟩;obtain⟨jk3,hj3⟩:∃ k,(limbs z).length=k:=⟨_,rfl⟩;rw[hj1]at V1' ⊢;rw[hj2]at V2' ⊢;rw[hj3]at V3 ⊢;clear hj1 hj2 hj3;go_wp2_with fail;refine (c0E _ _ _ x y V1'.out V2'.out).mono ?_;rintro e w4 ⟨rfl,hb4⟩;have bb4:=hid (a0a bb3.out hb4);have W1:=hid (V1'.out.call hb4);have W2:=hid (V2'.out.call hb4);have W3:=hid (V3.out.call hb4);clear hb4 i0 i1 i2 i3 i4 i5;obtain⟨i0,i1,i2,i3,i4,i5⟩:=K.out _ bb4.out;rw[b0A HLT.out];go_wp2_with fail;have K2:Hid (∀ w1 x y z,Below W.heap.size W w1→∀ w',((w1.setCell ⟨w.heap.size+1+1,0,none⟩ x).setCell ⟨w.heap.size+1+1,1,none⟩ y).setCell ⟨w.heap.size+1+1,2,none⟩ z=w'→w'.cell? ⟨w.heap.size,0,none⟩=some (.bool m1)∧w'.cell? ⟨w.heap.size,1,none⟩=some (.slice a1 k1 c1)∧w'.cell? ⟨w.heap.size,2,none⟩=some (.slice a2 k2 c2)∧w'.cell? ⟨w.heap.size+1,0,none⟩=some (.bool m)∧w'.cell? ⟨w.heap.size+1,1,none⟩=some (.slice a3 k3 c3)∧w'.cell? ⟨w.heap.size+1,2,none⟩=some (.slice a4 k4 c4)):=by
   rintro w1 x y z hb _ rfl;have Z0:=(((HY0.out.call hb).other (a:=⟨w.heap.size+1+1,0,none⟩) (by simp;omega) x).other (a:=⟨w.heap.size+1+1,1,none⟩) (by simp;omega) y).other (a:=⟨w.heap.size+1+1,2,none⟩) (by simp;omega) z;have Z1:=(((HY1.out.call hb).other (a:=⟨w.heap.size+1+1,0,none⟩) (by simp) x).other (a:=⟨w.heap.size+1+1,1,none⟩) (by simp) y).other (a:=⟨w.heap.size+1+1,2,none⟩) (by simp) z;exact⟨Z0.cell 0,Z0.cell 1,Z0.cell 2,Z1.cell 0,Z1.cell 1,Z1.cell 2⟩
  go_region_held3 (fun w'=>w'.cell? ⟨w.heap.size,0,none⟩=some (.bool m1)∧w'.cell? ⟨w.heap.size,1,none⟩=some (.slice a1 k1 c1)∧w'.cell? ⟨w.heap.size,2,none⟩=some (.slice a2 k2 c2)∧w'.cell? ⟨w.heap.size+1,0,none⟩=some (.bool m)∧w'.cell? ⟨w.heap.size+1,1,none⟩=some (.slice a3 k3 c3)∧w'.cell? ⟨w.heap.size+1,2,none⟩=some (.slice a4 k4 c4))
   (first
    | exact K.out _ (by first | exact bb4.out.drew | exact a0h bb4.out _)
    | exact K2.out _ _ _ _ bb6.out _ rfl
    | exact K.out _ bb6.out
    | exact K.out _ bb5.out)
   (first
    | (go_at_call 151;refine (l0x _ _ _ y x (W2.out.call (by first | exact (Below.refl _ _).drew | exact a0h (Below.refl _ _) _ | exact Below.refl _ _)) (W1.out.call (by first | exact (Below.refl _ _).drew | exact a0h (Below.refl _ _) _ | exact Below.refl _ _)) HLE.out L2.out).mono ?_;rintro e w5 ⟨⟨v5,rfl,hv5⟩,hb5⟩;have bb5:=hid (a0a (by first | exact bb4.out.drew | exact a0h bb4.out _ | exact bb4.out) hb5);have V5:=hid hv5;have Z5:=hid ((W3.out.call (Below.refl _ _).drew).call hb5))
    | (go_at_call 131;refine (e0x _ _ _ _ (y-x) z V5.out Z5.out hD.out LS.out L3.out).mono ?_;rintro e w6 ⟨⟨v6,rfl,hv6⟩,hb6⟩;obtain⟨N6,D6,rfl,hN6,hD6⟩:=hv6.ex;have bb6:=hid (a0a bb5.out hb6);obtain⟨a5,c5,rfl,_⟩:=hN6.openI;obtain⟨a6,c6,rfl,_⟩:=hD6.openI;have HN6:=hid hN6;have HD6:=hid hD6;have Z:=hid (HY2.out.call bb6.out);have t0:=Z.out.cell 0;have t1:=Z.out.cell 1;have t2:=Z.out.cell 2;have t3:=Z.out.free 0;have t4:=Z.out.free 1;have t5:=Z.out.free 2;clear hv6 hN6 hD6))
  go_wp2_with fail;obtain⟨s1,s2⟩:=c0c Z.out (decide ((qmk m (y-x) z).num<0)) a5 a6 (limbs (qmk m (y-x) z).num.natAbs).length c5 (limbs (qmk m (y-x) z).den).length c6;have f0:=s2.cell 0;have f1:=s2.cell 1;have f2:=s2.cell 2;simp at f0 f1 f2;refine bodyPost_ret (v:=.agg #[.bool (decide ((qmk m (y-x) z).num<0)),.slice a5 (limbs (qmk m (y-x) z).num.natAbs).length c5,.slice a6 (limbs (qmk m (y-x) z).den).length c6]) (by simp[results,Tryz.results82,go_sem,f0,f1,f2]) rfl ⟨⟨_,rfl,⟨_,_,rfl,s1 _ _ _ HN6.out,s1 _ _ _ HD6.out⟩⟩,?_⟩;exact (((HX0.out.trans (bb6.out.mono (Nat.le_trans (Nat.le_refl _) HX0.out.size))).setCell (by simp;omega) _).setCell (by simp;omega) _).setCell (by simp;omega) _
 ·have HLE:=hid hle;clear hle;go_enter Tryz.func82,Tryz.ntmps82;go_wp2_with fail;obtain⟨W,hW⟩:∃ W,((w.alloc (.cells #[.bool m,.slice a1 k1 c1,.slice a2 k2 c2] 100)).alloc (.cells #[.bool m2,.slice a3 k3 c3,.slice a4 k4 c4] 100)).alloc (.cells #[.bool false,.slice none 0 0,.slice none 0 0] 100)=W:=⟨_,rfl⟩;rw[hW];have X0:Below w.heap.size w W:=by rw[← hW];exact (((Below.refl _ _).alloc (Nat.le_refl _) _).alloc (by simp) _).alloc (by simp;omega) _
  have Y0:Blk W w.heap.size #[.bool m,.slice a1 k1 c1,.slice a2 k2 c2] 100:=by rw[← hW];exact ((Blk.new w _ _).alloc _).alloc _
  have Y1:Blk W (w.heap.size+1) #[.bool m2,.slice a3 k3 c3,.slice a4 k4 c4] 100:=by rw[← hW];exact (Blk.made (w.alloc _) _ _ (by simp)).alloc _
  have Y2:Blk W (w.heap.size+1+1) #[.bool false,.slice none 0 0,.slice none 0 0] 100:=by rw[← hW];exact Blk.made ((w.alloc _).alloc _) _ _ (by simp)
  have K:Hid (∀ w',Below W.heap.size W w'→w'.cell? ⟨w.heap.size,0,none⟩=some (.bool m)∧w'.cell? ⟨w.heap.size,1,none⟩=some (.slice a1 k1 c1)∧w'.cell? ⟨w.heap.size,2,none⟩=some (.slice a2 k2 c2)∧w'.cell? ⟨w.heap.size+1,0,none⟩=some (.bool m2)∧w'.cell? ⟨w.heap.size+1,1,none⟩=some (.slice a3 k3 c3)∧w'.cell? ⟨w.heap.size+1,2,none⟩=some (.slice a4 k4 c4)):=fun w' hb=>⟨(Y0.call hb).cell 0,(Y0.call hb).cell 1,(Y0.call hb).cell 2,(Y1.call hb).cell 0,(Y1.call hb).cell 1,(Y1.call hb).cell 2⟩
  have HY0:=hid Y0;have HY1:=hid Y1;have HY2:=hid Y2;have HX0:=hid X0;obtain⟨i0,i1,i2,i3,i4,i5⟩:=K W (Below.refl _ _);clear Y0 Y1 Y2 X0 hW;have XN1:=hid (HN1.out.call HX0.out);have XD1:=hid (HD1.out.call HX0.out);have XN2:=hid (HN2.out.call HX0.out);have XD2:=hid (HD2.out.call HX0.out)
  go_region_held3 (fun w'=>w'.cell? ⟨w.heap.size,0,none⟩=some (.bool m)∧w'.cell? ⟨w.heap.size,1,none⟩=some (.slice a1 k1 c1)∧w'.cell? ⟨w.heap.size,2,none⟩=some (.slice a2 k2 c2)∧w'.cell? ⟨w.heap.size+1,0,none⟩=some (.bool m2)∧w'.cell? ⟨w.heap.size+1,1,none⟩=some (.slice a3 k3 c3)∧w'.cell? ⟨w.heap.size+1,2,none⟩=some (.slice a4 k4 c4))
   (first
    | exact K.out _ (Below.refl _ _).drew
    | exact K.out _ bb2.out
    | exact K.out _ bb1.out)
   (first
    | (go_at_call_of 132 (Value.slice a1 k1 c1);refine (b0y _ _ _ n1 d2 (XN1.out.call (by first | exact bb2.out | exact (Below.refl _ _).drew)) (XD2.out.call (by first | exact bb2.out | exact (Below.refl _ _).drew)) H1.out H4.out).mono ?_;rintro e w1 ⟨⟨v1,rfl,hv1⟩,hb1⟩;have bb1:=hid (a0a (by first | exact bb2.out | exact (Below.refl _ _).drew) hb1))
    | (go_at_call_of 132 (Value.slice a3 k3 c3);refine (b0y _ _ _ n2 d1 (XN2.out.call (by first | exact bb1.out | exact (Below.refl _ _).drew)) (XD1.out.call (by first | exact bb1.out | exact (Below.refl _ _).drew)) H3.out H2.out).mono ?_;rintro e w2 ⟨⟨v2,rfl,hv2⟩,hb2⟩;have bb2:=hid (a0a (by first | exact bb1.out | exact (Below.refl _ _).drew) hb2)))
  have V2:=hid hv2;have V1:=hid (hv1.call hb2);rw[HX.out]at V1;rw[HY.out]at V2;clear hv1 hv2 hb1 hb2 i0 i1 i2 i3 i4 i5;obtain⟨i0,i1,i2,i3,i4,i5⟩:=K.out _ bb2.out;go_wp2_with fail;refine (b0y _ _ _ d1 d2 (XD1.out.call bb2.out) (XD2.out.call bb2.out) H2.out H4.out).mono ?_;rintro e w3 ⟨⟨v3,rfl,hv3⟩,hb3⟩;have bb3:=hid (a0a bb2.out hb3);rw[HZ.out]at hv3;have V3:=hid hv3;have V1':=hid (V1.out.call hb3);have V2':=hid (V2.out.call hb3);clear hv3 hb3 i0 i1 i2 i3 i4 i5 V1 V2;obtain⟨i0,i1,i2,i3,i4,i5⟩:=K.out _ bb3.out;obtain⟨ja1,jc1,rfl,_⟩:=V1'.out.openI;obtain⟨ja2,jc2,rfl,_⟩:=V2'.out.openI;obtain⟨ja3,jc3,rfl,_⟩:=V3.out.openI;obtain⟨jk1,hj1⟩:∃ k,(limbs x).length=k:=⟨_,rfl⟩;obtain⟨jk2,hj2⟩:∃ k,(limbs y).length=k:=⟨_,rfl⟩;obtain⟨jk3,hj3⟩:∃ k,(limbs z).length=k:=⟨_,rfl⟩;rw[hj1]at V1' ⊢;rw[hj2]at V2' ⊢;rw[hj3]at V3 ⊢;clear hj1 hj2 hj3;go_wp2_with fail;refine (c0E _ _ _ x y V1'.out V2'.out).mono ?_;rintro e w4 ⟨rfl,hb4⟩;have bb4:=hid (a0a bb3.out hb4);have W1:=hid (V1'.out.call hb4);have W2:=hid (V2'.out.call hb4);have W3:=hid (V3.out.call hb4);clear hb4 i0 i1 i2 i3 i4 i5;obtain⟨i0,i1,i2,i3,i4,i5⟩:=K.out _ bb4.out;obtain⟨t,ht⟩:∃ t,b0G x y=t:=⟨_,rfl⟩;have q7:decide (t<0)=false:=by rw[← ht];exact v0X HLE.out
  rw[ht];clear ht;go_wp2_with fail;have K2:Hid (∀ w1 x y z,Below W.heap.size W w1→∀ w',((w1.setCell ⟨w.heap.size+1+1,0,none⟩ x).setCell ⟨w.heap.size+1+1,1,none⟩ y).setCell ⟨w.heap.size+1+1,2,none⟩ z=w'→w'.cell? ⟨w.heap.size,0,none⟩=some (.bool m)∧w'.cell? ⟨w.heap.size,1,none⟩=some (.slice a1 k1 c1)∧w'.cell? ⟨w.heap.size,2,none⟩=some (.slice a2 k2 c2)∧w'.cell? ⟨w.heap.size+1,0,none⟩=some (.bool m2)∧w'.cell? ⟨w.heap.size+1,1,none⟩=some (.slice a3 k3 c3)∧w'.cell? ⟨w.heap.size+1,2,none⟩=some (.slice a4 k4 c4)):=by
   rintro w1 x y z hb _ rfl;have Z0:=(((HY0.out.call hb).other (a:=⟨w.heap.size+1+1,0,none⟩) (by simp;omega) x).other (a:=⟨w.heap.size+1+1,1,none⟩) (by simp;omega) y).other (a:=⟨w.heap.size+1+1,2,none⟩) (by simp;omega) z;have Z1:=(((HY1.out.call hb).other (a:=⟨w.heap.size+1+1,0,none⟩) (by simp) x).other (a:=⟨w.heap.size+1+1,1,none⟩) (by simp) y).other (a:=⟨w.heap.size+1+1,2,none⟩) (by simp) z;exact⟨Z0.cell 0,Z0.cell 1,Z0.cell 2,Z1.cell 0,Z1.cell 1,Z1.cell 2⟩
  go_region_held3 (fun w'=>w'.cell? ⟨w.heap.size,0,none⟩=some (.bool m)∧w'.cell? ⟨w.heap.size,1,none⟩=some (.slice a1 k1 c1)∧w'.cell? ⟨w.heap.size,2,none⟩=some (.slice a2 k2 c2)∧w'.cell? ⟨w.heap.size+1,0,none⟩=some (.bool m2)∧w'.cell? ⟨w.heap.size+1,1,none⟩=some (.slice a3 k3 c3)∧w'.cell? ⟨w.heap.size+1,2,none⟩=some (.slice a4 k4 c4))
   (first
    | exact K.out _ (by first | exact bb4.out.drew | exact a0h bb4.out _)
    | exact K2.out _ _ _ _ bb6.out _ rfl
    | exact K.out _ bb6.out
    | exact K.out _ bb5.out)
   (first
    | (go_at_call 151;refine (l0x _ _ _ x y (W1.out.call (by first | exact (Below.refl _ _).drew | exact a0h (Below.refl _ _) _ | exact Below.refl _ _)) (W2.out.call (by first | exact (Below.refl _ _).drew | exact a0h (Below.refl _ _) _ | exact Below.refl _ _)) HLE.out L1.out).mono ?_;rintro e w5 ⟨⟨v5,rfl,hv5⟩,hb5⟩;have bb5:=hid (a0a (by first | exact bb4.out.drew | exact a0h bb4.out _ | exact bb4.out) hb5);have V5:=hid hv5;have Z5:=hid ((W3.out.call (Below.refl _ _).drew).call hb5))
    | (go_at_call 131;refine (e0x _ _ _ _ (x-y) z V5.out Z5.out hD.out LS.out L3.out).mono ?_;rintro e w6 ⟨⟨v6,rfl,hv6⟩,hb6⟩;obtain⟨N6,D6,rfl,hN6,hD6⟩:=hv6.ex;have bb6:=hid (a0a bb5.out hb6);obtain⟨a5,c5,rfl,_⟩:=hN6.openI;obtain⟨a6,c6,rfl,_⟩:=hD6.openI;have HN6:=hid hN6;have HD6:=hid hD6;have Z:=hid (HY2.out.call bb6.out);have t0:=Z.out.cell 0;have t1:=Z.out.cell 1;have t2:=Z.out.cell 2;have t3:=Z.out.free 0;have t4:=Z.out.free 1;have t5:=Z.out.free 2;clear hv6 hN6 hD6))
  go_wp2_with fail;obtain⟨s1,s2⟩:=c0c Z.out (decide ((qmk m (x-y) z).num<0)) a5 a6 (limbs (qmk m (x-y) z).num.natAbs).length c5 (limbs (qmk m (x-y) z).den).length c6;have f0:=s2.cell 0;have f1:=s2.cell 1;have f2:=s2.cell 2;simp at f0 f1 f2;refine bodyPost_ret (v:=.agg #[.bool (decide ((qmk m (x-y) z).num<0)),.slice a5 (limbs (qmk m (x-y) z).num.natAbs).length c5,.slice a6 (limbs (qmk m (x-y) z).den).length c6]) (by simp[results,Tryz.results82,go_sem,f0,f1,f2]) rfl ⟨⟨_,rfl,⟨_,_,rfl,s1 _ _ _ HN6.out,s1 _ _ _ HD6.out⟩⟩,?_⟩;exact (((HX0.out.trans (bb6.out.mono (Nat.le_trans (Nat.le_refl _) HX0.out.size))).setCell (by simp;omega) _).setCell (by simp;omega) _).setCell (by simp;omega) _
theorem t0N (w:World)(v u:Value)(p q:Rat)(hp:IsQ .i64 w v p)(hq:IsQ .i64 w u q)
 (h1:(limbs p.num.natAbs).length≤100000) (h2:(limbs p.den).length≤100000) (h3:(limbs q.num.natAbs).length≤100000) (h4:(limbs q.den).length≤100000):
 Calls Tryz.prog 82 #[v,u] w fun e w'=>n0n .i64 (p+q) e w'∧Below w.heap.size w w':=by
 obtain⟨N1,D1,rfl,hn1,hd1⟩:=hp.ex;obtain⟨N2,D2,rfl,hn2,hd2⟩:=hq.ex;have he:=m0C p q;have hw:=fun m s key=>j0c w (decide (p.num<0)) (decide (q.num<0)) m N1 D1 N2 D2 _ _ _ _ s hn1 hd1 hn2 hd2 h1 h2 h3 h4 p.den_pos q.den_pos key
 rw[he];generalize decide (p.num<0)=m1 at *
 generalize decide (q.num<0)=m2 at *
 by_cases hm:m1=m2
 ·subst hm;rw[l0n];exact hw m1 _ (.inl ⟨rfl,rfl,rfl⟩)
 ·have hm':(m1==m2)=false:=by simpa using hm
  rcases Nat.lt_or_ge (p.num.natAbs*q.den) (q.num.natAbs*p.den) with hl | hl
  ·rw[l0q hm hl];exact hw m2 _ (.inr (.inl ⟨hm',hl,rfl,rfl⟩))
  ·rw[l0p hm hl];exact hw m1 _ (.inr (.inr ⟨hm',hl,rfl,rfl⟩))
theorem r0e (w:World)(v u:Value)(p q:Rat)(hp:IsQ .i64 w v p)(hq:IsQ .i64 w u q)
 (h1:(limbs p.num.natAbs).length≤100000) (h2:(limbs p.den).length≤100000) (h3:(limbs q.num.natAbs).length≤100000) (h4:(limbs q.den).length≤100000):
 Calls Tryz.prog 60 #[v,u] w fun e w'=>n0n .i64 (p*q) e w'∧Below w.heap.size w w':=by
 have HQ:=hid (h0F p q);rw[← HQ.out];have hD:=hid (Nat.mul_pos p.den_pos q.den_pos);obtain⟨N1,D1,rfl,hn1,hd1⟩:=hp.ex;obtain⟨N2,D2,rfl,hn2,hd2⟩:=hq.ex;clear hp hq HQ;generalize decide (p.num<0)=m1 at *
 generalize decide (q.num<0)=m2 at *
 generalize p.num.natAbs=n1 at *
 generalize q.num.natAbs=n2 at *
 generalize p.den=d1 at *
 generalize q.den=d2 at *
 have HN1:=hid hn1;have HD1:=hid hd1;have HN2:=hid hn2;have HD2:=hid hd2;have L1:=hid (Nat.le_trans (a0S h1 h3) (show 100000+100000≤1000000 by omega));have L2:=hid (Nat.le_trans (a0S h2 h4) (show 100000+100000≤1000000 by omega));have H1:=hid (Nat.le_trans h1 (show 100000≤1000000 by omega));have H2:=hid (Nat.le_trans h2 (show 100000≤1000000 by omega));have H3:=hid (Nat.le_trans h3 (show 100000≤1000000 by omega));have H4:=hid (Nat.le_trans h4 (show 100000≤1000000 by omega));clear h1 h2 h3 h4;obtain⟨a1,c1,rfl,_⟩:=hn1.openI;obtain⟨a2,c2,rfl,_⟩:=hd1.openI;obtain⟨a3,c3,rfl,_⟩:=hn2.openI;obtain⟨a4,c4,rfl,_⟩:=hd2.openI;clear hn1 hd1 hn2 hd2;go_enter Tryz.func60,Tryz.ntmps60;go_wp2_with fail;obtain⟨W,hW⟩:∃ W,((w.alloc (.cells #[.bool m1,.slice a1 (limbs n1).length c1,.slice a2 (limbs d1).length c2] 100)).alloc (.cells #[.bool m2,.slice a3 (limbs n2).length c3,.slice a4 (limbs d2).length c4] 100)).alloc (.cells #[.bool false,.slice none 0 0,.slice none 0 0] 100)=W:=⟨_,rfl⟩;rw[hW];have X0:Below w.heap.size w W:=by rw[← hW];exact (((Below.refl _ _).alloc (Nat.le_refl _) _).alloc (by simp) _).alloc (by simp;omega) _
 have Y0:Blk W w.heap.size #[.bool m1,.slice a1 (limbs n1).length c1,.slice a2 (limbs d1).length c2] 100:=by rw[← hW];exact ((Blk.new w _ _).alloc _).alloc _
 have Y1:Blk W (w.heap.size+1) #[.bool m2,.slice a3 (limbs n2).length c3,.slice a4 (limbs d2).length c4] 100:=by rw[← hW];exact (Blk.made (w.alloc _) _ _ (by simp)).alloc _
 have Y2:Blk W (w.heap.size+1+1) #[.bool false,.slice none 0 0,.slice none 0 0] 100:=by rw[← hW];exact Blk.made ((w.alloc _).alloc _) _ _ (by simp)
 have K0:∀ w',Blk w' w.heap.size #[.bool m1,.slice a1 (limbs n1).length c1,.slice a2 (limbs d1).length c2] 100→Blk w' (w.heap.size+1) #[.bool m2,.slice a3 (limbs n2).length c3,.slice a4 (limbs d2).length c4] 100 →
  w'.cell? ⟨w.heap.size,0,none⟩=some (.bool m1)∧w'.cell? ⟨w.heap.size,1,none⟩=some (.slice a1 (limbs n1).length c1)∧w'.cell? ⟨w.heap.size,2,none⟩=some (.slice a2 (limbs d1).length c2) ∧
  w'.cell? ⟨w.heap.size+1,0,none⟩=some (.bool m2)∧w'.cell? ⟨w.heap.size+1,1,none⟩=some (.slice a3 (limbs n2).length c3)∧w'.cell? ⟨w.heap.size+1,2,none⟩=some (.slice a4 (limbs d2).length c4):=
  fun w' y0 y1=>⟨y0.cell 0,y0.cell 1,y0.cell 2,y1.cell 0,y1.cell 1,y1.cell 2⟩
 have K:Hid (∀ w',Below W.heap.size W w'→w'.cell? ⟨w.heap.size,0,none⟩=some (.bool m1)∧w'.cell? ⟨w.heap.size,1,none⟩=some (.slice a1 (limbs n1).length c1)∧w'.cell? ⟨w.heap.size,2,none⟩=some (.slice a2 (limbs d1).length c2) ∧
  w'.cell? ⟨w.heap.size+1,0,none⟩=some (.bool m2)∧w'.cell? ⟨w.heap.size+1,1,none⟩=some (.slice a3 (limbs n2).length c3)∧w'.cell? ⟨w.heap.size+1,2,none⟩=some (.slice a4 (limbs d2).length c4)):=fun w' hb=>K0 w' (Y0.call hb) (Y1.call hb)
 have K2:Hid (∀ w1 x y z,Below W.heap.size W w1→∀ w',((w1.setCell ⟨w.heap.size+1+1,0,none⟩ x).setCell ⟨w.heap.size+1+1,1,none⟩ y).setCell ⟨w.heap.size+1+1,2,none⟩ z=w'→w'.cell? ⟨w.heap.size,0,none⟩=some (.bool m1)∧w'.cell? ⟨w.heap.size,1,none⟩=some (.slice a1 (limbs n1).length c1)∧w'.cell? ⟨w.heap.size,2,none⟩=some (.slice a2 (limbs d1).length c2) ∧
  w'.cell? ⟨w.heap.size+1,0,none⟩=some (.bool m2)∧w'.cell? ⟨w.heap.size+1,1,none⟩=some (.slice a3 (limbs n2).length c3)∧w'.cell? ⟨w.heap.size+1,2,none⟩=some (.slice a4 (limbs d2).length c4)):=by
  rintro w1 x y z hb _ rfl;exact K0 _ ((((Y0.call hb).other (by simp;omega) _).other (by simp;omega) _).other (by simp;omega) _) ((((Y1.call hb).other (by simp) _).other (by simp) _).other (by simp) _)
 have HY2:=hid Y2;have HX0:=hid X0;obtain⟨k0,k1,k2,k3,k4,k5⟩:=K W (Below.refl _ _);clear K0;clear Y0 Y1 Y2 X0 hW;have XN1:=hid (HN1.out.call HX0.out);have XD1:=hid (HD1.out.call HX0.out);have XN2:=hid (HN2.out.call HX0.out);have XD2:=hid (HD2.out.call HX0.out)
 go_region_held3 (fun w'=>w'.cell? ⟨w.heap.size,0,none⟩=some (.bool m1)∧w'.cell? ⟨w.heap.size,1,none⟩=some (.slice a1 (limbs n1).length c1)∧w'.cell? ⟨w.heap.size,2,none⟩=some (.slice a2 (limbs d1).length c2) ∧
  w'.cell? ⟨w.heap.size+1,0,none⟩=some (.bool m2)∧w'.cell? ⟨w.heap.size+1,1,none⟩=some (.slice a3 (limbs n2).length c3)∧w'.cell? ⟨w.heap.size+1,2,none⟩=some (.slice a4 (limbs d2).length c4))
  (first
   | exact K.out _ (Below.refl _ _).drew
   | exact K2.out _ _ _ _ B3.out _ rfl
   | exact K.out _ B3.out
   | exact K.out _ B2.out
   | exact K.out _ B1.out)
  (first
   | (go_at_call_of 132 (Value.slice a1 (limbs n1).length c1);refine (b0y _ _ _ n1 n2 (XN1.out.call (by first | exact B2.out | exact (Below.refl _ _).drew)) (XN2.out.call (by first | exact B2.out | exact (Below.refl _ _).drew)) H1.out H3.out).mono ?_;rintro e w1 ⟨⟨v1,rfl,hv1⟩,hb1⟩;have B1:=hid (a0a (by first | exact B2.out | exact (Below.refl _ _).drew) hb1))
   | (go_at_call_of 132 (Value.slice a2 (limbs d1).length c2);refine (b0y _ _ _ d1 d2 (XD1.out.call (by first | exact B1.out | exact (Below.refl _ _).drew)) (XD2.out.call (by first | exact B1.out | exact (Below.refl _ _).drew)) H2.out H4.out).mono ?_;rintro e w2 ⟨⟨v2,rfl,hv2⟩,hb2⟩;have B2:=hid (a0a (by first | exact B1.out | exact (Below.refl _ _).drew) hb2))
   | (go_at_call 131;refine (e0x _ _ _ _ (n1*n2) (d1*d2) (by first | exact hv1 | exact hv1.call hb2) (by first | exact hv2 | exact hv2.call hb1) hD.out L1.out L2.out).mono ?_;rintro e w3 ⟨⟨v3,rfl,hv3⟩,hb3⟩;obtain⟨N3,D3,rfl,hN3,hD3⟩:=hv3.ex;have B3:=hid (a0a (by first | exact B2.out | exact B1.out) hb3);obtain⟨a5,c5,rfl,_⟩:=hN3.openI;obtain⟨a6,c6,rfl,_⟩:=hD3.openI;have HN3:=hid hN3;have HD3:=hid hD3;have Z:=hid (HY2.out.call B3.out);have t0:=Z.out.cell 0;have t1:=Z.out.cell 1;have t2:=Z.out.cell 2;have t3:=Z.out.free 0;have t4:=Z.out.free 1;have t5:=Z.out.free 2;clear hv3 hN3 hD3))
 have hbn:(!(m1==m2))=(m1 != m2):=rfl;rw[hbn]at *;go_wp2_with fail;obtain⟨s1,s2⟩:=c0c Z.out (decide ((qmk (m1 != m2) (n1*n2) (d1*d2)).num<0)) a5 a6 (limbs (qmk (m1 != m2) (n1*n2) (d1*d2)).num.natAbs).length c5 (limbs (qmk (m1 != m2) (n1*n2) (d1*d2)).den).length c6;have f0:=s2.cell 0;have f1:=s2.cell 1;have f2:=s2.cell 2;simp at f0 f1 f2;refine bodyPost_ret (v:=.agg #[.bool (decide ((qmk (m1 != m2) (n1*n2) (d1*d2)).num<0)),.slice a5 (limbs (qmk (m1 != m2) (n1*n2) (d1*d2)).num.natAbs).length c5,.slice a6 (limbs (qmk (m1 != m2) (n1*n2) (d1*d2)).den).length c6]) (by simp[results,Tryz.results60,go_sem,f0,f1,f2]) rfl ⟨⟨_,rfl,⟨_,_,rfl,s1 _ _ _ HN3.out,s1 _ _ _ HD3.out⟩⟩,?_⟩;exact (((HX0.out.trans (B3.out.mono (Nat.le_trans (Nat.le_refl _) HX0.out.size))).setCell (by simp;omega) _).setCell (by simp;omega) _).setCell (by simp;omega) _
open Go.Lib (decDigits nDigits)
def Qv (v:Value):Prop:=∃ (m:Bool) (a:Option Addr) (n c:Nat) (a':Option Addr) (n' c':Nat),v=.agg #[.bool m,.slice a n c,.slice a' n' c']
theorem IsQ.qv {k:IntKind}{w:World}{v:Value}{q:Rat}(h:IsQ k w v q):Qv v:=by
 obtain⟨N,D,rfl,h1,h2⟩:=h.ex;obtain⟨a1,c1,rfl,_⟩:=h1.openI;obtain⟨a2,c2,rfl,_⟩:=h2.openI;exact⟨_,_,_,_,_,_,_,rfl⟩
theorem RetQE.open {s:ByteArray}{e:Ending}{w':World}(h:RetQE s e w'):∃ (m:Bool) (a:Option Addr) (n c:Nat) (a':Option Addr) (n' c':Nat),e=.returned (.tuple #[.agg #[.bool m,.slice a n c,.slice a' n' c'],.int .i64 (qE s)])∧(qE s=0→IsQ .i64 w' (.agg #[.bool m,.slice a n c,.slice a' n' c']) (vQ s))∧(qE s≠0→m=false∧a=none∧n=0∧c=0∧a'=none∧n'=0∧c'=0):=by
 obtain⟨v,rfl,h1,h2⟩:=h;by_cases h0:qE s=0
 ·obtain⟨m,a,n,c,a',n',c',rfl⟩:=(h1 h0).qv;exact⟨m,a,n,c,a',n',c',rfl,h1,fun h=>absurd h0 h⟩
 ·obtain rfl:=h2 h0;exact⟨_,_,_,_,_,_,_,rfl,h1,fun _=>⟨rfl,rfl,rfl,rfl,rfl,rfl,rfl⟩⟩
theorem IsQ.keep {k:IntKind}{w w':World}{v:Value}{q:Rat}(h:IsQ k w v q)(f:∀ k v x,IsN k w v x→IsN k w' v x):IsQ k w' v q:=by
 obtain⟨N,D,rfl,h1,h2⟩:=h.ex;exact⟨N,D,rfl,f _ _ _ h1,f _ _ _ h2⟩
theorem IsN.drew {k:IntKind}{w:World}{v:Value}{n:Nat}(h:IsN k w v n):IsN k w.drew v n:=Row.drew h
def w0Y (s t:ByteArray)(e:Ending)(w':World):Prop:=∃ (m:Bool) (a:Option Addr) (n c:Nat) (a':Option Addr) (n' c':Nat) (m2:Bool) (b:Option Addr) (j d:Nat) (b':Option Addr) (j' d':Nat),
 e=.returned (.tuple #[.agg #[.bool m,.slice a n c,.slice a' n' c'],.agg #[.bool m2,.slice b j d,.slice b' j' d'],.int .i64 (if qE s=0 then qE t else qE s)]) ∧
 (qE s=0→qE t=0→IsQ .i64 w' (.agg #[.bool m,.slice a n c,.slice a' n' c']) (vQ s)∧IsQ .i64 w' (.agg #[.bool m2,.slice b j d,.slice b' j' d']) (vQ t))
theorem l0v (w:World)(s t:ByteArray)(hs:s.size≤1000000)(ht:t.size≤1000000):
 Calls Tryz.prog 58 #[.string s,.string t] w fun e w'=>w0Y s t e w'∧Below w.heap.size w w':=by
 have R1:=fun V=>hid (o0o V s hs)
 have R2:=fun V=>hid (o0o V t ht)
 have t0:=hid (Blk.new w #[.bool false,.slice none 0 0,.slice none 0 0] 100);have t1:=hid ((Below.refl w.heap.size w).alloc (Nat.le_refl _) (.cells #[.bool false,.slice none 0 0,.slice none 0 0] 100));have u0:=hid ((Blk.new w #[.bool false,.slice none 0 0,.slice none 0 0] 100).alloc (.cells #[.bool false,.slice none 0 0,.slice none 0 0] 100));have u1:=hid (Blk.made (w.alloc (.cells #[.bool false,.slice none 0 0,.slice none 0 0] 100)) #[.bool false,.slice none 0 0,.slice none 0 0] 100 (n:=w.heap.size+1) (by simp));have u2:=hid (t1.out.alloc (by simp) (.cells #[.bool false,.slice none 0 0,.slice none 0 0] 100));clear hs ht t0 t1;go_enter Tryz.func58,Tryz.ntmps58;go_wp2_with fail;refine (R1 _).out.mono ?_;rintro e w1 ⟨hr1,hb1⟩;obtain⟨m,a,n,c,a',n',c',rfl,h1,h2⟩:=hr1.open;have v0:=hid (u0.out.call hb1);have v1:=hid (u1.out.call hb1);have v2:=hid (a0a u2.out hb1);have l1:=v1.out.lt;have n1:(w1.heap.size=w.heap.size)=False:=by simp;omega
 have n2:(w.heap.size=w1.heap.size)=False:=by simp;omega
 have n3:(w1.heap.size=w.heap.size+1)=False:=by simp;omega
 have n4:(w.heap.size+1=w1.heap.size)=False:=by simp;omega
 obtain⟨x,hx⟩:∃ x,qE s=x:=⟨_,rfl⟩;have HXX:=hid hx;by_cases h0:x=0
 ·subst h0;rw[hx];have Q1:=hid (h1 hx);clear h1 h2 hr1 hb1 R1 hx;have X7:=hid (Blk.new w1 #[.bool m,.slice a n c,.slice a' n' c'] 100);have b7:=hid ((Below.refl w1.heap.size w1).alloc (Nat.le_refl _) (.cells #[.bool m,.slice a n c,.slice a' n' c'] 100));have x0:=hid (v0.out.call b7.out);have x1:=hid (v1.out.call b7.out);have x2:=hid (a0a v2.out b7.out);have Q2:=hid (Q1.out.call b7.out);clear v0 v1 v2 Q1 b7;go_wp2_with fail;refine (R2 _).out.mono ?_;rintro e w2 ⟨hr2,hb2⟩;obtain⟨m2,b,j,d,b',j',d',rfl,k1,k2⟩:=hr2.open;have y0:=hid (x0.out.call hb2);have y1:=hid (x1.out.call hb2);have y2:=hid (a0a x2.out hb2);have y7:=hid (X7.out.call hb2);have Q3:=hid (Q2.out.call hb2);have K1:=hid k1;clear x0 x1 x2 X7 Q2 hb2 hr2 k1 k2 R2;have l2:=y7.out.lt;have n5:(w2.heap.size=w.heap.size)=False:=by simp;omega
  have n6:(w.heap.size=w2.heap.size)=False:=by simp;omega
  have n7:(w2.heap.size=w.heap.size+1)=False:=by simp;omega
  have n8:(w.heap.size+1=w2.heap.size)=False:=by simp;omega
  clear l1 l2;obtain⟨z,hz⟩:∃ z,qE t=z:=⟨_,rfl⟩;have HZ:=hid hz;rw[hz];clear hz;have X9:=hid (Blk.new w2 #[.bool m2,.slice b j d,.slice b' j' d'] 100);have b9:=hid ((Below.refl w2.heap.size w2).alloc (Nat.le_refl _) (.cells #[.bool m2,.slice b j d,.slice b' j' d'] 100));have z0:=hid (y0.out.call b9.out);have z1:=hid (y1.out.call b9.out);have z2:=hid (a0a y2.out b9.out);have z7:=hid (y7.out.call b9.out);have Q4:=hid (Q3.out.call b9.out);have K2:=fun h=>hid ((K1.out h).call b9.out)
  clear y0 y1 y2 y7 Q3 b9 K1;have HH1:=z0.out.cell 0;have HH2:=z0.out.cell 1;have HH3:=z0.out.cell 2;have HH4:=z0.out.free 0;have HH5:=z0.out.free 1;have HH6:=z0.out.free 2;have KK1:=z1.out.cell 0;have KK2:=z1.out.cell 1;have KK3:=z1.out.cell 2;have KK4:=z1.out.free 0;have KK5:=z1.out.free 1;have KK6:=z1.out.free 2;have JJ1:=z7.out.cell 0;have JJ2:=z7.out.cell 1;have JJ3:=z7.out.cell 2;simp at HH1 HH2 HH3 KK1 KK2 KK3 JJ1 JJ2 JJ3;have II1:=X9.out.cell 0;have II2:=X9.out.cell 1;have II3:=X9.out.cell 2;simp at II1 II2 II3;go_wp2_with fail
  go_region
  obtain⟨p1,p2⟩:=c0c z0.out m a a' n c n' c';have r1:=((z1.out.other (a:=⟨w.heap.size,0,none⟩) (by simp) (.bool m)).other (a:=⟨w.heap.size,1,none⟩) (by simp) (.slice a n c)).other (a:=⟨w.heap.size,2,none⟩) (by simp) (.slice a' n' c');obtain⟨p3,p4⟩:=c0c r1 m2 b b' j d j' d';have p5:=((p2.other (a:=⟨w.heap.size+1,0,none⟩) (by simp) (.bool m2)).other (a:=⟨w.heap.size+1,1,none⟩) (by simp) (.slice b j d)).other (a:=⟨w.heap.size+1,2,none⟩) (by simp) (.slice b' j' d');have f0:=p5.drew.cell 0;have f1:=p5.drew.cell 1;have f2:=p5.drew.cell 2;have g0:=p4.drew.cell 0;have g1:=p4.drew.cell 1;have g2:=p4.drew.cell 2;simp at f0 f1 f2 g0 g1 g2;go_wp2_with fail;refine bodyPost_ret (v:=.tuple #[.agg #[.bool m,.slice a n c,.slice a' n' c'],.agg #[.bool m2,.slice b j d,.slice b' j' d'],.int .i64 z]) (by simp[results,Tryz.results58,go_sem,f0,f1,f2,g0,g1,g2]) rfl ⟨⟨m,a,n,c,a',n',c',m2,b,j,d,b',j',d',by rw[if_pos HXX.out,HZ.out],fun h1 h2=>⟨(Q4.out.keep fun k v x h=>(p3 _ _ _ (p1 _ _ _ h)).drew),((K2 h2).out.keep fun k v x h=>(p3 _ _ _ (p1 _ _ _ h)).drew)⟩⟩,?_⟩;exact ((((((z2.out.setCell (Nat.le_refl _) _).setCell (Nat.le_refl _) _).setCell (Nat.le_refl _) _).setCell (Nat.le_succ _) _).setCell (Nat.le_succ _) _).setCell (Nat.le_succ _) _).drew
 ·rw[hx];have q0:(x != 0)=true:=by simpa using h0
  obtain⟨rfl,rfl,rfl,rfl,rfl,rfl,rfl⟩:=h2 (by rw[hx];exact h0);have H0:=hid h0;clear h1 h2 hr1 hb1 R1 R2 hx h0;have X7:=hid (Blk.new w1 #[.bool false,.slice none 0 0,.slice none 0 0] 100);have b7:=hid ((Below.refl w1.heap.size w1).alloc (Nat.le_refl _) (.cells #[.bool false,.slice none 0 0,.slice none 0 0] 100));have x0:=hid (v0.out.call b7.out);have x1:=hid (v1.out.call b7.out);have x2:=hid (a0a v2.out b7.out);clear v0 v1 v2 b7;have HH1:=x0.out.cell 0;have HH2:=x0.out.cell 1;have HH3:=x0.out.cell 2;have HH4:=x0.out.free 0;have HH5:=x0.out.free 1;have HH6:=x0.out.free 2;have KK1:=x1.out.cell 0;have KK2:=x1.out.cell 1;have KK3:=x1.out.cell 2;have KK4:=x1.out.free 0;have KK5:=x1.out.free 1;have KK6:=x1.out.free 2;have JJ1:=X7.out.cell 0;have JJ2:=X7.out.cell 1;have JJ3:=X7.out.cell 2;simp at HH1 HH2 HH3 KK1 KK2 KK3 JJ1 JJ2 JJ3;go_wp2_with fail
  go_region
  obtain⟨p1,p2⟩:=c0c x0.out false none none 0 0 0 0;have r1:=((x1.out.other (a:=⟨w.heap.size,0,none⟩) (by simp) (.bool false)).other (a:=⟨w.heap.size,1,none⟩) (by simp) (.slice none 0 0)).other (a:=⟨w.heap.size,2,none⟩) (by simp) (.slice none 0 0);obtain⟨p3,p4⟩:=c0c r1 false none none 0 0 0 0;have p5:=((p2.other (a:=⟨w.heap.size+1,0,none⟩) (by simp) (.bool false)).other (a:=⟨w.heap.size+1,1,none⟩) (by simp) (.slice none 0 0)).other (a:=⟨w.heap.size+1,2,none⟩) (by simp) (.slice none 0 0);have f0:=p5.drew.cell 0;have f1:=p5.drew.cell 1;have f2:=p5.drew.cell 2;have g0:=p4.drew.cell 0;have g1:=p4.drew.cell 1;have g2:=p4.drew.cell 2;simp at f0 f1 f2 g0 g1 g2;go_wp2_with fail;refine bodyPost_ret (v:=.tuple #[.agg #[.bool false,.slice none 0 0,.slice none 0 0],.agg #[.bool false,.slice none 0 0,.slice none 0 0],.int .i64 x]) (by simp[results,Tryz.results58,go_sem,f0,f1,f2,g0,g1,g2]) rfl ⟨⟨false,none,0,0,none,0,0,false,none,0,0,none,0,0,by rw[if_neg (by rw[HXX.out];exact H0.out),HXX.out],fun h1=>absurd (HXX.out.symm.trans h1) H0.out⟩,?_⟩;exact ((((((x2.out.setCell (Nat.le_refl _) _).setCell (Nat.le_refl _) _).setCell (Nat.le_refl _) _).setCell (Nat.le_succ _) _).setCell (Nat.le_succ _) _).setCell (Nat.le_succ _) _).drew
theorem w0K {q:Rat}{K:Nat}(h1:nDigits q.num.natAbs≤K)(h2:nDigits q.den≤K):Dig K q:=
 ⟨Nat.lt_of_lt_of_le (Go.Lib.lt_pow_nDigits _) (Nat.pow_le_pow_right (by omega) h1),Nat.lt_of_lt_of_le (Go.Lib.lt_pow_nDigits _) (Nat.pow_le_pow_right (by omega) h2)⟩
theorem b0h {q:Rat}(h:¬ ovQ q):Dig 4000 q:=by
 unfold ovQ at h;exact w0K (by omega) (by omega)
theorem Dig.limbs {K L:Nat}{q:Rat}(h:Dig K q)(h0:0<K)(hl:K≤9*L):(limbs q.num.natAbs).length≤L∧(limbs q.den).length≤L:=
 ⟨d0g (Nat.le_trans (a0j h0 h.n) hl),d0g (Nat.le_trans (a0j h0 h.d) hl)⟩
def x0Q (F:Nat)(f:Rat→Rat→Rat):Prop:=∀ (w:World) (v u:Value) (p q:Rat),IsQ .i64 w v p→IsQ .i64 w u q→Dig 4000 p→Dig 4000 q →
 Calls Tryz.prog F #[v,u] w fun e w'=>n0n .i64 (f p q) e w'∧Below w.heap.size w w'
theorem k0v:x0Q 82 (· + ·):=fun w v u p q hp hq h1 h2=>by
 have l1:=h1.limbs (L:=100000) (by omega) (by omega);have l2:=h2.limbs (L:=100000) (by omega) (by omega);exact t0N w v u p q hp hq l1.1 l1.2 l2.1 l2.2
theorem r0q:x0Q 60 (· * ·):=fun w v u p q hp hq h1 h2=>by
 have l1:=h1.limbs (L:=100000) (by omega) (by omega);have l2:=h2.limbs (L:=100000) (by omega) (by omega);exact r0e w v u p q hp hq l1.1 l1.2 l2.1 l2.2
theorem v0L (w:World)(s t:ByteArray)(hs:s.size≤1000000)(ht:t.size≤1000000):
 Calls Tryz.prog 67 #[.string s,.string t] w fun e w'=>e=.returned (.tuple #[.string (b0b (· + ·) s t),.int .i64 (d0b (· + ·) s t)])∧Below w.heap.size w w':=by
 have R1:=fun V=>hid (l0v V s t hs ht)
 clear hs ht;by_cases h0:qE s=0∧qE t=0
 ·have eB:b0b (· + ·) s t=c0I (vQ s+vQ t):=by rw[b0b,if_pos h0]
  have eE:d0b (· + ·) s t=c0U (vQ s+vQ t):=by rw[d0b,if_pos h0.1,if_pos h0.2]
  rw[eB,eE];have ds:=b0h (c0W h0.1);have dt:=b0h (c0W h0.2);have dl:=hid ((p0P ds dt).limbs (L:=1000000) (by omega) (by omega));have HO:=fun V v u hp hq=>hid (k0v V v u (vQ s) (vQ t) hp hq ds dt)
  have HW:=fun V v h=>hid (h0A V v (vQ s+vQ t) h dl.out.1 dl.out.2)
  obtain⟨oB,hB⟩:∃ x,c0I (vQ s+vQ t)=x:=⟨_,rfl⟩;obtain⟨oE,hE⟩:∃ x,c0U (vQ s+vQ t)=x:=⟨_,rfl⟩;rw[hB,hE]at HW;rw[hB,hE];have H0:=hid h0;clear eB eE ds dt dl hB hE h0;go_enter Tryz.func67,Tryz.ntmps67;go_wp2_with fail;refine (R1 _).out.mono ?_;rintro e w1 ⟨⟨m,a,n,c,a',n',c',m2,b,j,d,b',j',d',rfl,hq⟩,hb1⟩;obtain⟨q1,q2⟩:=hq H0.out.1 H0.out.2;rw[if_pos H0.out.1,H0.out.2];have b0:=((Below.refl w1.heap.size w1).alloc (Nat.le_refl _) (.cells #[.bool m,.slice a n c,.slice a' n' c'] 100)).alloc (by simp) (.cells #[.bool m2,.slice b j d,.slice b' j' d'] 100);have y2:=hid (a0a hb1 b0);have H1:=HO _ _ _ (q1.call b0) (q2.call b0);clear hb1 q1 q2 hq b0 HO R1;go_wp2_with fail;refine H1.out.mono ?_;rintro e w2 ⟨⟨v,rfl,hv⟩,hb2⟩;have y3:=hid (a0a y2.out hb2);have H2:=HW _ _ hv;obtain⟨m3,a3,n3,c3,a4,n4,c4,rfl⟩:=hv.qv;clear hv hb2 HW H1;go_wp2_with fail;refine H2.out.mono ?_;rintro e w3 ⟨rfl,hb3⟩;have y4:=hid (a0a y3.out hb3);clear hb3 H2;go_wp2_with fail;go_ret2
  exact⟨rfl,y4.out⟩
 ·have n0:(if qE s=0 then qE t else qE s)≠0:=by
   split
   ·rename_i h;exact fun e=>h0 ⟨h,e⟩
   ·rename_i h;exact h
  have eB:b0b (· + ·) s t=⟨#[]⟩:=by rw[b0b,if_neg h0]
  have eE:d0b (· + ·) s t=if qE s=0 then qE t else qE s:=by
   rw[d0b]
   split
   ·rename_i h;rw[if_neg (fun e=>h0 ⟨h,e⟩)]
   ·rfl
  rw[eB,eE];obtain⟨x,hx⟩:∃ x,(if qE s=0 then qE t else qE s)=x:=⟨_,rfl⟩;rw[hx]at n0 ⊢;have q0:(x != 0)=true:=by simpa using n0
  have HX:=hid hx;clear h0 n0 eB eE hx;go_enter Tryz.func67,Tryz.ntmps67;go_wp2_with fail;refine (R1 _).out.mono ?_;rintro e w1 ⟨⟨m,a,n,c,a',n',c',m2,b,j,d,b',j',d',rfl,-⟩,hb1⟩;rw[HX.out];have y1:=hid hb1;have y2:=hid ((hb1.alloc hb1.size (.cells #[.bool m,.slice a n c,.slice a' n' c'] 100)).alloc (Nat.le_trans hb1.size (by simp)) (.cells #[.bool m2,.slice b j d,.slice b' j' d'] 100));clear hb1;go_wp2_with fail;go_ret2
  exact⟨rfl,y2.out⟩
theorem s0F (w:World)(s t:ByteArray)(hs:s.size≤1000000)(ht:t.size≤1000000):
 Calls Tryz.prog 16 #[.string s,.string t] w fun e w'=>e=.returned (.tuple #[.string (b0b (· * ·) s t),.int .i64 (d0b (· * ·) s t)])∧Below w.heap.size w w':=by
 have R1:=fun V=>hid (l0v V s t hs ht)
 clear hs ht;by_cases h0:qE s=0∧qE t=0
 ·have eB:b0b (· * ·) s t=c0I (vQ s*vQ t):=by rw[b0b,if_pos h0]
  have eE:d0b (· * ·) s t=c0U (vQ s*vQ t):=by rw[d0b,if_pos h0.1,if_pos h0.2]
  rw[eB,eE];have ds:=b0h (c0W h0.1);have dt:=b0h (c0W h0.2);have dl:=hid ((u0F ds dt).limbs (L:=1000000) (by omega) (by omega));have HO:=fun V v u hp hq=>hid (r0q V v u (vQ s) (vQ t) hp hq ds dt)
  have HW:=fun V v h=>hid (h0A V v (vQ s*vQ t) h dl.out.1 dl.out.2)
  obtain⟨oB,hB⟩:∃ x,c0I (vQ s*vQ t)=x:=⟨_,rfl⟩;obtain⟨oE,hE⟩:∃ x,c0U (vQ s*vQ t)=x:=⟨_,rfl⟩;rw[hB,hE]at HW;rw[hB,hE];have H0:=hid h0;clear eB eE ds dt dl hB hE h0;go_enter Tryz.func16,Tryz.ntmps16;go_wp2_with fail;refine (R1 _).out.mono ?_;rintro e w1 ⟨⟨m,a,n,c,a',n',c',m2,b,j,d,b',j',d',rfl,hq⟩,hb1⟩;obtain⟨q1,q2⟩:=hq H0.out.1 H0.out.2;rw[if_pos H0.out.1,H0.out.2];have b0:=((Below.refl w1.heap.size w1).alloc (Nat.le_refl _) (.cells #[.bool m,.slice a n c,.slice a' n' c'] 100)).alloc (by simp) (.cells #[.bool m2,.slice b j d,.slice b' j' d'] 100);have y2:=hid (a0a hb1 b0);have H1:=HO _ _ _ (q1.call b0) (q2.call b0);clear hb1 q1 q2 hq b0 HO R1;go_wp2_with fail;refine H1.out.mono ?_;rintro e w2 ⟨⟨v,rfl,hv⟩,hb2⟩;have y3:=hid (a0a y2.out hb2);have H2:=HW _ _ hv;obtain⟨m3,a3,n3,c3,a4,n4,c4,rfl⟩:=hv.qv;clear hv hb2 HW H1;go_wp2_with fail;refine H2.out.mono ?_;rintro e w3 ⟨rfl,hb3⟩;have y4:=hid (a0a y3.out hb3);clear hb3 H2;go_wp2_with fail;go_ret2
  exact⟨rfl,y4.out⟩
 ·have n0:(if qE s=0 then qE t else qE s)≠0:=by
   split
   ·rename_i h;exact fun e=>h0 ⟨h,e⟩
   ·rename_i h;exact h
  have eB:b0b (· * ·) s t=⟨#[]⟩:=by rw[b0b,if_neg h0]
  have eE:d0b (· * ·) s t=if qE s=0 then qE t else qE s:=by
   rw[d0b]
   split
   ·rename_i h;rw[if_neg (fun e=>h0 ⟨h,e⟩)]
   ·rfl
  rw[eB,eE];obtain⟨x,hx⟩:∃ x,(if qE s=0 then qE t else qE s)=x:=⟨_,rfl⟩;rw[hx]at n0 ⊢;have q0:(x != 0)=true:=by simpa using n0
  have HX:=hid hx;clear h0 n0 eB eE hx;go_enter Tryz.func16,Tryz.ntmps16;go_wp2_with fail;refine (R1 _).out.mono ?_;rintro e w1 ⟨⟨m,a,n,c,a',n',c',m2,b,j,d,b',j',d',rfl,-⟩,hb1⟩;rw[HX.out];have y1:=hid hb1;have y2:=hid ((hb1.alloc hb1.size (.cells #[.bool m,.slice a n c,.slice a' n' c'] 100)).alloc (Nat.le_trans hb1.size (by simp)) (.cells #[.bool m2,.slice b j d,.slice b' j' d'] 100));clear hb1;go_wp2_with fail;go_ret2
  exact⟨rfl,y2.out⟩
theorem r0g (w:World)(v u:Value)(p q:Rat)(hp:IsQ .i64 w v p)(hq:IsQ .i64 w u q)(dp:Dig 4000 p)(dq:Dig 4000 q):
 Calls Tryz.prog 61 #[v,u] w fun e w'=>e=.returned (.int .i64 (q0r p q))∧Below w.heap.size w w':=by
 have HO:=fun V v u hp hq=>hid (k0v V v u p (-q) hp hq dp (p0N dq))
 have HG:=fun V v h=>hid (f0O V v q h)
 have HP:=hid hp;have HQ:=hid hq;obtain⟨m,a,n,c,a',n',c',rfl⟩:=hp.qv;obtain⟨m2,b,j,d,b',j',d',rfl⟩:=hq.qv;rw[show q0r p q=q0q (p + -q) by rw[q0r,Rat.sub_eq_add_neg]];obtain⟨z,hz⟩:∃ z,p + -q=z:=⟨_,rfl⟩;simp only[hz]at HO;rw[hz];clear hp hq dp dq hz;go_enter Tryz.func61,Tryz.ntmps61
 go_upto_region 1 with fail
 obtain⟨W,hW⟩:∃ W,(w.alloc (.cells #[.bool m,.slice a n c,.slice a' n' c'] 100)).alloc (.cells #[.bool m2,.slice b j d,.slice b' j' d'] 100)=W:=⟨_,rfl⟩;have Y0:Blk W w.heap.size #[.bool m,.slice a n c,.slice a' n' c'] 100:=by rw[← hW];exact (Blk.new w _ _).alloc _
 have Y1:Blk W (w.heap.size+1) #[.bool m2,.slice b j d,.slice b' j' d'] 100:=by rw[← hW];exact Blk.made _ _ _ (by simp)
 have y0:Below w.heap.size w W:=by rw[← hW];exact ((Below.refl _ _).alloc (Nat.le_refl _) _).alloc (by simp) _
 rw[hW];have KK:Hid (∀ w',Below W.heap.size W w'→w'.cell? ⟨w.heap.size,0,none⟩=some (.bool m)∧w'.cell? ⟨w.heap.size,1,none⟩=some (.slice a n c)∧w'.cell? ⟨w.heap.size,2,none⟩=some (.slice a' n' c')∧w'.cell? ⟨w.heap.size+1,0,none⟩=some (.bool m2)∧w'.cell? ⟨w.heap.size+1,1,none⟩=some (.slice b j d)∧w'.cell? ⟨w.heap.size+1,2,none⟩=some (.slice b' j' d')):=fun w' hb=>
  ⟨(Y0.call hb).cell 0,(Y0.call hb).cell 1,(Y0.call hb).cell 2,(Y1.call hb).cell 0,(Y1.call hb).cell 1,(Y1.call hb).cell 2⟩
 have Q1:=hid (HP.out.call y0);have Q2:=hid (HQ.out.call y0);have HY:=hid y0;clear Y0 Y1 y0 hW
 go_cut [5] (fun s5 wx=>∃ (g:Nat) (a5:Option Addr) (n5 c5:Nat) (a6:Option Addr) (n6 c6:Nat),s5=.pointer (some ⟨g,0,none⟩)∧Hid (Blk wx g #[.bool (decide (z.num<0)),.slice a5 n5 c5,.slice a6 n6 c6] 100)∧Hid (n5=(limbs z.num.natAbs).length)∧Hid (Below W.heap.size W wx))
 case first=>
  refine a0n [0,1] 4 (fun w'=>w'.cell? ⟨w.heap.size,0,none⟩=some (.bool m)∧w'.cell? ⟨w.heap.size,1,none⟩=some (.slice a n c)∧w'.cell? ⟨w.heap.size,2,none⟩=some (.slice a' n' c')∧w'.cell? ⟨w.heap.size+1,0,none⟩=some (.bool m2)∧w'.cell? ⟨w.heap.size+1,1,none⟩=some (.slice b j d)∧w'.cell? ⟨w.heap.size+1,2,none⟩=some (.slice b' j' d')) (by kernel_rfl) (by kernel_rfl) (by kernel_rfl) (by kernel_rfl) (KK.out _ (Below.refl _ _).drew) ?_
  iterate 2
   refine⟨_,rfl,?_⟩;apply Exists.intro
   refine⟨.inl ⟨by rfl,?_⟩,?_⟩
   ·(intro W' hW';obtain⟨q1,q2,q3,q4,q5,q6⟩:=hW';go_simp;try (with_reducible rfl))
   (dsimp only[Act.put];try simp only[List.setIfInBounds_toArray,List.set_cons_zero,List.set_cons_succ])
  refine e0I (i:=2) (j:=4) (by kernel_rfl) (by rfl) (by rfl) (by rfl) (by rfl) ?_ ?_
  ·go_wp2_with fail;refine (HG _ _ (Q2.out.call (Below.refl _ _).drew)).out.mono ?_;rintro e w3 ⟨⟨v3,rfl,hv3⟩,hb3⟩;have x3:=hid (show Below W.heap.size W w3 from (Below.refl _ _).drew.trans hb3);have N3:=hid hv3;obtain⟨m5,a5,n5,c5,a6,n6,c6,rfl⟩:=hv3.qv;clear hb3 hv3;go_wp2_with fail;refine⟨KK.out _ x3.out,?_⟩;refine e0I (i:=3) (j:=4) (by kernel_rfl) (by rfl) (by rfl) (by rfl) (by rfl) ?_ ?_
   ·go_wp2_with fail;refine (HO _ _ _ (Q1.out.call x3.out) N3.out).out.mono ?_;rintro e w4 ⟨⟨v4,rfl,hv4⟩,hb4⟩;have x4:=hid (a0a x3.out hb4);obtain⟨N,D,rfl,h1,h2⟩:=hv4.ex;obtain⟨a7,c7,rfl,-⟩:=h1.openI;obtain⟨a8,c8,rfl,-⟩:=h2.openI;clear hb4 hv4 h1 h2;go_wp2_with fail;refine⟨KK.out _ x4.out,?_⟩;refine a0c (i:=4) (by kernel_rfl) (by rfl) (by rfl) ?_;go_wp2_with fail;refine⟨KK.out _ (x4.out.alloc x4.out.size _),?_⟩;refine a0c (i:=5) (by kernel_rfl) (by rfl) (by rfl) ?_;go_wp2_with fail;refine⟨KK.out _ (x4.out.alloc x4.out.size _),?_⟩;refine wpAnyH_done (by kernel_rfl) ?_ _;simp only[b0l];go_wp2_with fail
    go_meet
    exact⟨_,_,_,_,_,_,_,rfl,Blk.new w4 _ _,rfl,x4.out.alloc x4.out.size _⟩
   ·go_wp2_with fail;have A3:=hid (x3.out.alloc x3.out.size (.cells #[.bool false,.slice none 0 0,.slice none 0 0] 100));have b3:=hid (Blk.new w3 #[.bool false,.slice none 0 0,.slice none 0 0] 100);have n3:=hid (N3.out.call ((Below.refl _ _).alloc (Nat.le_refl _) (.cells #[.bool false,.slice none 0 0,.slice none 0 0] 100)));refine⟨KK.out _ A3.out,?_⟩;refine a0c (i:=3) (by kernel_rfl) (by rfl) (by rfl) ?_;go_wp2_with fail;refine (HO _ _ _ (Q1.out.call A3.out) n3.out).out.mono ?_;rintro e w4 ⟨⟨v4,rfl,hv4⟩,hb4⟩;have x4:=hid (a0a A3.out hb4);have b4:=hid (b3.out.call hb4);obtain⟨N,D,rfl,h1,h2⟩:=hv4.ex;obtain⟨a7,c7,rfl,-⟩:=h1.openI;obtain⟨a8,c8,rfl,-⟩:=h2.openI;have t0:=b4.out.cell 0;have t1:=b4.out.cell 1;have t2:=b4.out.cell 2;have t3:=b4.out.free 0;have t4:=b4.out.free 1;have t5:=b4.out.free 2;simp at t0 t1 t2;have ge:=hid (show W.heap.size≤w3.heap.size from x3.out.size);obtain⟨k7,hk7⟩:∃ k,(limbs z.num.natAbs).length=k:=⟨_,rfl⟩;obtain⟨k8,hk8⟩:∃ k,(limbs z.den).length=k:=⟨_,rfl⟩;obtain⟨mz,hmz⟩:∃ m,decide (z.num<0)=m:=⟨_,rfl⟩;rw[hk7,hk8,hmz];have HK7:=hid hk7;have HMZ:=hid hmz;clear hb4 hv4 h1 h2 hk7 hk8 hmz;go_wp2_with fail;refine⟨KK.out _ x4.out,?_⟩;refine a0c (i:=5) (by kernel_rfl) (by rfl) (by rfl) ?_;go_wp2_with fail;obtain⟨s1,s2⟩:=c0c b4.out mz a7 a8 k7 c7 k8 c8;have x5:=hid (a0B (a0B (a0B x4.out (i:=0) ge.out (.bool mz)) (i:=1) ge.out (.slice a7 k7 c7)) (i:=2) ge.out (.slice a8 k8 c8));have S2:=hid s2;clear s1 s2 t0 t1 t2 t3 t4 t5;refine⟨KK.out _ x5.out,?_⟩;refine wpAnyH_done (by kernel_rfl) ?_ _;simp only[b0l];go_wp2_with fail
    go_meet
    exact⟨_,_,_,_,_,_,_,rfl,by rw[HMZ.out];exact S2,HK7.out.symm,x5⟩
  ·go_wp2_with fail;have A0:=hid (show Below W.heap.size W (W.alloc (.cells #[.bool false,.slice none 0 0,.slice none 0 0] 100)).drew from ((Below.refl _ _).alloc (Nat.le_refl _) _).drew);have b0:=hid (show Blk (W.alloc (.cells #[.bool false,.slice none 0 0,.slice none 0 0] 100)).drew W.heap.size #[.bool false,.slice none 0 0,.slice none 0 0] 100 from Blk.new W _ _);refine⟨KK.out _ A0.out,?_⟩;refine a0c (i:=2) (by kernel_rfl) (by rfl) (by rfl) ?_;go_wp2_with fail;refine (HG _ _ (Q2.out.call A0.out)).out.mono ?_;rintro e w3 ⟨⟨v3,rfl,hv3⟩,hb3⟩;have x3:=hid (A0.out.trans (hb3.mono A0.out.size));have b3:=hid (b0.out.call hb3);have N3:=hid hv3;obtain⟨m5,a5,n5,c5,a6,n6,c6,rfl⟩:=hv3.qv;clear hb3 hv3;go_wp2_with fail;refine⟨KK.out _ x3.out,?_⟩;refine a0c (i:=3) (by kernel_rfl) (by rfl) (by rfl) ?_;go_wp2_with fail;refine (HO _ _ _ (Q1.out.call x3.out) N3.out).out.mono ?_;rintro e w4 ⟨⟨v4,rfl,hv4⟩,hb4⟩;have x4:=hid (a0a x3.out hb4);have b4:=hid (b3.out.call hb4);obtain⟨N,D,rfl,h1,h2⟩:=hv4.ex;obtain⟨a7,c7,rfl,-⟩:=h1.openI;obtain⟨a8,c8,rfl,-⟩:=h2.openI;have t0:=b4.out.cell 0;have t1:=b4.out.cell 1;have t2:=b4.out.cell 2;have t3:=b4.out.free 0;have t4:=b4.out.free 1;have t5:=b4.out.free 2;simp at t0 t1 t2;have ge:=hid (Nat.le_refl W.heap.size);obtain⟨k7,hk7⟩:∃ k,(limbs z.num.natAbs).length=k:=⟨_,rfl⟩;obtain⟨k8,hk8⟩:∃ k,(limbs z.den).length=k:=⟨_,rfl⟩;obtain⟨mz,hmz⟩:∃ m,decide (z.num<0)=m:=⟨_,rfl⟩;rw[hk7,hk8,hmz];have HK7:=hid hk7;have HMZ:=hid hmz;clear hb4 hv4 h1 h2 hk7 hk8 hmz;go_wp2_with fail;refine⟨KK.out _ x4.out,?_⟩;refine a0c (i:=5) (by kernel_rfl) (by rfl) (by rfl) ?_;go_wp2_with fail;obtain⟨s1,s2⟩:=c0c b4.out mz a7 a8 k7 c7 k8 c8;have x5:=hid (a0B (a0B (a0B x4.out (i:=0) ge.out (.bool mz)) (i:=1) ge.out (.slice a7 k7 c7)) (i:=2) ge.out (.slice a8 k8 c8));have S2:=hid s2;clear s1 s2 t0 t1 t2 t3 t4 t5;refine⟨KK.out _ x5.out,?_⟩;refine wpAnyH_done (by kernel_rfl) ?_ _;simp only[b0l];go_wp2_with fail
   go_meet
   exact⟨_,_,_,_,_,_,_,rfl,by rw[HMZ.out];exact S2,HK7.out.symm,x5⟩
 case rest=>
  obtain⟨g,a5,n5,c5,a6,n6,c6,rfl,hB,hn,hW⟩:=hcut;have r0:=hB.out.cell 0;have r1:=hB.out.cell 1;simp at r0 r1;have yz:=hid (a0a HY.out hW.out);by_cases h1:z.num=0
  ·have es:Hid (q0q z=0):=by show q0q z=0;rw[q0q,if_pos h1]
   obtain rfl:n5=0:=by rw[hn.out,h1];exact g0T.2 rfl
   clear h1;go_wp2_with fail;go_ret
   exact⟨by rw[es.out];rfl,yz.out⟩
  ·have h2:n5≠0:=fun e=>h1 (by rw[hn.out]at e;have:=g0T.1 e;omega)
   have q1:((n5:Int)==0)=false:=by simp;omega
   obtain⟨mm,hmm⟩:∃ m,decide (z.num<0)=m:=⟨_,rfl⟩;have es:q0q z=if mm=true then -1 else 1:=by
    rw[q0q,if_neg h1,← hmm];simp
   have ES:=hid es;rw[hmm]at r0;clear h1 h2 es hmm;cases mm
   all_goals
    go_wp2_with fail;go_ret
    exact⟨by rw[ES.out];rfl,yz.out⟩
theorem o0p (w:World)(s t:ByteArray)(hs:s.size≤1000000)(ht:t.size≤1000000):
 Calls Tryz.prog 17 #[.string s,.string t] w fun e w'=>e=.returned (.tuple #[.int .i64 (cmB s t),.int .i64 (cmE s t)])∧Below w.heap.size w w':=by
 have R1:=fun V=>hid (l0v V s t hs ht)
 clear hs ht;by_cases h0:qE s=0∧qE t=0
 ·have eB:cmB s t=q0r (vQ s) (vQ t):=by rw[cmB,if_pos h0]
  have eE:cmE s t=0:=by rw[cmE,if_pos h0.1,h0.2]
  rw[eB,eE];have ds:=b0h (c0W h0.1);have dt:=b0h (c0W h0.2);have HO:=fun V v u hp hq=>hid (r0g V v u (vQ s) (vQ t) hp hq ds dt)
  obtain⟨o,ho⟩:∃ x,q0r (vQ s) (vQ t)=x:=⟨_,rfl⟩;rw[ho]at HO ⊢;have H0:=hid h0;clear eB eE ds dt ho h0;go_enter Tryz.func17,Tryz.ntmps17;go_wp2_with fail;refine (R1 _).out.mono ?_;rintro e w1 ⟨⟨m,a,n,c,a',n',c',m2,b,j,d,b',j',d',rfl,hq⟩,hb1⟩;obtain⟨q1,q2⟩:=hq H0.out.1 H0.out.2;rw[if_pos H0.out.1,H0.out.2];have b0:=((Below.refl w1.heap.size w1).alloc (Nat.le_refl _) (.cells #[.bool m,.slice a n c,.slice a' n' c'] 100)).alloc (by simp) (.cells #[.bool m2,.slice b j d,.slice b' j' d'] 100);have y2:=hid (a0a hb1 b0);have H1:=HO _ _ _ (q1.call b0) (q2.call b0);clear hb1 q1 q2 hq b0 HO R1;go_wp2_with fail;refine H1.out.mono ?_;rintro e w2 ⟨rfl,hb2⟩;have y3:=hid (a0a y2.out hb2);clear hb2 H1;go_wp2_with fail;go_ret2
  exact⟨rfl,y3.out⟩
 ·obtain⟨n0,-,-⟩:=o0H (f:=(· - ·)) h0;rw[cmB,if_neg h0,cmE];obtain⟨x,hx⟩:∃ x,(if qE s=0 then qE t else qE s)=x:=⟨_,rfl⟩;rw[hx]at n0 ⊢;have q0:(x != 0)=true:=by simpa using n0
  have HX:=hid hx;clear h0 n0 hx;go_enter Tryz.func17,Tryz.ntmps17;go_wp2_with fail;refine (R1 _).out.mono ?_;rintro e w1 ⟨⟨m,a,n,c,a',n',c',m2,b,j,d,b',j',d',rfl,-⟩,hb1⟩;rw[HX.out];have y2:=hid ((hb1.alloc hb1.size (.cells #[.bool m,.slice a n c,.slice a' n' c'] 100)).alloc (Nat.le_trans hb1.size (by simp)) (.cells #[.bool m2,.slice b j d,.slice b' j' d'] 100));clear hb1;go_wp2_with fail;go_ret2
  exact⟨rfl,y2.out⟩
theorem v0J (w:World)(s t:ByteArray)(hs:s.size≤1000000)(ht:t.size≤1000000):
 Calls Tryz.prog 65 #[.string s,.string t] w fun e w'=>e=.returned (.tuple #[.string (b0b (· - ·) s t),.int .i64 (d0b (· - ·) s t)])∧Below w.heap.size w w':=by
 have R1:=fun V=>hid (l0v V s t hs ht)
 clear hs ht;by_cases h0:qE s=0∧qE t=0
 ·have eB:b0b (· - ·) s t=c0I (vQ s + -vQ t):=by rw[b0b,if_pos h0,Rat.sub_eq_add_neg]
  have eE:d0b (· - ·) s t=c0U (vQ s + -vQ t):=by rw[d0b,if_pos h0.1,if_pos h0.2,Rat.sub_eq_add_neg]
  rw[eB,eE];have ds:=b0h (c0W h0.1);have dt:=p0N (b0h (c0W h0.2));have dl:=hid ((p0P ds dt).limbs (L:=1000000) (by omega) (by omega));have HO:=fun V v u hp hq=>hid (k0v V v u (vQ s) (-vQ t) hp hq ds dt)
  have HG:=fun V v h=>hid (f0O V v (vQ t) h)
  have HW:=fun V v h=>hid (h0A V v (vQ s + -vQ t) h dl.out.1 dl.out.2)
  obtain⟨oB,hB⟩:∃ x,c0I (vQ s + -vQ t)=x:=⟨_,rfl⟩;obtain⟨oE,hE⟩:∃ x,c0U (vQ s + -vQ t)=x:=⟨_,rfl⟩;rw[hB,hE]at HW;rw[hB,hE];have H0:=hid h0;clear eB eE ds dt dl hB hE h0;go_enter Tryz.func65,Tryz.ntmps65;go_wp2_with fail;refine (R1 _).out.mono ?_;rintro e w1 ⟨⟨m,a,n,c,a',n',c',m2,b,j,d,b',j',d',rfl,hq⟩,hb1⟩;obtain⟨q1,q2⟩:=hq H0.out.1 H0.out.2;rw[if_pos H0.out.1,H0.out.2];have b0:=hid (((Below.refl w1.heap.size w1).alloc (Nat.le_refl _) (.cells #[.bool m,.slice a n c,.slice a' n' c'] 100)).alloc (by simp) (.cells #[.bool m2,.slice b j d,.slice b' j' d'] 100));have Y0:=hid ((Blk.new w1 #[.bool m,.slice a n c,.slice a' n' c'] 100).alloc (.cells #[.bool m2,.slice b j d,.slice b' j' d'] 100));have Y1:=hid (Blk.made (w1.alloc (.cells #[.bool m,.slice a n c,.slice a' n' c'] 100)) #[.bool m2,.slice b j d,.slice b' j' d'] 100 (n:=w1.heap.size+1) (by simp));have y2:=hid (a0a hb1 b0.out);have Q1:=hid (q1.call b0.out);have Q2:=hid (q2.call b0.out);clear hb1 q1 q2 hq R1;go_wp2_with fail;obtain⟨W,hW⟩:∃ W,(w1.alloc (.cells #[.bool m,.slice a n c,.slice a' n' c'] 100)).alloc (.cells #[.bool m2,.slice b j d,.slice b' j' d'] 100)=W:=⟨_,rfl⟩;rw[hW]at Y0 Y1 y2 Q1 Q2 ⊢;have KK:Hid (∀ w',Below W.heap.size W w'→w'.cell? ⟨w1.heap.size,0,none⟩=some (.bool m)∧w'.cell? ⟨w1.heap.size,1,none⟩=some (.slice a n c)∧w'.cell? ⟨w1.heap.size,2,none⟩=some (.slice a' n' c')∧w'.cell? ⟨w1.heap.size+1,0,none⟩=some (.bool m2)∧w'.cell? ⟨w1.heap.size+1,1,none⟩=some (.slice b j d)∧w'.cell? ⟨w1.heap.size+1,2,none⟩=some (.slice b' j' d')):=fun w' hb=>
   ⟨(Y0.out.call hb).cell 0,(Y0.out.call hb).cell 1,(Y0.out.call hb).cell 2,(Y1.out.call hb).cell 0,(Y1.out.call hb).cell 1,(Y1.out.call hb).cell 2⟩
  clear b0 hW;refine a0n [0,1] 7 (fun w'=>w'.cell? ⟨w1.heap.size,0,none⟩=some (.bool m)∧w'.cell? ⟨w1.heap.size,1,none⟩=some (.slice a n c)∧w'.cell? ⟨w1.heap.size,2,none⟩=some (.slice a' n' c')∧w'.cell? ⟨w1.heap.size+1,0,none⟩=some (.bool m2)∧w'.cell? ⟨w1.heap.size+1,1,none⟩=some (.slice b j d)∧w'.cell? ⟨w1.heap.size+1,2,none⟩=some (.slice b' j' d')) (by kernel_rfl) (by kernel_rfl) (by kernel_rfl) (by kernel_rfl) (KK.out _ (Below.refl _ _).drew) ?_
  iterate 2
   refine⟨_,rfl,?_⟩;apply Exists.intro
   refine⟨.inl ⟨by rfl,?_⟩,?_⟩
   ·(intro W' hW';obtain⟨q1,q2,q3,q4,q5,q6⟩:=hW';go_simp;try (with_reducible rfl))
   (dsimp only[Act.put];try simp only[List.setIfInBounds_toArray,List.set_cons_zero,List.set_cons_succ])
  refine a0c (i:=2) (by kernel_rfl) (by rfl) (by rfl) ?_;go_wp2_with fail;refine (HG _ _ (Q2.out.call (Below.refl _ _).drew)).out.mono ?_;rintro e w3 ⟨⟨v3,rfl,hv3⟩,hb3⟩;have x3:=hid (show Below W.heap.size W w3 from (Below.refl _ _).drew.trans hb3);have N3:=hid hv3;obtain⟨m5,a5,n5,c5,a6,n6,c6,rfl⟩:=hv3.qv;clear hb3 hv3;go_wp2_with fail;refine⟨KK.out _ x3.out,?_⟩;refine a0c (i:=3) (by kernel_rfl) (by rfl) (by rfl) ?_;go_wp2_with fail;refine (HO _ _ _ (Q1.out.call x3.out) N3.out).out.mono ?_;rintro e w4 ⟨⟨v4,rfl,hv4⟩,hb4⟩;have x4:=hid (a0a x3.out hb4);have N4:=hid hv4;obtain⟨m7,a7,n7,c7,a8,n8,c8,rfl⟩:=hv4.qv;clear hb4 hv4;go_wp2_with fail;refine⟨KK.out _ x4.out,?_⟩;refine a0c (i:=4) (by kernel_rfl) (by rfl) (by rfl) ?_;go_wp2_with fail;refine (HW _ _ N4.out).out.mono ?_;rintro e w5 ⟨rfl,hb5⟩;have x5:=hid (a0a x4.out hb5);clear hb5;go_wp2_with fail;refine⟨KK.out _ x5.out,?_⟩;refine a0Z (is:=[5,6,7,8]) (g:=0) (by kernel_rfl) rfl (KK.out _ x5.out) (by kernel_rfl) ?_
  iterate 4
   refine⟨_,rfl,?_⟩;apply Exists.intro
   refine⟨.inl ⟨by rfl,?_⟩,?_⟩
   ·(intro W' hW';obtain⟨q1,q2,q3,q4,q5,q6⟩:=hW';go_simp;try (with_reducible rfl))
   (dsimp only[Act.put];try simp only[List.setIfInBounds_toArray,List.set_cons_zero,List.set_cons_succ])
  refine wpAnyH_done (by kernel_rfl) ?_ _;simp only[b0l];go_wp2_with fail;go_ret2
  exact⟨rfl,a0a y2.out x5.out⟩
 ·obtain⟨n0,eB,eE⟩:=o0H (f:=(· - ·)) h0;rw[eB,eE];obtain⟨x,hx⟩:∃ x,(if qE s=0 then qE t else qE s)=x:=⟨_,rfl⟩;rw[hx]at n0 ⊢;have q0:(x != 0)=true:=by simpa using n0
  have HX:=hid hx;clear h0 n0 eB eE hx;go_enter Tryz.func65,Tryz.ntmps65;go_wp2_with fail;refine (R1 _).out.mono ?_;rintro e w1 ⟨⟨m,a,n,c,a',n',c',m2,b,j,d,b',j',d',rfl,-⟩,hb1⟩;rw[HX.out];have y2:=hid ((hb1.alloc hb1.size (.cells #[.bool m,.slice a n c,.slice a' n' c'] 100)).alloc (Nat.le_trans hb1.size (by simp)) (.cells #[.bool m2,.slice b j d,.slice b' j' d'] 100));clear hb1;go_wp2_with fail;go_ret2
  exact⟨rfl,y2.out⟩
open Go.Shelf
theorem v0K (w:World)(s t:ByteArray)(hs:s.size≤1000000)(ht:t.size≤1000000):
 Calls Tryz.prog 66 #[.string s,.string t] w fun e w'=>e=.returned (.tuple #[.string (mxR s t),.int .i64 (cmE s t)])∧Below w.heap.size w w':=by
 have H:=hid (o0p w s t hs ht);unfold mxR;have h3:=p0X s t;obtain⟨B,hB⟩:∃ B,cmB s t=B:=⟨_,rfl⟩;obtain⟨E,hE⟩:∃ E,cmE s t=E:=⟨_,rfl⟩;rw[hB]at h3;rw[hB,hE]at H ⊢;clear hB hE hs ht;by_cases he:E=0
 ·subst he;rcases h3 with rfl | rfl | rfl
  ·go_enter Tryz.func66,Tryz.ntmps66;go_wp2_with fail;refine H.out.mono ?_;rintro e w3 ⟨rfl,hb3⟩;have y3:=hid hb3;clear hb3;go_wp2_with fail;go_ret2
   exact⟨rfl,y3.out⟩
  ·go_enter Tryz.func66,Tryz.ntmps66;go_wp2_with fail;refine H.out.mono ?_;rintro e w3 ⟨rfl,hb3⟩;have y3:=hid hb3;clear hb3;go_wp2_with fail;go_ret2
   exact⟨rfl,y3.out⟩
  ·go_enter Tryz.func66,Tryz.ntmps66;go_wp2_with fail;refine H.out.mono ?_;rintro e w3 ⟨rfl,hb3⟩;have y3:=hid hb3;clear hb3;go_wp2_with fail;go_ret2
   exact⟨rfl,y3.out⟩
 ·rw[if_neg he];have q0:(E==0)=false:=by simpa using he
  have q1:(E != 0)=true:=by simpa using he
  clear he h3;go_enter Tryz.func66,Tryz.ntmps66;go_wp2_with fail;refine H.out.mono ?_;rintro e w3 ⟨rfl,hb3⟩;have y3:=hid hb3;clear hb3;go_wp2_with fail;go_ret2
  exact⟨rfl,y3.out⟩
theorem r0B {s t:ByteArray}{k:Nat}(hs:s.size≤k)(ht:t.size≤k):(mxR s t).size≤k:=by
 unfold mxR
 split
 ·split
  ·exact hs
  ·exact ht
 ·exact Nat.zero_le _
theorem i0G {L:List (ByteArray×ByteArray)}{k:ByteArray}{B:Nat}(h:∀ p∈L,p.2.size≤B)(hB:1≤B):(e0h L k).size≤B:=by
 unfold e0h;cases hf:L.find? fun p=>decide (p.1=k) with
 | none=>exact hB
 | some p=>exact h p (List.mem_of_find?_eq_some hf)
theorem g0o (F:ByteArray)(L M:List (ByteArray×ByteArray)):(i0y F L M).size≤10000:=by
 rcases List.eq_nil_or_concat L with rfl | ⟨r,p,rfl⟩
 ·show (1:Nat)≤10000
  omega
 ·rw[List.concat_eq_append,g0n];exact d0i _ _ _
theorem q0g {F:ByteArray}{L M:List (ByteArray×ByteArray)}{i:Nat}{p:ByteArray×ByteArray}(h:L[i]?=some p):i0y F (L.take (i+1)) M=w0V F M (i0y F (L.take i) M) p:=by
 rw[List.take_add_one,h];exact g0n _ _ _ _
theorem l0a (w:World)(v u:Value)(L M:List (ByteArray×ByteArray))(F:ByteArray)(hv:MRow w v L)(hu:MRow w u M)(hF:F.size≤1000000)(h1:∀ p∈L,p.2.size≤1000000)(h2:∀ p∈M,p.2.size≤1000000):
 Calls Tryz.prog 21 #[v,u,.string F] w fun e w'=>e=.returned (.string (i0y F L M))∧Below w.heap.size w w':=by
 obtain⟨a,c,rfl,c1,c2,c3⟩:=hv.ex;obtain⟨n,hn⟩:∃ n,L.length=n:=⟨_,rfl⟩;have HU:=hid hu;have H3:=hid c3;have HN:=hid hn;have H1:=hid h1;have VS:=hid (fun k=>i0G (k:=k) h2 (by omega));have HFs:=hid hF;rw[hn]at c1 ⊢;clear hv hu c3 hn h1 h2 hF;go_enter Tryz.func21,Tryz.ntmps21;go_wp2_with fail
 go_loopw [7,8,9,10,11,12] (fun s7 s8 s9 s10 s11 s12 wr=>∃ i:Nat,s8=.int .i64 (i:Nat)∧i≤n∧Hid (s7=.string (i0y F (L.take i) M))∧Hid (Below w.heap.size w wr)) (fun s7 s8 s9 s10 s11 s12 wr=>n-(intOf s8).toNat)
 case atStart=>exact⟨0,rfl,Nat.zero_le _,rfl,Below.refl _ _⟩
 case round=>
  obtain⟨i,rfl,hi,h7,hB⟩:=hrel;obtain rfl:=h7.out;clear h7;by_cases hlt:i<n
  ·obtain⟨p,hp⟩:∃ x,L[i]?=some x:=⟨_,List.getElem?_eq_getElem (by rw[HN.out];exact hlt)⟩;obtain⟨g,o,rfl,hg,m1,m2⟩:=H3.out i p hp;have hS:=hid (H1.out p (List.mem_of_getElem? hp));have TK:=hid (q0g (F:=F) (M:=M) hp);have TS:=hid (g0o F (L.take i) M);obtain⟨T,hT⟩:∃ T,i0y F (L.take i) M=T:=⟨_,rfl⟩;obtain⟨x1,x2⟩:=p;dsimp only at m1 m2 hS;rw[Nat.mul_comm 2 i]at m1 m2;have d1:=hid ((hB.out.cell (a0k m1)).trans m1);have d2:=fun V (h:Below wr.heap.size wr V)=>hid ((h.cell (a0k d1.out)).trans d1.out)
   have e2:=fun V (h:Below wr.heap.size wr V)=>hid (((hB.out.trans (h.mono hB.out.size)).cell (a0k m2)).trans m2)
   have PV:=fun V h=>hid (j0Y V u M x1 h)
   have VSx:=VS.out x1;obtain⟨Y,hY⟩:∃ Y,e0h M x1=Y:=⟨_,rfl⟩;rw[hY]at PV VSx;have PM:=fun V=>hid (s0F V F Y (by have:=HFs.out;omega) (by omega))
   have ZS:=d0i (· * ·) F Y;obtain⟨Z,hZ⟩:∃ Z,b0b (· * ·) F Y=Z:=⟨_,rfl⟩;obtain⟨ez,hez⟩:∃ Z,d0b (· * ·) F Y=Z:=⟨_,rfl⟩;rw[hZ]at PM ZS;rw[hez]at PM;have PS:=fun V=>hid (v0J V x2 Z (by have:=hS.out;omega) (by omega))
   have OS:=d0i (· - ·) x2 Z;obtain⟨O,hO⟩:∃ K,b0b (· - ·) x2 Z=K:=⟨_,rfl⟩;obtain⟨eo,heo⟩:∃ K,d0b (· - ·) x2 Z=K:=⟨_,rfl⟩;rw[hO]at PS OS;rw[heo]at PS;have PX:=fun V=>hid (v0K V O ⟨#[48]⟩ (by omega) (by show 1≤1000000;omega))
   have XS:=r0B (s:=O) (t:=⟨#[48]⟩) (k:=10000) OS (by show 1≤10000;omega);obtain⟨X,hX⟩:∃ Z,mxR O ⟨#[48]⟩=Z:=⟨_,rfl⟩;obtain⟨ex,hex⟩:∃ K,cmE O ⟨#[48]⟩=K:=⟨_,rfl⟩;rw[hX]at PX XS;rw[hex]at PX;have PA:=fun V=>hid (v0L V T X (by rw[← hT];have:=TS.out;omega) (by omega))
   have TK2:Hid (i0y F (L.take (i+1)) M=b0b (· + ·) T X):=by
    show _=_
    rw[TK.out,hT,w0V];dsimp only;rw[hY,hZ,hO,hX]
   obtain⟨R,hR⟩:∃ Z,b0b (· + ·) T X=Z:=⟨_,rfl⟩;obtain⟨er,her⟩:∃ K,d0b (· + ·) T X=K:=⟨_,rfl⟩;rw[hR]at PA TK2;rw[her]at PA;rw[hT];have f0:(0:Int)≤(i:Int):=by omega
   have f1:(i:Int)<(n:Int):=by omega
   have wi:IntKind.i64.wrap ((i:Int)+1)=((i+1:Nat):Int):=by rw[IntWalk.i64_in _ ⟨by omega,by omega⟩];omega
   have D0:=d1.out;clear hp hg m1 m2 hT hY hZ hez hO heo hX hex hR her TK TS VSx ZS OS XS;go_wp2_with fail;refine (PV _ (HU.out.call hB.out)).out.mono ?_;rintro e w1 ⟨rfl,rfl⟩;go_wp2_with fail;refine (PM _).out.mono ?_;rintro e w2 ⟨rfl,hb2⟩;have y2:=hid hb2;clear hb2;have D2:=(e2 _ y2.out).out;go_wp2_with fail;refine (PS _).out.mono ?_;rintro e w3 ⟨rfl,hb3⟩;have y3:=hid (a0a y2.out hb3);clear hb3;go_wp2_with fail;refine (PX _).out.mono ?_;rintro e w4 ⟨rfl,hb4⟩;have y4:=hid (a0a y3.out hb4);clear hb4;go_wp2_with fail;refine (PA _).out.mono ?_;rintro e w5 ⟨rfl,hb5⟩;have y5:=hid (a0a y4.out hb5);clear hb5;go_wp2_with fail;go_roundw
   case rel=>exact⟨i+1,by go_num,by omega,by show _=_;rw[TK2.out],a0a hB.out y5.out⟩
   case measure=>simp[intOf]<;>omega
  ·obtain rfl:i=n:=by omega
   have q1:decide ((i:Int)<(i:Int))=false:=by simp
   have hT:L.take i=L:=List.take_of_length_le (by rw[HN.out];exact Nat.le_refl _);rw[hT];clear hlt hT;go_wp2_with fail;go_ret
   exact⟨rfl,hB.out⟩
end Go.Proofs.YtlmnpocifldpmaaGreatDoor
namespace Go.Proofs.YtlmnpocifldpmaaGreatDoor
open Go.RowKit
open Go.Lib (decDigits nDigits)
noncomputable def kz (s:ByteArray):Option Int:=@dite _ (∃ v:Int,s=zB v) (Classical.propDecidable _) (fun h=>some (Classical.choose h)) (fun _=>none)
theorem w0n (v:Int):kz (zB v)=some v:=by
 unfold kz;have h:∃ x:Int,zB v=zB x:=⟨v,rfl⟩;rw[dif_pos h];exact congrArg some (i0C (Classical.choose_spec h)).symm
theorem p0e:kz a0H=none:=by
 unfold kz;rw[dif_neg];rintro⟨v,h⟩;exact f0D v (congrArg (fun b:ByteArray=>b.data.toList) h.symm)
noncomputable def chS (d:List (ByteArray×ByteArray)):List Int:=d.filterMap fun p=>kz p.1
theorem l0Y {d:List (ByteArray×ByteArray)}{i:Nat}{p:ByteArray×ByteArray}(h:d[i]?=some p):chS (d.take (i+1))=chS (d.take i)++(kz p.1).toList:=by
 unfold chS;rw[List.take_add_one,h,Option.toList_some,List.filterMap_append]
 congr 1
theorem m0a {d:List (ByteArray×ByteArray)}{i:Nat}{p:ByteArray×ByteArray}(h:d[i]?=some p)(hp:kz p.1=none):chS (d.take (i+1))=chS (d.take i):=by
 rw[l0Y h,hp,Option.toList_none,List.append_nil]
theorem p0Y {d:List (ByteArray×ByteArray)}{i:Nat}{p:ByteArray×ByteArray}{v:Int}(h:d[i]?=some p)(hp:kz p.1=some v):chS (d.take (i+1))=chS (d.take i) ++ [v]:=by
 rw[l0Y h,hp];rfl
theorem h0h (d:List (ByteArray×ByteArray)):(chS d).length≤d.length:=List.length_filterMap_le _ _
theorem u0O (g:Int→Nat)(t n:Nat):(glM g t n).filterMap (fun p=>kz p.1)=chA g n:=by
 unfold glM chA chV;rw[List.filterMap_filterMap,List.filter_map,← List.filterMap_eq_map,← List.filterMap_eq_filter,List.filterMap_filterMap]
 congr 1
 funext j
 by_cases h:g ((j:Int)-n)=0
 ·simp[h,Option.guard]
 ·simp[h,Option.guard,w0n]
theorem u0N (g:Int→Nat)(t n r:Nat):(chS (a0D (glP g t n r))).Perm (chA g n):=by
 have h:(a0D (glP g t n r)).Perm (glP g t n r):=List.mergeSort_perm _ _;refine (h.filterMap fun p=>kz p.1).trans ?_;unfold glP;rw[List.filterMap_append,u0O];by_cases hr:r=0
 ·rw[if_pos hr];simp
 ·rw[if_neg hr];simp[p0e]
theorem h0x (g:Int→Nat)(t n r:Nat):q0o g n (chS (a0D (glP g t n r))):=fun f hf=>by
 rw[t0H (u0N g t n r)];exact t0B hf n
theorem l0Z {g:Int→Nat}{n r:Nat}{p:ByteArray×ByteArray}(h:p∈a0D (glP g (2 ^ n) n r)):(∃ v:Int,-(n:Int)≤v∧v≤n∧p.1=zB v∧kz p.1=some v∧p.2=dyB (g v) n)∨(p.1=a0H∧kz p.1=none):=by
 rw[b0x,p0o]at h;rcases h with ⟨v,h1,h2,-,rfl⟩ | ⟨-,rfl⟩
 ·exact .inl ⟨v,h1,h2,rfl,w0n v,rfl⟩
 ·exact .inr ⟨rfl,p0e⟩
open Go.Shelf
theorem s0e (n:Nat):Lib.decNat (decDigits n)=some n:=by
 have hd:=b0I n;have hne:decDigits n ≠ []:=by
  intro e;have:=Lib.decDigits_length n;rw[e]at this;have:=s0L n;simp at *;omega
 unfold Lib.decNat;rw[if_neg (by simpa using hne),h0c hd,j0J,Nat.mul_zero,Nat.zero_add]
theorem q0j (v:Int):Lib.atoi (Lib.itoa v)=some v:=by
 unfold Lib.itoa
 split
 ·rename_i h
  unfold Lib.atoi;show (if ((45:UInt8)==45)=true then Option.map (fun (m:Nat) => -(m:Int)) (Lib.decNat (decDigits v.natAbs)) else _)=_
  rw[if_pos (by decide),s0e];show some (-(v.natAbs:Int))=some v
  congr 1;omega
 ·rename_i h
  rw[s0m]
  congr 1;omega
theorem v0a (w:World)(v:Int)(h1 : -1000≤v)(h2:v≤1000):
 Calls Tryz.prog 94 #[.string (zB v)] w fun e w'=>e=.returned (.tuple #[.int .i64 v,.nilIface])∧Below w.heap.size w w':=by
 have hs:(zB v).size≤18:=by
  rw[← a0r,f0C];unfold Lib.itoa
  split
  ·have hd:=a0j (n:=v.natAbs) (k:=4) (by omega) (by omega);rw[List.length_cons,Lib.decDigits_length];omega
  ·have hd:=a0j (n:=v.toNat) (k:=4) (by omega) (by omega);rw[Lib.decDigits_length];omega
 refine (Tryz.strconv_Atoi (zB v) v hs (by rw[f0C];exact q0j v) w).mono ?_;rintro e w' ⟨rfl,t,rfl⟩;exact⟨rfl,Go.Joins.below_bytesWorld w.heap.size w 5 t (Nat.le_refl _)⟩
def cpC (y:Int×ByteArray):List Value:=[.int .i64 y.1,.string y.2]
def cpF (L:List (Int×ByteArray)):List Value:=L.flatMap cpC
theorem n0e (L:List (Int×ByteArray)):(cpF L).length=L.length*2:=by
 unfold cpF
 induction L with
 | nil=>rfl
 | cons p r ih=>rw[List.flatMap_cons,List.length_append,ih,List.length_cons];simp[cpC];omega
theorem s0g (L:List (Int×ByteArray))(y:Int×ByteArray):cpF (L ++ [y])=cpF L++cpC y:=by simp[cpF]
theorem u0J {L:List (Int×ByteArray)}:∀ {i:Nat} {y:Int×ByteArray},L[i]?=some y→(cpF L)[i*2]?=some (.int .i64 y.1)∧(cpF L)[i*2+1]?=some (.string y.2):=by
 induction L with
 | nil=>intro i p h;simp at h
 | cons q r ih=>
  intro i p h;have hl:(cpC q).length=2:=rfl;cases i with
  | zero=>simp at h;subst h;exact⟨rfl,rfl⟩
  | succ i=>
   rw[List.getElem?_cons_succ]at h;obtain⟨h1,h2⟩:=ih h;have e:cpF (q::r)=cpC q++cpF r:=rfl;rw[e];refine⟨?_,?_⟩
   ·rw[List.getElem?_append_right (by omega),hl,show (i+1)*2-2=i*2 by omega];exact h1
   ·rw[List.getElem?_append_right (by omega),hl,show (i+1)*2+1-2=i*2+1 by omega];exact h2
theorem f0U {W:World}{base base':Nat}{e:TypeId}{k:Nat}{v:Value}{n:Nat}{xs:List Value}(h:W.ownsRow base e k v n xs)(hb:base'≤base):W.ownsRow base' e k v n xs:=by
 obtain⟨h1,h2⟩:=h;rcases h2 with h2 | ⟨g,cap,cur,a1,a2,a3⟩
 ·exact⟨h1,.inl h2⟩
 ·exact⟨h1,.inr ⟨g,cap,cur,a1,Nat.le_trans hb a2,a3⟩⟩
structure PRow (w:World)(v:Value)(l:List (Int×ByteArray)):Prop where
 ex:∃ a c,v=.slice a l.length c∧l.length≤c∧c≤9223372036854775807∧∀ (i:Nat) (x:Int×ByteArray),l[i]?=some x→∃ g o,a=some ⟨g,o,none⟩∧g<w.heap.size∧w.cell? ⟨g,o+i*2,none⟩=some (.int .i64 x.1)∧w.cell? ⟨g,o+i*2+1,none⟩=some (.string x.2)
theorem PRow.of_owns {w:World}{base n:Nat}{e:TypeId}{v:Value}{L:List (Int×ByteArray)}(h:w.ownsRow base e 2 v n (cpF L)):PRow w v L:=by
 have hn:n=L.length:=by have:=h.1;rw[n0e]at this;omega
 subst hn;rcases h.2 with ⟨rfl,h0⟩ | ⟨g,cap,cur,rfl,hb,hg,k1,k2,k3,k4⟩
 ·have hl:L = []:=List.length_eq_zero_iff.1 (by omega);subst hl;exact⟨none,0,rfl,Nat.le_refl _,by omega,fun i x hx=>by simp at hx⟩
 ·obtain⟨o1,o2,o3,o4,o5,o6⟩:=e0z h;refine⟨some ⟨g,0,none⟩,cap,rfl,o6,o5,fun i x hx=>?_⟩;obtain⟨f1,f2⟩:=u0J hx;refine⟨g,0,rfl,o2,?_,?_⟩
  ·rw[Nat.zero_add];exact o4 _ _ f1
  ·rw[Nat.zero_add];exact o4 _ _ f2
theorem r0L:(Tryz.prog.info? 68).map (fun i=>(i.zero,i.size,i.bytes))=some (some (.agg #[.int .i64 0,.string ⟨#[]⟩]),2,24):=by kernel_rfl
theorem o0N {W:World}{g:Nat}{cs:Array Value}{t:TypeId}(h:Blk W g cs t):∀ j u,cs.toList[j]?=some u→W.cell? ((⟨g,0,none⟩:Addr).add j)=some u:=fun j u hj=>by
 rw[Addr.add_lit,Nat.zero_add,h.cell];simpa using hj
noncomputable def chT (g:Int→Nat)(n:Nat)(d:List (ByteArray×ByteArray))(i:Nat):List (Int×ByteArray):=(chS (d.take i)).map fun v=>(v,dyB (g v) n)
theorem s0j {g:Int→Nat}{n:Nat}{d:List (ByteArray×ByteArray)}{i:Nat}{p:ByteArray×ByteArray}(h:d[i]?=some p)(hp:kz p.1=none):chT g n d (i+1)=chT g n d i:=by unfold chT;rw[m0a h hp]
theorem u0M {g:Int→Nat}{n:Nat}{d:List (ByteArray×ByteArray)}{i:Nat}{p:ByteArray×ByteArray}{v:Int}(h:d[i]?=some p)(hp:kz p.1=some v):chT g n d (i+1)=chT g n d i ++ [(v,dyB (g v) n)]:=by unfold chT;rw[p0Y h hp,List.map_append];rfl
theorem n0i (g:Int→Nat)(n:Nat)(d:List (ByteArray×ByteArray))(i:Nat):(chT g n d i).length≤d.length:=by
 unfold chT;rw[List.length_map];refine Nat.le_trans (h0h _) ?_;rw[List.length_take];omega
noncomputable def chU (g:Int→Nat)(n:Nat)(d:List (ByteArray×ByteArray))(i:Nat):ByteArray:=dyB (sV g (chS (d.take i))) n
theorem g0H (w:World)(a:ByteArray)(n:Nat)(ha:a.size≤100000)(hg0:gPE a=0)(hn:n≤32)(hL:LayB w):
 Calls Tryz.prog 32 #[.string a,.int .i64 (n:Nat)] w fun e w'=>(∃ u,e=.returned (.tuple #[u,.string (dyB (zS n (gV (bN (cW a)) (bN (qD a)) true n)) n)])∧w'.ownsRow w.heap.size 68 2 u ((chS (glR a (n:Nat) true)).map fun v=>(v,dyB (gV (bN (cW a)) (bN (qD a)) true n v) n)).length (cpF ((chS (glR a (n:Nat) true)).map fun v=>(v,dyB (gV (bN (cW a)) (bN (qD a)) true n v) n))))∧Below w.heap.size w w':=by
 obtain⟨i0,hi,hz0,hz1,hz2⟩:=info_parts r0L;have HTL:=hid (r0O w a (n:Nat) ha hL.l);have hgl0:glE a (n:Nat) 32=0:=by unfold glE;rw[if_neg (by simpa using hg0),if_neg (by omega)]
 have hglR:glR a (n:Nat) true=a0D (glP (gV (bN (cW a)) (bN (qD a)) true n) (2 ^ n) n (gL (bN (cW a)) (bN (qD a)) true n)):=by unfold glR;rw[if_pos hgl0,Int.toNat_natCast]
 have hz:zS n (gV (bN (cW a)) (bN (qD a)) true n)≤2 ^ n:=by have:=j0A (b0S hg0).2 true n;omega
 rw[hgl0]at HTL;rw[hglR]at HTL ⊢;obtain⟨g,hgg⟩:∃ g,gV (bN (cW a)) (bN (qD a)) true n=g:=⟨_,rfl⟩;obtain⟨r,hrr⟩:∃ r,gL (bN (cW a)) (bN (qD a)) true n=r:=⟨_,rfl⟩;rw[hgg,hrr]at HTL ⊢;rw[hgg]at hz;have hM:∀ p∈a0D (glP g (2 ^ n) n r),(∃ v:Int,-(n:Int)≤v∧v≤n∧p.1=zB v∧kz p.1=some v∧p.2=dyB (g v) n)∨(p.1=a0H∧kz p.1=none):=fun p hp=>l0Z hp
 have hR:=h0x g (2 ^ n) n r;have hlen:(a0D (glP g (2 ^ n) n r)).length≤100:=by
  rw[e0X];have:(glP g (2 ^ n) n r).length≤2*n+2:=by
   unfold glP glM;rw[List.length_append];have h:=List.length_filterMap_le (fun (j:Nat)=>if g ((j:Int)-n)=0 then none else some (zB ((j:Int)-n),shB (g ((j:Int)-n)) (2 ^ n))) (List.range (2*n+1));rw[List.length_range]at h;have h2:(if r=0 then ([]:List (ByteArray×ByteArray)) else [(a0H,shB r (2 ^ n))]).length≤1:=by split<;>simp
   omega
  omega
 obtain⟨d,hd⟩:∃ d,a0D (glP g (2 ^ n) n r)=d:=⟨_,rfl⟩;rw[hd]at HTL hM hR hlen ⊢;have hle:∀ i,sV g (chS (d.take i))≤2 ^ n:=fun i=>by
  have h1:chS d=chS (d.take i)++chS (d.drop i):=by unfold chS;rw[← List.filterMap_append,List.take_append_drop]
  have h2:=hR g (fun v h=>h);rw[h1]at h2;unfold sV at h2 ⊢;rw[List.map_append,List.sum_append]at h2;omega
 have HLE:=hid hle;have HEND:=hid (show sV g (chS d)=zS n g from hR g fun v h=>h);have HM:=hid hM;have HLN:=hid hlen;have HN:=hid hn;have HL:=hid hL;obtain⟨L,hLL⟩:∃ L,d.length=L:=⟨_,rfl⟩;have HLL:=hid hLL;clear ha hg0 hL hgl0 hglR hz hgg hrr hM hR hlen hd hle hn hLL;go_enter Tryz.func32,Tryz.ntmps32;go_wp2_with fail;refine HTL.out.mono ?_;rintro e w1 ⟨⟨u1,rfl,hu1⟩,hb1⟩;have y1:=hid hb1;have U1:=hid hu1;obtain⟨ad,cd,rfl,c1,c2,c3⟩:=hu1.ex;have H3:=hid c3;rw[HLL.out]at c1 U1 ⊢;clear hb1 hu1 c3 HTL;go_wp2_with fail
 go_loopw [8,9,11,12,13,22] (fun s8 s9 s11 s12 s13 s22 wr=>∃ i:Nat,s22=.int .i64 (i:Nat)∧i≤L∧s9=.string (chU g n d i)∧Hid (wr.ownsRow w1.heap.size 68 2 s8 (chT g n d i).length (cpF (chT g n d i)))∧Hid (Below w1.heap.size w1 wr)) (fun s8 s9 s11 s12 s13 s22 wr=>L-(intOf s22).toNat)
 case atStart=>exact⟨0,rfl,Nat.zero_le _,by unfold chU;rw[List.take_zero];exact congrArg _ (i0e n).symm,World.ownsRow_nil _ _ _ _,Below.refl _ _⟩
 case round=>
  obtain⟨i,rfl,hi,rfl,hO,hB⟩:=hrel;have hl100:=HLN.out;by_cases hlt:i<L
  ·obtain⟨q,hq⟩:∃ q,d[i]?=some q:=⟨_,List.getElem?_eq_getElem (by rw[HLL.out];exact hlt)⟩;obtain⟨gd,od,rfl,hgd,m1,m2⟩:=H3.out i q hq;have r1:=(hB.out.cell (p:=⟨gd,od+2*i,none⟩) hgd).trans m1;have r2:=(hB.out.cell (p:=⟨gd,od+2*i+1,none⟩) hgd).trans m2;rw[Nat.mul_comm 2]at r1 r2;have f1:(0:Int)≤(i:Int):=by omega
   have f2:(i:Int)<(L:Int):=by omega
   have wi:IntKind.i64.wrap ((i:Int)+1)=((i+1:Nat):Int):=by rw[HLL.out]at hl100;rw[IntWalk.i64_in _ ⟨by omega,by omega⟩];omega
   have HLT:=hid hlt;have BW:=hid (a0a y1.out hB.out);obtain⟨qk,qv⟩:=q;dsimp only at r1 r2;have AM:=hid ((Below.refl wr.heap.size wr).alloc (Nat.le_refl _) (.cells #[.string qk,.string qv] 39));have XM:=hid (Blk.new wr #[.string qk,.string qv] 39);have g0:=XM.out.cell 0;have g1:=XM.out.cell 1;simp at g0 g1;rcases HM.out _ (List.mem_of_getElem? hq) with ⟨v,v1,v2,v3,v4,v5⟩ | ⟨v3,v4⟩
   ·dsimp only at v3 v4 v5;have HT:=hid (u0M (g:=g) (n:=n) hq v4);have hU:sV g (chS (d.take (i+1)))=sV g (chS (d.take i))+g v:=by
     rw[p0Y hq v4];unfold sV;rw[List.map_append,List.sum_append];simp
    have hle2:=HLE.out (i+1);have HU:Hid (b0b (· + ·) (chU g n d i) qv=chU g n d (i+1)):=by
     show _=_
     unfold chU;rw[v5,hU,p0G (by omega) (by have:=HN.out;omega)]
    have HP:=fun V hV=>hid (h0r V (chU g n d i) qv (Nat.le_trans (l0U (HLE.out i) (by have:=HN.out;omega)) (by omega)) (by
     have:g v≤2 ^ n:=by omega
     rw[v5];exact Nat.le_trans (l0U this (by have:=HN.out;omega)) (by omega)) hV)
    rw[HU.out]at HP;have PA:=fun V=>hid (v0a V v (by have:=HN.out;omega) (by have:=HN.out;omega))
    rw[← v3]at PA;have HQV:=hid v5;have HLB:=hid (show (chT g n d i).length≤100 from Nat.le_trans (n0i g n d i) HLN.out);obtain⟨S0,hS0⟩:∃ s,chU g n d i=s:=⟨_,rfl⟩;obtain⟨S1,hS1⟩:∃ s,chU g n d (i+1)=s:=⟨_,rfl⟩;rw[hS0,hS1]at HP;rw[hS0];have HS1:=hid hS1;clear hq hgd m1 m2 hlt hi hl100 v1 v2 v3 v4 v5 hU hle2 HU hS0 hS1;go_wp2_with fail;refine (PA _).out.mono ?_;rintro e w2 ⟨rfl,hb2⟩;have x2:=hid (a0a AM.out hb2);have XM2:=hid (XM.out.call hb2);have KK:Hid (∀ V,Below w2.heap.size w2 V→V.cell? ⟨wr.heap.size,1,none⟩=some (.string qv)):=fun V hV=>(XM2.out.call hV).cell 1
    have lt0:Hid (∀ k,u8.ownBlock=some k→k<wr.heap.size):=fun k h=>(hO.out.lt k h).2
    have HO2:=hid (a0s hO.out x2.out);have HB2:=hid (a0a hB.out x2.out);clear hb2 g0 g1 r1 r2;go_wp2_with fail;refine a0n [0,1,2,3,4,7,8,9] 5 (fun V=>V.cell? ⟨wr.heap.size,1,none⟩=some (.string qv)) (by kernel_rfl) (by kernel_rfl) (by kernel_rfl) (by kernel_rfl) (KK.out _ (Below.refl _ _).drew) ?_
    iterate 8
     refine⟨_,rfl,?_⟩;apply Exists.intro
     refine⟨.inl ⟨by rfl,?_⟩,?_⟩
     ·(intro W' hW';obtain q9:=hW';go_simp;try (with_reducible rfl))
     (dsimp only[Act.put];try simp only[List.setIfInBounds_toArray,List.set_cons_zero,List.set_cons_succ])
    refine a0c (i:=5) (by kernel_rfl) (by rfl) (by rfl) ?_;go_wp2_with fail;have z1:=hid (((Below.refl w2.heap.size w2).alloc (Nat.le_refl _) (.cells #[.int .i64 v,.string qv] 68)).drew);have b1:=hid (show Blk (w2.alloc (.cells #[.int .i64 v,.string qv] 68)).drew w2.heap.size #[.int .i64 v,.string qv] 68 from (Blk.new w2 _ _).drew);have XM3:=hid (XM2.out.call z1.out);have o2:=hid (a0s HO2.out z1.out);have h2:=hid (a0a HB2.out z1.out);obtain⟨w2d,hw2d⟩:∃ W,(w2.alloc (.cells #[.int .i64 v,.string qv] 68)).drew=W:=⟨_,rfl⟩;have hk1:=KK.out _ z1.out;rw[hw2d]at z1 b1 XM3 o2 h2 hk1 ⊢;clear hw2d;refine⟨hk1,?_⟩;clear hk1;refine a0c (i:=6) (by kernel_rfl) (by rfl) (by rfl) ?_;refine wpList_append_own_at _ rfl _ _ 62 rfl w1.heap.size 68 i0 (.agg #[.int .i64 0,.string ⟨#[]⟩]) 2 24 Tryz.underlying62 hi hz0 hz1 hz2 rfl (by decide) u8 (chT g n d i).length (cpF (chT g n d i)) rfl o2.out ⟨w2.heap.size,0,none⟩ 1 1 [.int .i64 v,.string qv] rfl rfl (o0N b1.out) (by simp[Value.oneCell']) (by have:=HLB.out;unfold maxLen;omega) (by have:=HLB.out;omega) h2.out.size ?_;intro v2 w3 hown hgrow _ hat;have O9:=hid hown;have B9:=hid (b0e o2.out h2.out hgrow);have c9:=(XM3.out.grown hgrow (fun e=>by have:=lt0.out _ e;omega)).cell 1;simp at c9;clear hown hgrow hat;go_wp2_with fail;refine⟨c9,?_⟩;have C9:=hid c9;refine a0c (i:=10) (by kernel_rfl) (by rfl) (by rfl) ?_;clear c9;go_wp2_with fail;refine (HP _ (HL.out.call (a0a y1.out B9.out)).l).out.mono ?_;rintro e w4 ⟨rfl,hb⟩;have O10:=hid (a0s O9.out hb);have B10:=hid (a0a B9.out hb);have c10:=(hb.cell (a0k C9.out)).trans C9.out;clear hb;go_wp2_with fail;refine⟨c10,?_⟩;refine a0Z (is:=[11,12]) (g:=0) (by kernel_rfl) rfl c10 (by kernel_rfl) ?_
    iterate 2
     refine⟨_,rfl,?_⟩;apply Exists.intro
     refine⟨.inl ⟨by rfl,?_⟩,?_⟩
     ·(intro W' hW';obtain q9:=hW';go_simp;try (with_reducible rfl))
     (dsimp only[Act.put];try simp only[List.setIfInBounds_toArray,List.set_cons_zero,List.set_cons_succ])
    refine wpAnyH_done (by kernel_rfl) ?_ _;simp only[b0l];go_wp2_with fail;go_roundw
    case rel=>exact⟨i+1,by go_num,by have:=HLT.out;omega,by rw[HS1.out],by rw[HT.out,s0g,List.length_append,← HQV.out];exact O10.out,B10⟩
    case measure=>simp[intOf]<;>(have:=HLT.out;omega)
   ·dsimp only at v3 v4;subst v3;have HT:=hid (s0j (g:=g) (n:=n) hq v4);have HU:Hid (chU g n d (i+1)=chU g n d i):=by show _=_;unfold chU;rw[m0a hq v4]
    have PA:=fun V hV=>hid (v0b V hV)
    clear hq hgd m1 m2 hlt hi hl100 v4;obtain⟨lt,hlt⟩:∃ s,a0H=s:=⟨_,rfl⟩;rw[hlt]at PA r1 AM XM;go_wp2_with fail;refine (PA _ (HL.out.call (a0a BW.out AM.out)).s).out.mono ?_;rintro e w2 ⟨⟨te,pe,rfl⟩,hb2⟩;have x2:=hid (a0a AM.out hb2);clear hb2 g0 g1 r1 r2;go_wp2_with fail;go_roundw
    case rel=>exact⟨i+1,by go_num,by have:=HLT.out;omega,by rw[HU.out],by rw[HT.out];exact hO.out.kept (k0R x2.out none) (by cases hv8:Value.ownBlock _<;>simp),a0a hB.out x2.out⟩
    case measure=>simp[intOf]<;>(have:=HLT.out;omega)
  ·obtain rfl:i=L:=by omega
   have hT:d.take i=d:=List.take_of_length_le (by rw[HLL.out];exact Nat.le_refl _);have HO:=hid (f0U hO.out y1.out.size);have hcU:chU g n d i=dyB (zS n g) n:=by unfold chU;rw[hT,HEND.out]
   have hcT:chT g n d i=(chS d).map fun v=>(v,dyB (g v) n):=by unfold chT;rw[hT]
   rw[hcU];rw[hcT]at HO;have BW:=hid (a0a y1.out hB.out);clear hlt hi hl100 hT hcU hcT;go_wp2_with fail;go_ret2
   exact⟨⟨_,rfl,HO.out⟩,BW.out⟩
structure SqT (gA gC:Int→Nat)(n:Nat)(thr:Int)(c kA:List Int)(SA SC LT:ByteArray)(M:Int→ByteArray)(P D1 D2 H:Int→Nat→ByteArray)(F:Nat→Nat→ByteArray)(AF:Nat→ByteArray)(Z0:ByteArray):Prop where
 less:∀ (V:World) x i,i<c.length→Lay V→Calls Tryz.prog 37 #[.string SC,.string (M (thr+x-c.getD i 0))] V fun e w'=>e=.returned (.string (D1 x i))∧Below V.heap.size V w'
 times1:∀ (V:World) x i,i<c.length→Lay V→Calls Tryz.prog 35 #[.string (P x i),.string (D1 x i)] V fun e w'=>e=.returned (.string (D2 x i))∧Below V.heap.size V w'
 times2:∀ (V:World) x i,i<c.length→Lay V→Calls Tryz.prog 35 #[.string (D2 x i),.string (AF (c.length-1-i))] V fun e w'=>e=.returned (.string (H x i))∧Below V.heap.size V w'
 plus:∀ (V:World) x i j,i<c.length→kA[j]?=some x→Lay V→Calls Tryz.prog 34 #[.string (F i j),.string (H x i)] V fun e w'=>e=.returned (.string (F i (j+1)))∧Below V.heap.size V w'
 next:∀ (V:World) x i,i<c.length→Lay V→Calls Tryz.prog 35 #[.string (P x i),.string (M (thr+x-c.getD i 0))] V fun e w'=>e=.returned (.string (P x (i+1)))∧Below V.heap.size V w'
 none:∀ (V:World) x j,kA[j]?=some x→Lay V→Calls Tryz.prog 34 #[.string (F c.length j),.string (P x c.length)] V fun e w'=>e=.returned (.string (F c.length (j+1)))∧Below V.heap.size V w'
 after:∀ (V:World) i,i<c.length→Lay V→Calls Tryz.prog 35 #[.string (AF i),.string SC] V fun e w'=>e=.returned (.string (AF (i+1)))∧Below V.heap.size V w'
 last1:∀ (V:World),Lay V→Calls Tryz.prog 35 #[.string SA,.string (AF c.length)] V fun e w'=>e=.returned (.string Z0)∧Below V.heap.size V w'
 last2:∀ (V:World),Lay V→Calls Tryz.prog 37 #[.string ⟨#[49]⟩,.string Z0] V fun e w'=>e=.returned (.string LT)∧Below V.heap.size V w'
 start:∀ x,P x 0=dyB (gA x) n
 zero:∀ i,F i 0=⟨#[48]⟩
 one:AF 0=⟨#[49]⟩
 fin:∀ i,i≤c.length→F i kA.length=dyB (sqT gA gC n thr c i) (n*(c.length+1))
 late:LT=dyB (sqL gA gC n c.length) (n*(c.length+1))
theorem q0G {gA gC:Int→Nat}{n:Nat}{thr:Int}{c kA:List Int}(hA:zS n gA≤2 ^ n)(hC:zS n gC≤2 ^ n)(hx:∀ x,gA x≤2 ^ n)(rA:q0o gA n kA)(hm:n*(c.length+1)≤1000):
 SqT gA gC n thr c kA (dyB (zS n gA) n) (dyB (zS n gC) n) (dyB (sqL gA gC n c.length) (n*(c.length+1))) (fun m=>dyB (blw gC n m) n) (fun x i=>dyB (sqP gA gC n thr x c i) (n*(i+1)))
  (fun x i=>b0b (· - ·) (dyB (zS n gC) n) (dyB (blw gC n (thr+x-c.getD i 0)) n)) (fun x i=>b0b (· * ·) (dyB (sqP gA gC n thr x c i) (n*(i+1))) (b0b (· - ·) (dyB (zS n gC) n) (dyB (blw gC n (thr+x-c.getD i 0)) n)))
  (fun x i=>dyB (gA x*sqF gC n (thr+x) i 0 c) (n*(c.length+1))) (fun i j=>dyB (sqS gA gC n thr c kA i j) (n*(c.length+1))) (fun i=>dyB (zS n gC ^ i) (n*i)) (b0b (· * ·) (dyB (zS n gA) n) (dyB (zS n gC ^ c.length) (n*c.length))) where
 less V x i hi hL:=n0T V _ _ (d0L _ _) (d0L _ _) hL
 times1 V x i hi hL:=e0s V _ _ (d0L _ _) (Nat.le_trans (d0i _ _ _) (by omega)) hL
 times2 V x i hi hL:=by
  have h:=e0s V (b0b (· * ·) (dyB (sqP gA gC n thr x c i) (n*(i+1))) (b0b (· - ·) (dyB (zS n gC) n) (dyB (blw gC n (thr+x-c.getD i 0)) n))) (dyB (zS n gC ^ (c.length-1-i)) (n*(c.length-1-i))) (Nat.le_trans (d0i _ _ _) (by omega)) (d0L _ _) hL;rw[v0v hA hC hx thr x hi hm]at h;exact h
 plus V x i j hi hj hL:=by
  have h:=h0r V (dyB (sqS gA gC n thr c kA i j) (n*(c.length+1))) (dyB (gA x*sqF gC n (thr+x) i 0 c) (n*(c.length+1))) (d0L _ _) (d0L _ _) hL;rw[n0K hA hC rA thr (Nat.le_of_lt hi) hj hm]at h;exact h
 next V x i hi hL:=by
  have h:=e0s V (dyB (sqP gA gC n thr x c i) (n*(i+1))) (dyB (blw gC n (thr+x-c.getD i 0)) n) (d0L _ _) (d0L _ _) hL;rw[q0F hA hC hx thr x c (i:=i) (Nat.le_trans (Nat.mul_le_mul_left n (by omega)) hm)]at h;exact h
 none V x j hj hL:=by
  have h:=h0r V (dyB (sqS gA gC n thr c kA c.length j) (n*(c.length+1))) (dyB (sqP gA gC n thr x c c.length) (n*(c.length+1))) (d0L _ _) (d0L _ _) hL;rw[n0P,n0K hA hC rA thr (Nat.le_refl _) hj hm,← n0P]at h;exact h
 after V i hi hL:=by
  have h:=e0s V (dyB (zS n gC ^ i) (n*i)) (dyB (zS n gC) n) (d0L _ _) (d0L _ _) hL;rw[q0H hC (Nat.le_trans (Nat.mul_le_mul_left n (by omega)) hm)]at h;exact h
 last1 V hL:=e0s V _ _ (d0L _ _) (d0L _ _) hL
 last2 V hL:=by
  have h:=n0T V ⟨#[49]⟩ (b0b (· * ·) (dyB (zS n gA) n) (dyB (zS n gC ^ c.length) (n*c.length))) (by decide) (Nat.le_trans (d0i _ _ _) (by omega)) hL;rw[t0r hA hC hm]at h;exact h
 start x:=by
  show dyB (gA x*sqB gC n (thr+x) c 0) (n*(0+1))=_
  rw[sqB,Nat.mul_one,Nat.zero_add,Nat.mul_one]
 zero i:=by
  show dyB (sqS gA gC n thr c kA i 0) _=_
  unfold sqS;rw[List.take_zero,s0E,i0e]
 one:=by
  show dyB (zS n gC ^ 0) (n*0)=_
  rw[Nat.pow_zero,Nat.mul_zero];exact p0F 0
 fin i hi:=by
  show dyB (sqS gA gC n thr c kA i kA.length) _=_
  rw[n0N rA]
 late:=rfl
theorem SqT.conv {gA gC:Int→Nat}{n:Nat}{thr:Int}{c kA:List Int}{SA SC LT SA' SC' LT' Z0 Z0':ByteArray}{M:Int→ByteArray}{P D1 D2 H:Int→Nat→ByteArray}{F:Nat→Nat→ByteArray}{AF:Nat→ByteArray}(h:SqT gA gC n thr c kA SA SC LT M P D1 D2 H F AF Z0)(e1:Z0=Z0')(e2:SA=SA')(e3:SC=SC')(e4:LT=LT'):SqT gA gC n thr c kA SA' SC' LT' M P D1 D2 H F AF Z0':=by
 subst e1 e2 e3 e4;exact h
theorem m0s {gA gC:Int→Nat}{n:Nat}{thr:Int}{c kA:List Int}{SA SC LT Z0:ByteArray}{M:Int→ByteArray}{P D1 D2 H:Int→Nat→ByteArray}{F:Nat→Nat→ByteArray}{AF:Nat→ByteArray}(h:SqT gA gC n thr c kA SA SC LT M P D1 D2 H F AF Z0):sqW gA gC n thr c 0 = [(m1B,F c.length kA.length),(a0H,LT)]:=by
 unfold sqW;rw[h.fin _ (Nat.le_refl _),h.late];rfl
theorem n0L {gA gC:Int→Nat}{n:Nat}{thr:Int}{c kA:List Int}{SA SC LT Z0:ByteArray}{M:Int→ByteArray}{P D1 D2 H:Int→Nat→ByteArray}{F:Nat→Nat→ByteArray}{AF:Nat→ByteArray}(h:SqT gA gC n thr c kA SA SC LT M P D1 D2 H F AF Z0)(i:Nat)(hi:i≤c.length):sqW gA gC n thr c (i+1)=sqW gA gC n thr c i ++ [(a0f i,F i kA.length)]:=by
 rw[q0I,h.fin i hi]
def tlS (AF:Nat→ByteArray)(L i:Nat):List ByteArray:=(List.range L).map fun k=>if L-i≤k then AF (L-1-k) else ⟨#[]⟩
theorem d0q (AF:Nat→ByteArray)(L i:Nat):(tlS AF L i).length=L:=by simp[tlS]
theorem f0J {AF:Nat→ByteArray}{L i k:Nat}(h:k<L):(tlS AF L i)[k]?=some (if L-i≤k then AF (L-1-k) else ⟨#[]⟩):=by
 unfold tlS;rw[List.getElem?_map,List.getElem?_range h];rfl
theorem q0B (AF:Nat→ByteArray)(L:Nat):tlS AF L 0=List.replicate L ⟨#[]⟩:=by
 apply List.ext_getElem?
 intro k;by_cases h:k<L
 ·rw[f0J h,if_neg (by omega),List.getElem?_replicate,if_pos h]
 ·rw[List.getElem?_eq_none (by rw[d0q];omega),List.getElem?_eq_none (by simp;omega)]
theorem q0C {AF:Nat→ByteArray}{L i:Nat}(h:i<L):(tlS AF L i).set (L-1-i) (AF i)=tlS AF L (i+1):=by
 apply List.ext_getElem?
 intro k;rw[List.getElem?_set,d0q];by_cases hk:k<L
 ·rw[f0J hk,f0J hk];by_cases e:L-1-i=k
  ·subst e;rw[if_pos rfl,if_pos (by omega),if_pos (by omega),show L-1-(L-1-i)=i by omega]
  ·rw[if_neg e];by_cases e2:L-i≤k
   ·rw[if_pos e2,if_pos (by omega)]
   ·rw[if_neg e2,if_neg (by omega)]
 ·rw[List.getElem?_eq_none (l:=tlS AF L i) (by rw[d0q];omega),List.getElem?_eq_none (l:=tlS AF L (i+1)) (by rw[d0q];omega),if_neg (by omega)]
theorem t0k {AF:Nat→ByteArray}{L k:Nat}(h:k<L):(tlS AF L L)[k]?=some (AF (L-1-k)):=by rw[f0J h,if_pos (by omega)]
def fnS (F:Nat→Nat→ByteArray)(L j i:Nat):List ByteArray:=(List.range L).map fun k=>if k<i then F k (j+1) else F k j
theorem c0b (F:Nat→Nat→ByteArray)(L j i:Nat):(fnS F L j i).length=L:=by simp[fnS]
theorem e0c {F:Nat→Nat→ByteArray}{L j i k:Nat}(h:k<L):(fnS F L j i)[k]?=some (if k<i then F k (j+1) else F k j):=by
 unfold fnS;rw[List.getElem?_map,List.getElem?_range h];rfl
theorem w0C {F:Nat→Nat→ByteArray}{L j i:Nat}(h:i<L):(fnS F L j i)[i]?=some (F i j):=by rw[e0c h,if_neg (Nat.lt_irrefl _)]
theorem r0T {F:Nat→Nat→ByteArray}{L j i:Nat}(h:i<L):(fnS F L j i).set i (F i (j+1))=fnS F L j (i+1):=by
 apply List.ext_getElem?
 intro k;rw[List.getElem?_set,c0b];by_cases hk:k<L
 ·rw[e0c hk,e0c hk];by_cases e:i=k
  ·subst e;rw[if_pos rfl,if_pos hk,if_pos (by omega)]
  ·rw[if_neg e];by_cases e2:k<i
   ·rw[if_pos e2,if_pos (by omega)]
   ·rw[if_neg e2,if_neg (by omega)]
 ·rw[List.getElem?_eq_none (l:=fnS F L j i) (by rw[c0b];omega),List.getElem?_eq_none (l:=fnS F L j (i+1)) (by rw[c0b];omega),if_neg (by omega)]
theorem u0D (F:Nat→Nat→ByteArray)(L j:Nat):fnS F L j L=fnS F L (j+1) 0:=by
 apply List.ext_getElem?
 intro k;by_cases hk:k<L
 ·rw[e0c hk,e0c hk,if_pos hk,if_neg (by omega)]
 ·rw[List.getElem?_eq_none (by rw[c0b];omega),List.getElem?_eq_none (by rw[c0b];omega)]
theorem r0S {F:Nat→Nat→ByteArray}(L:Nat){s:ByteArray}(h:∀ i,F i 0=s):fnS F L 0 0=List.replicate L s:=by
 apply List.ext_getElem?
 intro k;by_cases hk:k<L
 ·rw[e0c hk,if_neg (by omega),List.getElem?_replicate,if_pos hk,h]
 ·rw[List.getElem?_eq_none (by rw[c0b];omega),List.getElem?_eq_none (by simp;omega)]
open Go.Sort
theorem q0L (w:World)(bn:Nat)(v1:Value)(most:Int)(g:Int→Nat)(n:Nat)(k:List Int)(hn:n≤32)(hz:zS n g≤2 ^ n)(hr:q0o g n k)(hlen:k.length≤100)(hc:w.cell? ⟨bn,1,none⟩=some v1)(hv:PRow w v1 (k.map fun v=>(v,dyB (g v) n)))(hL:Lay w):
 Calls Tryz.prog 33 #[.int .i64 most,.pointer (some ⟨bn,0,none⟩)] w fun e w'=>e=.returned (.string (dyB (blw g n most) n))∧Below w.heap.size w w':=by
 obtain⟨a,cp,rfl,q1,q2,q3⟩:=hv.ex;obtain⟨L,hLL⟩:∃ L,k.length=L:=⟨_,rfl⟩;have e0:(k.map fun v=>(v,dyB (g v) n)).length=L:=by rw[List.length_map];exact hLL
 rw[e0]at q1 hc;have HLL:=hid hLL;have HL:=hid hL;have HLN:=hid hlen;have H3:=hid q3;have HP:=fun i (v:Int) (h:k[i]?=some v) (h2:v<most)=>hid (u0Z hz hr h h2 (by omega))
 have HS:=fun i (v:Int) (h:k[i]?=some v) (h2:most≤v)=>hid (u0Y (g:=g) h (Int.not_lt.2 h2))
 have HE:=hid (t0c hr most);have HZ0:Hid (dyB (i0s g k most 0) n=⟨#[48]⟩):=by
  show _=_
  unfold i0s;rw[List.take_zero,s0E,i0e]
 clear hv hL hLL e0 q3 hr hz hlen hn;go_enter Tryz.func33,Tryz.ntmps33;go_wp2_with fail
 go_loopw [4,6,10] (fun s4 s6 s10 wr=>∃ i:Nat,s10=.int .i64 (i:Nat)∧i≤L∧s4=.string (dyB (i0s g k most i) n)∧Hid (Below w.heap.size w wr)) (fun s4 s6 s10 wr=>L-(intOf s10).toNat)
 case atStart=>exact⟨0,rfl,Nat.zero_le _,by rw[HZ0.out],Below.refl _ _⟩
 case round=>
  obtain⟨i,rfl,hi,rfl,hB⟩:=hrel;have hl100:=HLN.out;by_cases hlt:i<L
  ·obtain⟨v,hv⟩:∃ v,k[i]?=some v:=⟨_,List.getElem?_eq_getElem (by rw[HLL.out];exact hlt)⟩;obtain⟨gd,od,rfl,hgd,m1,m2⟩:=H3.out i (v,dyB (g v) n) (by rw[List.getElem?_map,hv];rfl);dsimp only at m1 m2;have r1:=(hB.out.cell (p:=⟨gd,od+i*2,none⟩) hgd).trans m1;have r2:=(hB.out.cell (p:=⟨gd,od+i*2+1,none⟩) hgd).trans m2;have f1:(0:Int)≤(i:Int):=by omega
   have f2:(i:Int)<(L:Int):=by omega
   have wi:IntKind.i64.wrap ((i:Int)+1)=((i+1:Nat):Int):=by rw[HLL.out]at hl100;rw[IntWalk.i64_in _ ⟨by omega,by omega⟩];omega
   have PP:=fun V hV=>hid (h0r V (dyB (i0s g k most i) n) (dyB (g v) n) (d0L _ _) (d0L _ _) hV)
   have HPi:=HP i v hv;have HSi:=HS i v hv;obtain⟨S,hS⟩:∃ S,dyB (i0s g k most i) n=S:=⟨_,rfl⟩;obtain⟨Y,hY⟩:∃ S,dyB (g v) n=S:=⟨_,rfl⟩;rw[hS,hY]at PP;rw[hS]at HPi ⊢;rw[hY]at HPi r2;have HS0:=hid hS;have AM:=hid ((Below.refl wr.heap.size wr).alloc (Nat.le_refl _) (.cells #[.int .i64 v,.string Y] 68));have XM:=hid (Blk.new wr #[.int .i64 v,.string Y] 68);have g0:=XM.out.cell 0;have g1:=XM.out.cell 1;simp at g0 g1;have HLT:=hid hlt;by_cases hvm:v<most
   ·have t0:decide (v<most)=true:=decide_eq_true hvm;have HX:=HPi hvm;rw[HX.out]at PP;clear hv hgd m1 m2 hS hY hlt hi hl100 hvm HPi HSi HX;go_wp2_with fail;refine (PP _ (HL.out.call (a0a hB.out AM.out))).out.mono ?_;rintro e w2 ⟨rfl,hb2⟩;have y2:=hid (a0a hB.out (a0a AM.out hb2));clear hb2;go_wp2_with fail;go_roundw
    case rel=>exact⟨i+1,by go_num,HLT.out,rfl,y2⟩
    case measure=>simp[intOf]<;>(have:=HLT.out;omega)
   ·have t0:decide (v<most)=false:=decide_eq_false hvm;have HX:=HSi (Int.not_lt.1 hvm);clear hv hgd m1 m2 hS hY hlt hi hl100 HPi HSi;go_wp2_with fail;go_roundw
    case rel=>exact⟨i+1,by go_num,HLT.out,by rw[HX.out,HS0.out],a0a hB.out AM.out⟩
    case measure=>simp[intOf]<;>(have:=HLT.out;omega)
  ·obtain rfl:i=L:=by omega
   have q0:decide ((i:Int)<(i:Int))=false:=by simp
   have hE:dyB (i0s g k most i) n=dyB (blw g n most) n:=by rw[← HE.out,HLL.out]
   rw[hE];clear hlt hi hl100 hE;go_wp2_with fail;go_ret
   exact⟨rfl,hB.out⟩
theorem v0z (w:World)(x:ByteArray×ByteArray):Calls Tryz.prog 40 #[.agg #[.string x.1,.string x.2]] w fun e w'=>e=.returned (.bool (!s0J x))∧Below w.heap.size w w':=by
 obtain⟨k,v⟩:=x;have X1:=hid (Blk.new w #[.string k,.string v] 39);have z1:=X1.out.cell 1;simp at z1;dsimp only;by_cases h:v=⟨#[48]⟩
 ·subst h;have e1:(!s0J (k,(⟨#[48]⟩:ByteArray)))=true:=by simp[s0J]
  rw[e1];go_enter Tryz.func40,Tryz.ntmps40;go_wp2_with fail;go_ret
  exact⟨rfl,(Below.refl _ _).alloc (Nat.le_refl _) _⟩
 ·have e1:(!s0J (k,v))=false:=by simp[s0J,h]
  rw[e1];have t1:(v.toList == [48])=false:=a0J h;clear h e1;go_enter Tryz.func40,Tryz.ntmps40;go_wp2_with fail;go_ret
  exact⟨rfl,(Below.refl _ _).alloc (Nat.le_refl _) _⟩
theorem q0K (p q:ByteArray×ByteArray)(w:World):Calls Tryz.prog 42 #[.agg #[.string p.1,.string p.2],.agg #[.string q.1,.string q.2]] w fun e w'=>e=.returned (.int .i64 (n0g p q))∧∃ n os',w'=grow (w.drewN n) os':=by
 obtain⟨p1,p2⟩:=p;obtain⟨q1,q2⟩:=q;dsimp only;have HC:=fun V=>hid (i0Z V p1 q1)
 unfold n0g b0p;dsimp only;obtain⟨r,hr⟩:∃ r:Int,(if p1.data.toList<q1.data.toList then (-1:Int) else if q1.data.toList<p1.data.toList then 1 else 0)=r:=⟨_,rfl⟩;rw[hr]at HC ⊢;clear hr;go_enter Tryz.func42,Tryz.ntmps42;go_wp2_with fail;refine (HC _).out.mono ?_;rintro e w1 ⟨rfl,rfl⟩;go_wp2_with fail;go_ret
 exact⟨rfl,0,_,by rw[alloc_eq_grow,alloc_eq_grow,grow_grow];rfl⟩
end Go.Proofs.YtlmnpocifldpmaaGreatDoor
namespace Go.Proofs.YtlmnpocifldpmaaGreatDoor
open Go.RowKit
open Go.Shelf
open Go.Lib (decDigits nDigits)
theorem c0D (w:World)(v:Value)(c:List Int)(thr:Int)(a r:ByteArray)(hv:Row w v (zs c))(ha:a.size≤100000)(hr:r.size≤100000)(hL:Lay w):
 Calls Tryz.prog 31 #[v,.int .i64 thr,.agg #[.string a,.string r]] w fun e w'=>e=.returned (.int .i64 (i0w c thr a r))∧Below w.heap.size w w':=by
 have HA:=fun V hV=>hid (h0q V a ha hV)
 have HB:=fun V hV=>hid (h0q V r hr hV)
 have CO:=fun V v h=>hid (o0i V v [gPE a,gPE r] h)
 rw[f0W]at CO;have HV:=hid hv;obtain⟨s,cp,rfl,q1,q2,q3⟩:=hv.openZ;have HC:=fun V hV=>hid (f0L V (.slice s c.length cp) c 92 f0G hV (by omega) (enters_of Tryz.func92 (by kernel_rfl) rfl) (fun W x=>n0S W x))
 have HT:=fun V=>hid (n0S V thr)
 have HL:=hid hL;have A0:=hid ((Below.refl w.heap.size w).alloc (Nat.le_refl _) (.cells #[.string a,.string r] 60));have X0:=hid (Blk.new w #[.string a,.string r] 60);obtain⟨n,hn⟩:∃ n,c.length=n:=⟨_,rfl⟩;obtain⟨b,hb⟩:∃ b,c.any f0G=b:=⟨_,rfl⟩;obtain⟨bt,hbt⟩:∃ b,f0G thr=b:=⟨_,rfl⟩;obtain⟨x0,hx⟩:∃ z,gPE a=z:=⟨_,rfl⟩;obtain⟨z0,hz⟩:∃ z,gPE r=z:=⟨_,rfl⟩;unfold i0w ctE zE;simp only[hx]at HA;simp only[hz]at HB;rw[hx,hz]at CO ⊢;simp only[hb,hn]at HC;simp only[hbt]at HT;rw[hn]at HV ⊢;rw[hb,hbt];clear hv ha hr hL q1 q2 q3 hn hb hbt hx hz;by_cases h0:n=0
 ·subst h0;rw[if_pos rfl,if_pos (by decide)];go_enter Tryz.func31,Tryz.ntmps31;go_wp2_with fail;go_ret
  exact⟨rfl,A0.out⟩
 have t0:((n:Int)==0)=false:=by rw[beq_eq_false_iff_ne];omega
 by_cases h1:256<n
 ·have t1:decide ((256:Int)<(n:Int))=true:=by simp;omega
  rw[if_neg h0,if_pos h1,if_pos (by decide)];clear h0 h1;go_enter Tryz.func31,Tryz.ntmps31;go_wp2_with fail;go_ret
  exact⟨rfl,A0.out⟩
 have t1:decide ((256:Int)<(n:Int))=false:=by simp;omega
 rw[if_neg h0,if_neg h1];clear h0 h1;cases b
 case true=>
  rw[if_pos rfl,if_pos (by decide)];go_enter Tryz.func31,Tryz.ntmps31;go_wp2_with fail;refine (HC _ (HV.out.call A0.out)).out.mono ?_;rintro e w1 ⟨rfl,rfl⟩;go_wp2_with fail;go_ret
  exact⟨rfl,A0.out⟩
 simp only[Bool.false_eq_true,if_false,ne_eq,not_true_eq_false];cases bt
 case true=>
  simp only[if_true];go_enter Tryz.func31,Tryz.ntmps31;go_wp2_with fail;refine (HC _ (HV.out.call A0.out)).out.mono ?_;rintro e w1 ⟨rfl,rfl⟩;go_wp2_with fail;refine (HT _).out.mono ?_;rintro e w2 ⟨rfl,rfl⟩;go_wp2_with fail;go_ret
  exact⟨rfl,A0.out⟩
 simp only[Bool.false_eq_true,if_false];obtain⟨q,hq⟩:∃ q,(if x0≠0 then x0 else z0)=q:=⟨_,rfl⟩;have hq':(if ¬x0=0 then x0 else z0)=q:=hq;rw[hq]at CO;rw[hq'];have HQ:=hid hq;clear hq hq';go_enter Tryz.func31,Tryz.ntmps31;go_wp2_with fail;refine (HC _ (HV.out.call A0.out)).out.mono ?_;rintro e w1 ⟨rfl,rfl⟩;go_wp2_with fail;refine (HT _).out.mono ?_;rintro e w2 ⟨rfl,rfl⟩;go_wp2_with fail;obtain⟨W,hW⟩:∃ W,w.alloc (.cells #[.string a,.string r] 60)=W:=⟨_,rfl⟩;rw[hW]at A0 X0 ⊢;have KK:Hid (∀ V,Below W.heap.size W V→V.cell? ⟨w.heap.size,0,none⟩=some (.string a)∧V.cell? ⟨w.heap.size,1,none⟩=some (.string r)):=fun V hV=>
  ⟨(X0.out.call hV).cell 0,(X0.out.call hV).cell 1⟩
 clear X0 hW;refine a0n [0,1,3,4] 5 (fun V=>V.cell? ⟨w.heap.size,0,none⟩=some (.string a)∧V.cell? ⟨w.heap.size,1,none⟩=some (.string r)) (by kernel_rfl) (by kernel_rfl) (by kernel_rfl) (by kernel_rfl) (KK.out _ (Below.refl _ _).drew) ?_
 iterate 4
  refine⟨_,rfl,?_⟩;apply Exists.intro
  refine⟨.inl ⟨by rfl,?_⟩,?_⟩
  ·(intro W' hW';obtain⟨q8,q9⟩:=hW';go_simp;try (with_reducible rfl))
  (dsimp only[Act.put];try simp only[List.setIfInBounds_toArray,List.set_cons_zero,List.set_cons_succ])
 refine a0c (i:=2) (by kernel_rfl) (by rfl) (by rfl) ?_;go_wp2_with fail;refine (HA _ (HL.out.call (A0.out.drew))).out.mono ?_;rintro e w3 ⟨rfl,hb3⟩;have y3:=hid (show Below W.heap.size W w3 from (Below.refl _ _).drew.trans hb3);clear hb3;go_wp2_with fail;refine⟨KK.out _ y3.out,?_⟩;refine a0c (i:=5) (by kernel_rfl) (by rfl) (by rfl) ?_;go_wp2_with fail;refine (HB _ (HL.out.call (a0a A0.out y3.out))).out.mono ?_;rintro e w4 ⟨rfl,hb4⟩;have y4:=hid (a0a y3.out hb4);clear hb4;go_wp2_with fail;refine⟨KK.out _ y4.out,?_⟩;refine a0c (i:=6) (by kernel_rfl) (by rfl) (by rfl) ?_;go_wp2_with fail;have y5:=hid (y4.out.alloc y4.out.size (.cells #[.int .i64 x0,.int .i64 z0] 27));refine⟨KK.out _ y5.out,?_⟩;refine a0c (i:=7) (by kernel_rfl) (by rfl) (by rfl) ?_;go_wp2_with fail;refine (CO _ _ (b0r _ _ _ _)).out.mono ?_;rintro e w6 ⟨rfl,rfl⟩;go_wp2_with fail;refine⟨KK.out _ y5.out,?_⟩;refine a0Z (is:=[8]) (g:=0) (by kernel_rfl) rfl (KK.out _ y5.out) (by kernel_rfl) ?_
 iterate 1
  refine⟨_,rfl,?_⟩;apply Exists.intro
  refine⟨.inl ⟨by rfl,?_⟩,?_⟩
  ·(intro W' hW';obtain⟨q8,q9⟩:=hW';go_simp;try (with_reducible rfl))
  (dsimp only[Act.put];try simp only[List.setIfInBounds_toArray,List.set_cons_zero,List.set_cons_succ])
 refine wpAnyH_done (by kernel_rfl) ?_ _;simp only[b0l];go_wp2_with fail;go_ret
 exact⟨rfl,a0a A0.out y5.out⟩
end Go.Proofs.YtlmnpocifldpmaaGreatDoor
namespace Go.Proofs.YtlmnpocifldpmaaGreatDoor
open Go.RowKit
open Go.Lib (decDigits nDigits)
theorem h0j (a b:ByteArray)(hb:b.size≤256) : -256≤(wT a b).2.1∧(wT a b).2.1≤256:=by
 unfold wT
 split
 ·rename_i h
  have he:gPE a=0:=by
   unfold gE at h
   split at h
   ·rename_i h2;exact absurd h h2
   ·rename_i h2;exact Classical.byContradiction h2
  have hl:b.data.toList.length=b.size:=a0r b;obtain⟨u,_,h2⟩:=w0J (b0S he).2 true b.data.toList;have e:v0p (bN (cW a)) (bN (qD a)) b.data.toList=drT (bN (cW a)) (bN (qD a)) true b.data.toList:=rfl;rw[e];rcases h2 with ⟨-,h2⟩ | ⟨v,h3,h4,-,h2⟩
  ·rw[h2];simp
  ·rw[h2];simp;omega
 ·simp
def nzL (r:ByteArray)(c:List Int)(bs:List ByteArray):List Int:=List.zipWith (fun n b=>n+(wT r b).2.1) c bs
def dnL (r:ByteArray)(bs:List ByteArray):Bool:=bs.all fun b=>(wT r b).1
theorem d0v {r:ByteArray}{c:List Int}{bs:List ByteArray}(h:bs.length=c.length):(nzL r c bs).length=c.length:=by unfold nzL;rw[List.length_zipWith,h,Nat.min_self]
theorem u0b {r:ByteArray}{c:List Int}{bs:List ByteArray}{i:Nat}{n:Int}{b:ByteArray}(h1:c[i]?=some n)(h2:bs[i]?=some b):(nzL r c bs)[i]?=some (n+(wT r b).2.1):=by
 unfold nzL;rw[List.getElem?_zipWith,h1,h2]
theorem o0L {r:ByteArray}:∀ {c:List Int} {bs:List ByteArray},bs.length=c.length→nzO true r c bs=if dnL r bs=true then some (nzL r c bs) else none
 | [],[],_=>rfl
 | n::cs,b::bs,h=>by
  have ih:=o0L (r:=r) (c:=cs) (bs:=bs) (by simpa using h);rw[nzO,ih];unfold nz1;simp only[if_true];unfold dnL nzL;rw[List.all_cons,List.zipWith_cons_cons];by_cases h1:(wT r b).1=true
  ·rw[if_pos h1,h1,Bool.true_and];by_cases h2:(bs.all fun b=>(wT r b).1)=true
   ·rw[if_pos h2,if_pos h2];rfl
   ·rw[if_neg h2,if_neg h2];rfl
  ·rw[if_neg h1];have h3:(wT r b).1=false:=Bool.eq_false_iff.2 h1;have h4:((wT r b).1 && bs.all fun b=>(wT r b).1)=false:=by rw[h3,Bool.false_and]
   rw[h4];rfl
 | n::cs,[],h=>by simp at h
 | [],b::bs,h=>by simp at h
def nzP (r:ByteArray)(c:List Int)(bs:List ByteArray)(i:Nat):List Int:=(nzL r c bs).take i++c.drop i
theorem r0s (r:ByteArray)(c:List Int)(bs:List ByteArray):nzP r c bs 0=c:=by unfold nzP;rw[List.take_zero,List.drop_zero,List.nil_append]
theorem t0Z {r:ByteArray}{c:List Int}{bs:List ByteArray}(h:bs.length=c.length):nzP r c bs c.length=nzL r c bs:=by
 unfold nzP;rw[List.drop_length,List.append_nil,List.take_of_length_le (by rw[d0v h];exact Nat.le_refl _)]
theorem v0Z {r:ByteArray}{c:List Int}{bs:List ByteArray}(h:bs.length=c.length){i:Nat}{n:Int}(h1:c[i]?=some n):(nzP r c bs i)[i]?=some n:=by
 have hi:=(List.getElem?_eq_some_iff.1 h1).1;unfold nzP;have hl:((nzL r c bs).take i).length=i:=by rw[List.length_take,d0v h];omega
 rw[List.getElem?_append_right (by omega),hl,Nat.sub_self,List.getElem?_drop,Nat.add_zero,h1]
theorem r0t {r:ByteArray}{c:List Int}{bs:List ByteArray}(h:bs.length=c.length){i:Nat}{n:Int}{b:ByteArray}(h1:c[i]?=some n)(h2:bs[i]?=some b):(nzP r c bs i).set i (n+(wT r b).2.1)=nzP r c bs (i+1):=by
 have hi:=(List.getElem?_eq_some_iff.1 h1).1;unfold nzP;have hl:((nzL r c bs).take i).length=i:=by rw[List.length_take,d0v h];omega
 rw[List.set_append_right _ _ (by omega),hl,Nat.sub_self,List.take_add_one,u0b h1 h2,Option.toList_some,List.append_assoc,List.drop_eq_getElem_cons hi,List.set_cons_zero]
 rfl
theorem s0d {r:ByteArray}{bs:List ByteArray}{i:Nat}{b:ByteArray}(h:bs[i]?=some b):dnL r (bs.take (i+1))=(dnL r (bs.take i) && (wT r b).1):=by
 unfold dnL;rw[List.take_add_one,h,Option.toList_some,List.all_append];simp
theorem u0a {r:ByteArray}{c:List Int}{bs:List ByteArray}(hc:∀ x∈c,-1125899906842624≤x∧x≤1125899906842624)(hb:∀ b∈bs,b.size≤256):∀ x∈nzL r c bs,-1125899906842880≤x∧x≤1125899906842880:=fun x hx=>by
 obtain⟨i,hi⟩:=List.getElem?_of_mem hx;unfold nzL at hi;rw[List.getElem?_zipWith]at hi;cases h1:c[i]? with
 | none=>rw[h1]at hi;cases hi
 | some n=>
  cases h2:bs[i]? with
  | none=>rw[h1,h2]at hi;cases hi
  | some b=>
   rw[h1,h2]at hi;cases hi
   have:=hc n (List.mem_of_getElem? h1);have:=h0j r b (hb b (List.mem_of_getElem? h2));omega
structure FsOk (c:List Int)(thr:Int)(a r:ByteArray)(b:List ByteArray):Prop where
 pos:1≤c.length
 le:c.length≤256
 rng:∀ x∈c,-1125899906842624≤x∧x≤1125899906842624
 thr : -1125899906842624≤thr∧thr≤1125899906842624
 len:b.length=c.length+1
 b:∀ x∈b,d0l x=0
theorem k0Y {x:Int}(h:f0G x=false) : -1125899906842624≤x∧x≤1125899906842624:=by
 unfold f0G at h;simp at h;omega
theorem l0f {c:List Int}{thr:Int}{a r:ByteArray}(h:i0w c thr a r=0):1≤c.length∧c.length≤256∧(∀ x∈c,-1125899906842624≤x∧x≤1125899906842624) ∧ -1125899906842624≤thr∧thr≤1125899906842624:=by
 obtain⟨h1,h2,-,-⟩:=k0h h;unfold ctE zE at h1
 split at h1
 ·cases h1
 rename_i k0
 split at h1
 ·cases h1
 rename_i k1
 split at h1
 ·cases h1
 rename_i k2
 refine⟨by omega,by omega,fun x hx=>k0Y ?_,k0Y h2⟩;have k3:c.any f0G=false:=by simpa using k2
 rw[List.any_eq_false]at k3;simpa using k3 x hx
theorem p0s {c:List Int}{thr:Int}{a r:ByteArray}{b:List ByteArray}(h:fsE c thr a r b=0):FsOk c thr a r b:=by
 have hq:i0w c thr a r=0:=by
  unfold fsE at h
  split at h
  ·rename_i h1;exact absurd h h1
  ·rename_i h1;exact Classical.byContradiction h1
 have hw:wdE b ((c.length+1:Nat):Int)=0:=by
  unfold fsE at h;rw[if_neg (by simpa using hq)]at h;exact h
 obtain⟨q1,q2,q3,q4⟩:=l0f hq;unfold wdE at hw
 split at hw
 ·rename_i hl
  exact⟨q1,q2,q3,q4,by omega,m0d.1 hw⟩
 ·cases hw
theorem w0y {c:List Int}{thr:Int}{a r b0:ByteArray}{bs:List ByteArray}(h:fsE c thr a r (b0::bs)=0):
 fsA c thr a r (b0::bs)=if ((wT a b0).1 && dnL r bs)=true then fsV c.length (some (h0Z (thr+(wT a b0).2.1) (nzL r c bs))) else (0,false):=by
 have OK:=p0s h;have hl:bs.length=c.length:=by have:=OK.len;rw[List.length_cons]at this;omega
 unfold fsA;rw[if_pos h,sqO,o0L hl];unfold nz1;simp only[if_true];cases (wT a b0).1
 ·simp only[Bool.false_and,Bool.false_eq_true,if_false];rfl
 ·simp only[Bool.true_and,if_true];cases dnL r bs
  ·simp only[Bool.false_eq_true,if_false];rfl
  ·simp only[if_true];rfl
theorem u0t {t:Int}{l:List Int}{i:Nat}{x:Int}(h:l[i]?=some x)(hx:t≤x)(hb:∀ (j:Nat) (y:Int),j<i→l[j]?=some y→¬ t≤y):h0Z t l=i:=by
 obtain⟨hi,e⟩:=List.getElem?_eq_some_iff.1 h;unfold h0Z;rw[List.findIdx_eq hi];refine⟨by rw[e];exact decide_eq_true hx,fun j hj=>decide_eq_false (hb j _ hj (List.getElem?_eq_getElem (Nat.lt_trans hj hi)))⟩
theorem p0l {t:Int}{l:List Int}(hb:∀ (j:Nat) (y:Int),j<l.length→l[j]?=some y→¬ t≤y):h0Z t l=l.length:=by
 unfold h0Z;rw[List.findIdx_eq_length];intro x hx;obtain⟨j,hj⟩:=List.getElem?_of_mem hx;exact decide_eq_false (hb j x (List.getElem?_eq_some_iff.1 hj).1 hj)
end Go.Proofs.YtlmnpocifldpmaaGreatDoor
