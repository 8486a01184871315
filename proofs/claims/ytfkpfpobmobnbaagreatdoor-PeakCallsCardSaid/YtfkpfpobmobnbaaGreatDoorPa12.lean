/- Texts that the proof rests on, merged: R2c, R2o, Rl0, Ns, Chn, RdF, R2t, Qb, Rnm, Rls, Chp, R4s, R4a, R4b, Rg0, R4c, R4d, Law, R6s, R6h. -/
import Derived.Test.YtfkpfpobmobnbaaGreatDoorPa11
import Derived.Deep.RegionHeld3
import Derived.Deep.DeepCutAuto
import Derived.IntWalk
set_option linter.defProp false
set_option linter.unusedVariables false
set_option linter.unusedSimpArgs false
set_option linter.unusedSectionVars false
set_option maxRecDepth 100000
set_option maxHeartbeats 8000000
namespace Go.Proofs.YtfkpfpobmobnbaaGreatDoor
section
open Go.RowKit
def e0D (w:World)(v u:Value)(p q:Rat)(hp:IsQ .i64 w v p)(hq:IsQ .i64 w u q)
 (h1:(limbs p.num.natAbs).length<=100000) (h2:(limbs p.den).length<=100000) (h3:(limbs q.num.natAbs).length<=100000) (h4:(limbs q.den).length<=100000):
 Calls Tryz.prog 72 #[v,u] w fun e w'=>k0T .i64 (p*q) e w'/\Below w.heap.size w w':=by
 have HQ:=hid (i0w p q);rw[<- HQ.out];have hD:=hid (Dr p.den_pos q.den_pos);obtain⟨N1,D1,rfl,hn1,hd1⟩:=hp.ex;obtain⟨N2,D2,rfl,hn2,hd2⟩:=hq.ex;clear hp hq HQ;generalize decide (p.num<0)=m1 at *
 generalize decide (q.num<0)=m2 at *
 generalize p.num.natAbs=n1 at *
 generalize q.num.natAbs=n2 at *
 generalize p.den=d1 at *
 generalize q.den=d2 at *
 have HN1:=hid hn1;have HD1:=hid hd1;have HN2:=hid hn2;have HD2:=hid hd2;have L1:=hid (O0 (a0H h1 h3) (show 100000+100000<=1000000 by omega));have L2:=hid (O0 (a0H h2 h4) (show 100000+100000<=1000000 by omega));have H1:=hid (O0 h1 (show 100000<=1000000 by omega));have H2:=hid (O0 h2 (show 100000<=1000000 by omega));have H3:=hid (O0 h3 (show 100000<=1000000 by omega));have H4:=hid (O0 h4 (show 100000<=1000000 by omega));clear h1 h2 h3 h4;obtain⟨a1,c1,rfl,_⟩:=hn1.openI;obtain⟨a2,c2,rfl,_⟩:=hd1.openI;obtain⟨a3,c3,rfl,_⟩:=hn2.openI;obtain⟨a4,c4,rfl,_⟩:=hd2.openI;clear hn1 hd1 hn2 hd2;go_enter Tryz.func72,Tryz.ntmps72;go_wp2_with fail;obtain⟨W,hW⟩:=gn (((w.alloc (.cells #[.bool m1,.slice a1 (limbs n1).length c1,.slice a2 (limbs d1).length c2] 81)).alloc (.cells #[.bool m2,.slice a3 (limbs n2).length c3,.slice a4 (limbs d2).length c4] 81)).alloc (.cells #[.bool false,.slice none 0 0,.slice none 0 0] 81));rw[hW];have X0:Below w.heap.size w W:=by rw[<- hW];exact ((br0.alloc nr0 _).alloc (by simp) _).alloc (by simp;omega) _
 have Y0:Blk W w.heap.size #[.bool m1,.slice a1 (limbs n1).length c1,.slice a2 (limbs d1).length c2] 81:=by rw[<- hW];exact ((Blk.new w _ _).alloc _).alloc _
 have Y1:Blk W (w.heap.size+1) #[.bool m2,.slice a3 (limbs n2).length c3,.slice a4 (limbs d2).length c4] 81:=by rw[<- hW];exact (Blk.made (w.alloc _) _ _ (by simp)).alloc _
 have Y2:Blk W (w.heap.size+1+1) #[.bool false,.slice none 0 0,.slice none 0 0] 81:=by rw[<- hW];exact Blk.made ((w.alloc _).alloc _) _ _ (by simp)
 have K0:∀ w',Blk w' w.heap.size #[.bool m1,.slice a1 (limbs n1).length c1,.slice a2 (limbs d1).length c2] 81->Blk w' (w.heap.size+1) #[.bool m2,.slice a3 (limbs n2).length c3,.slice a4 (limbs d2).length c4] 81 ->
  w'.cell? ⟨w.heap.size,0,none⟩=some (.bool m1)/\w'.cell? ⟨w.heap.size,1,none⟩=some (.slice a1 (limbs n1).length c1)/\w'.cell? ⟨w.heap.size,2,none⟩=some (.slice a2 (limbs d1).length c2) /\
  w'.cell? ⟨w.heap.size+1,0,none⟩=some (.bool m2)/\w'.cell? ⟨w.heap.size+1,1,none⟩=some (.slice a3 (limbs n2).length c3)/\w'.cell? ⟨w.heap.size+1,2,none⟩=some (.slice a4 (limbs d2).length c4):=
  fun w' y0 y1=>⟨y0.cell 0,y0.cell 1,y0.cell 2,y1.cell 0,y1.cell 1,y1.cell 2⟩
 have K:Hid (∀ w',Below W.heap.size W w'->w'.cell? ⟨w.heap.size,0,none⟩=some (.bool m1)/\w'.cell? ⟨w.heap.size,1,none⟩=some (.slice a1 (limbs n1).length c1)/\w'.cell? ⟨w.heap.size,2,none⟩=some (.slice a2 (limbs d1).length c2) /\
  w'.cell? ⟨w.heap.size+1,0,none⟩=some (.bool m2)/\w'.cell? ⟨w.heap.size+1,1,none⟩=some (.slice a3 (limbs n2).length c3)/\w'.cell? ⟨w.heap.size+1,2,none⟩=some (.slice a4 (limbs d2).length c4)):=fun w' hb=>K0 w' (Y0.call hb) (Y1.call hb)
 have K2:Hid (∀ w1 x y z,Below W.heap.size W w1->∀ w',((w1.setCell ⟨w.heap.size+1+1,0,none⟩ x).setCell ⟨w.heap.size+1+1,1,none⟩ y).setCell ⟨w.heap.size+1+1,2,none⟩ z=w'->w'.cell? ⟨w.heap.size,0,none⟩=some (.bool m1)/\w'.cell? ⟨w.heap.size,1,none⟩=some (.slice a1 (limbs n1).length c1)/\w'.cell? ⟨w.heap.size,2,none⟩=some (.slice a2 (limbs d1).length c2) /\
  w'.cell? ⟨w.heap.size+1,0,none⟩=some (.bool m2)/\w'.cell? ⟨w.heap.size+1,1,none⟩=some (.slice a3 (limbs n2).length c3)/\w'.cell? ⟨w.heap.size+1,2,none⟩=some (.slice a4 (limbs d2).length c4)):=by
  rintro w1 x y z hb _ rfl;exact K0 _ ((((Y0.call hb).other (by simp;omega) _).other (by simp;omega) _).other (by simp;omega) _) ((((Y1.call hb).other (by simp) _).other (by simp) _).other (by simp) _)
 have HY2:=hid Y2;have HX0:=hid X0;obtain⟨k0,k1,k2,k3,k4,k5⟩:=K W br0;clear K0;clear Y0 Y1 Y2 X0 hW;have XN1:=hid (HN1.out.call HX0.out);have XD1:=hid (HD1.out.call HX0.out);have XN2:=hid (HN2.out.call HX0.out);have XD2:=hid (HD2.out.call HX0.out)
 go_region_held3 (fun w'=>w'.cell? ⟨w.heap.size,0,none⟩=some (.bool m1)/\w'.cell? ⟨w.heap.size,1,none⟩=some (.slice a1 (limbs n1).length c1)/\w'.cell? ⟨w.heap.size,2,none⟩=some (.slice a2 (limbs d1).length c2) /\
  w'.cell? ⟨w.heap.size+1,0,none⟩=some (.bool m2)/\w'.cell? ⟨w.heap.size+1,1,none⟩=some (.slice a3 (limbs n2).length c3)/\w'.cell? ⟨w.heap.size+1,2,none⟩=some (.slice a4 (limbs d2).length c4))
  (first
   | exact K.out _ br0.drew
   | exact K2.out _ _ _ _ B3.out _ rfl
   | exact K.out _ B3.out
   | exact K.out _ B2.out
   | exact K.out _ B1.out)
  (first
   | (go_at_call_of 176 (Value.slice a1 (limbs n1).length c1);refine (b0m _ _ _ n1 n2 (XN1.out.call (by first | exact B2.out | exact br0.drew)) (XN2.out.call (by first | exact B2.out | exact br0.drew)) H1.out H3.out).mono ?_;rintro e w1 ⟨⟨v1,rfl,hv1⟩,hb1⟩;have B1:=hid (a0a (by first | exact B2.out | exact br0.drew) hb1))
   | (go_at_call_of 176 (Value.slice a2 (limbs d1).length c2);refine (b0m _ _ _ d1 d2 (XD1.out.call (by first | exact B1.out | exact br0.drew)) (XD2.out.call (by first | exact B1.out | exact br0.drew)) H2.out H4.out).mono ?_;rintro e w2 ⟨⟨v2,rfl,hv2⟩,hb2⟩;have B2:=hid (a0a (by first | exact B1.out | exact br0.drew) hb2))
   | (go_at_call 175;refine (j0X _ _ _ _ (n1*n2) (d1*d2) (by first | exact hv1 | exact hv1.call hb2) (by first | exact hv2 | exact hv2.call hb1) hD.out L1.out L2.out).mono ?_;rintro e w3 ⟨⟨v3,rfl,hv3⟩,hb3⟩;obtain⟨N3,D3,rfl,hN3,hD3⟩:=hv3.ex;have B3:=hid (a0a (by first | exact B2.out | exact B1.out) hb3);obtain⟨a5,c5,rfl,_⟩:=hN3.openI;obtain⟨a6,c6,rfl,_⟩:=hD3.openI;have HN3:=hid hN3;have HD3:=hid hD3;have Z:=hid (HY2.out.call B3.out);have t0:=Z.out.cell 0;have t1:=Z.out.cell 1;have t2:=Z.out.cell 2;have t3:=Z.out.free 0;have t4:=Z.out.free 1;have t5:=Z.out.free 2;clear hv3 hN3 hD3))
 have hbn:(!(m1==m2))=(m1 != m2):=rfl;rw[hbn]at *;go_wp2_with fail;obtain⟨s1,s2⟩:=c0W Z.out (decide ((qmk (m1 != m2) (n1*n2) (d1*d2)).num<0)) a5 a6 (limbs (qmk (m1 != m2) (n1*n2) (d1*d2)).num.natAbs).length c5 (limbs (qmk (m1 != m2) (n1*n2) (d1*d2)).den).length c6;have f0:=s2.cell 0;have f1:=s2.cell 1;have f2:=s2.cell 2;simp at f0 f1 f2;refine Z6 (v:=.agg #[.bool (decide ((qmk (m1 != m2) (n1*n2) (d1*d2)).num<0)),.slice a5 (limbs (qmk (m1 != m2) (n1*n2) (d1*d2)).num.natAbs).length c5,.slice a6 (limbs (qmk (m1 != m2) (n1*n2) (d1*d2)).den).length c6]) (by simp[results,Tryz.results72,go_sem,f0,f1,f2]) rfl ⟨⟨_,rfl,⟨_,_,rfl,s1 _ _ _ HN3.out,s1 _ _ _ HD3.out⟩⟩,?_⟩;exact (((HX0.out.trans (B3.out.mono (O0 nr0 HX0.out.size))).setCell (by simp;omega) _).setCell (by simp;omega) _).setCell (by simp;omega) _
open Go.Lib (decDigits nDigits)
def Qv (v:Value):Prop:=∃ (m:Bool) (a:Option Addr) (n c:Nat) (a':Option Addr) (n' c':Nat),v=.agg #[.bool m,.slice a n c,.slice a' n' c']
theorem IsQ.qv {k:IntKind}{w:World}{v:Value}{q:Rat}(h:IsQ k w v q):Qv v:=by
 obtain⟨N,D,rfl,h1,h2⟩:=h.ex;obtain⟨a1,c1,rfl,_⟩:=h1.openI;obtain⟨a2,c2,rfl,_⟩:=h2.openI;exact⟨_,_,_,_,_,_,_,rfl⟩
theorem RetQE.open {s:ByteArray}{e:Ending}{w':World}(h:RetQE s e w'):∃ (m:Bool) (a:Option Addr) (n c:Nat) (a':Option Addr) (n' c':Nat),e=.returned (.tuple #[.agg #[.bool m,.slice a n c,.slice a' n' c'],.int .i64 (qE s)])/\(qE s=0->IsQ .i64 w' (.agg #[.bool m,.slice a n c,.slice a' n' c']) (vQ s))/\(qE s≠0->m=false/\a=none/\n=0/\c=0/\a'=none/\n'=0/\c'=0):=by
 obtain⟨v,rfl,h1,h2⟩:=h;by_cases h0:qE s=0
 .obtain⟨m,a,n,c,a',n',c',rfl⟩:=(h1 h0).qv;exact⟨m,a,n,c,a',n',c',rfl,h1,fun h=>absurd h0 h⟩
 .obtain rfl:=h2 h0;exact⟨_,_,_,_,_,_,_,rfl,h1,fun _=>⟨rfl,rfl,rfl,rfl,rfl,rfl,rfl⟩⟩
theorem IsQ.keep {k:IntKind}{w w':World}{v:Value}{q:Rat}(h:IsQ k w v q)(f:∀ k v x,IsN k w v x->IsN k w' v x):IsQ k w' v q:=by
 obtain⟨N,D,rfl,h1,h2⟩:=h.ex;exact⟨N,D,rfl,f _ _ _ h1,f _ _ _ h2⟩
theorem IsN.drew {k:IntKind}{w:World}{v:Value}{n:Nat}(h:IsN k w v n):IsN k w.drew v n:=Row.drew h
def b1a (s t:ByteArray)(e:Ending)(w':World):Prop:=∃ (m:Bool) (a:Option Addr) (n c:Nat) (a':Option Addr) (n' c':Nat) (m2:Bool) (b:Option Addr) (j d:Nat) (b':Option Addr) (j' d':Nat),
 e=.returned (.tuple #[.agg #[.bool m,.slice a n c,.slice a' n' c'],.agg #[.bool m2,.slice b j d,.slice b' j' d'],.int .i64 (if qE s=0 then qE t else qE s)]) /\
 (qE s=0->qE t=0->IsQ .i64 w' (.agg #[.bool m,.slice a n c,.slice a' n' c']) (vQ s)/\IsQ .i64 w' (.agg #[.bool m2,.slice b j d,.slice b' j' d']) (vQ t))
def v0h (w:World)(s t:ByteArray)(hs:s.size<=1000000)(ht:t.size<=1000000):
 Calls Tryz.prog 148 #[.string s,.string t] w fun e w'=>b1a s t e w'/\Below w.heap.size w w':=by
 have R1:=fun V=>hid (c0X V s hs)
 have R2:=fun V=>hid (c0X V t ht)
 have t1:=hid ((Z3 w.heap.size w).alloc nr0 (.cells #[.bool false,.slice none 0 0,.slice none 0 0] 81));have u0:=hid ((Blk.new w #[.bool false,.slice none 0 0,.slice none 0 0] 81).alloc (.cells #[.bool false,.slice none 0 0,.slice none 0 0] 81));have u1:=hid (Blk.made (w.alloc (.cells #[.bool false,.slice none 0 0,.slice none 0 0] 81)) #[.bool false,.slice none 0 0,.slice none 0 0] 81 (n:=w.heap.size+1) (by simp));have u2:=hid (t1.out.alloc (by simp) (.cells #[.bool false,.slice none 0 0,.slice none 0 0] 81));clear hs ht t1;go_enter Tryz.func148,Tryz.ntmps148;go_wp2_with fail;refine (R1 _).out.mono ?_;rintro e w1 ⟨hr1,hb1⟩;obtain⟨m,a,n,c,a',n',c',rfl,h1,h2⟩:=hr1.open;have v0:=hid (u0.out.call hb1);have v1:=hid (u1.out.call hb1);have v2:=hid (a0a u2.out hb1);have l1:=v1.out.lt;obtain⟨x,hx⟩:=gn (qE s);have HXX:=hid hx;by_cases h0:x=0
 .subst h0;rw[hx];have Q1:=hid (h1 hx);clear h1 h2 hr1 hb1 R1 hx;have X7:=hid (Blk.new w1 #[.bool m,.slice a n c,.slice a' n' c'] 81);have b7:=hid ((Z3 w1.heap.size w1).alloc nr0 (.cells #[.bool m,.slice a n c,.slice a' n' c'] 81));have x0:=hid (v0.out.call b7.out);have x1:=hid (v1.out.call b7.out);have x2:=hid (a0a v2.out b7.out);have Q2:=hid (Q1.out.call b7.out);clear v0 v1 v2 Q1 b7;go_wp2_with fail;refine (R2 _).out.mono ?_;rintro e w2 ⟨hr2,hb2⟩;obtain⟨m2,b,j,d,b',j',d',rfl,k1,k2⟩:=hr2.open;have y0:=hid (x0.out.call hb2);have y1:=hid (x1.out.call hb2);have y2:=hid (a0a x2.out hb2);have y7:=hid (X7.out.call hb2);have Q3:=hid (Q2.out.call hb2);have K1:=hid k1;clear x0 x1 x2 X7 Q2 hb2 hr2 k1 k2 R2;have l2:=y7.out.lt;have n6:(w.heap.size=w2.heap.size)=False:=by simp;omega
  clear l1 l2;obtain⟨z,hz⟩:=gn (qE t);have HZ:=hid hz;rw[hz];clear hz;have X9:=hid (Blk.new w2 #[.bool m2,.slice b j d,.slice b' j' d'] 81);have b9:=hid ((Z3 w2.heap.size w2).alloc nr0 (.cells #[.bool m2,.slice b j d,.slice b' j' d'] 81));have z0:=hid (y0.out.call b9.out);have z1:=hid (y1.out.call b9.out);have z2:=hid (a0a y2.out b9.out);have z7:=hid (y7.out.call b9.out);have Q4:=hid (Q3.out.call b9.out);have K2:=fun h=>hid ((K1.out h).call b9.out)
  clear y0 y1 y2 y7 Q3 b9 K1;have HH1:=z0.out.cell 0;have HH2:=z0.out.cell 1;have HH3:=z0.out.cell 2;have HH4:=z0.out.free 0;have HH5:=z0.out.free 1;have HH6:=z0.out.free 2;have KK1:=z1.out.cell 0;have KK2:=z1.out.cell 1;have KK3:=z1.out.cell 2;have KK4:=z1.out.free 0;have KK5:=z1.out.free 1;have KK6:=z1.out.free 2;have JJ1:=z7.out.cell 0;have JJ2:=z7.out.cell 1;have JJ3:=z7.out.cell 2;simp at HH1 HH2 HH3 KK1 KK2 KK3 JJ1 JJ2 JJ3;have II1:=X9.out.cell 0;have II2:=X9.out.cell 1;have II3:=X9.out.cell 2;simp at II1 II2 II3;go_wp2_with fail
  go_region
  obtain⟨p1,p2⟩:=c0W z0.out m a a' n c n' c';have r1:=((z1.out.other (a:=⟨w.heap.size,0,none⟩) (by simp) (.bool m)).other (a:=⟨w.heap.size,1,none⟩) (by simp) (.slice a n c)).other (a:=⟨w.heap.size,2,none⟩) (by simp) (.slice a' n' c');obtain⟨p3,p4⟩:=c0W r1 m2 b b' j d j' d';have p5:=((p2.other (a:=⟨w.heap.size+1,0,none⟩) (by simp) (.bool m2)).other (a:=⟨w.heap.size+1,1,none⟩) (by simp) (.slice b j d)).other (a:=⟨w.heap.size+1,2,none⟩) (by simp) (.slice b' j' d');have f0:=p5.drew.cell 0;have f1:=p5.drew.cell 1;have f2:=p5.drew.cell 2;have g0:=p4.drew.cell 0;have g1:=p4.drew.cell 1;have g2:=p4.drew.cell 2;simp at f0 f1 f2 g0 g1 g2;go_wp2_with fail;refine Z6 (v:=.tuple #[.agg #[.bool m,.slice a n c,.slice a' n' c'],.agg #[.bool m2,.slice b j d,.slice b' j' d'],.int .i64 z]) (by simp[results,Tryz.results148,go_sem,f0,f1,f2,g0,g1,g2]) rfl ⟨⟨m,a,n,c,a',n',c',m2,b,j,d,b',j',d',by rw[J2 HXX.out,HZ.out],fun h1 h2=>⟨(Q4.out.keep fun k v x h=>(p3 _ _ _ (p1 _ _ _ h)).drew),((K2 h2).out.keep fun k v x h=>(p3 _ _ _ (p1 _ _ _ h)).drew)⟩⟩,?_⟩;exact ((((((z2.out.setCell nr0 _).setCell nr0 _).setCell nr0 _).setCell (Fi _) _).setCell (Fi _) _).setCell (Fi _) _).drew
 .rw[hx];have q0:(x != 0)=true:=by simpa using h0
  obtain⟨rfl,rfl,rfl,rfl,rfl,rfl,rfl⟩:=h2 (by rw[hx];exact h0);have H0:=hid h0;clear h1 h2 hr1 hb1 R1 R2 hx h0;have X7:=hid (Blk.new w1 #[.bool false,.slice none 0 0,.slice none 0 0] 81);have b7:=hid ((Z3 w1.heap.size w1).alloc nr0 (.cells #[.bool false,.slice none 0 0,.slice none 0 0] 81));have x0:=hid (v0.out.call b7.out);have x1:=hid (v1.out.call b7.out);have x2:=hid (a0a v2.out b7.out);clear v0 v1 v2 b7;have HH1:=x0.out.cell 0;have HH2:=x0.out.cell 1;have HH3:=x0.out.cell 2;have HH4:=x0.out.free 0;have HH5:=x0.out.free 1;have HH6:=x0.out.free 2;have KK1:=x1.out.cell 0;have KK2:=x1.out.cell 1;have KK3:=x1.out.cell 2;have KK4:=x1.out.free 0;have KK5:=x1.out.free 1;have KK6:=x1.out.free 2;have JJ1:=X7.out.cell 0;have JJ2:=X7.out.cell 1;have JJ3:=X7.out.cell 2;simp at HH1 HH2 HH3 KK1 KK2 KK3 JJ1 JJ2 JJ3;go_wp2_with fail
  go_region
  obtain⟨p1,p2⟩:=c0W x0.out false none none 0 0 0 0;have r1:=((x1.out.other (a:=⟨w.heap.size,0,none⟩) (by simp) (.bool false)).other (a:=⟨w.heap.size,1,none⟩) (by simp) (.slice none 0 0)).other (a:=⟨w.heap.size,2,none⟩) (by simp) (.slice none 0 0);obtain⟨p3,p4⟩:=c0W r1 false none none 0 0 0 0;have p5:=((p2.other (a:=⟨w.heap.size+1,0,none⟩) (by simp) (.bool false)).other (a:=⟨w.heap.size+1,1,none⟩) (by simp) (.slice none 0 0)).other (a:=⟨w.heap.size+1,2,none⟩) (by simp) (.slice none 0 0);have f0:=p5.drew.cell 0;have f1:=p5.drew.cell 1;have f2:=p5.drew.cell 2;have g0:=p4.drew.cell 0;have g1:=p4.drew.cell 1;have g2:=p4.drew.cell 2;simp at f0 f1 f2 g0 g1 g2;go_wp2_with fail;refine Z6 (v:=.tuple #[.agg #[.bool false,.slice none 0 0,.slice none 0 0],.agg #[.bool false,.slice none 0 0,.slice none 0 0],.int .i64 x]) (by simp[results,Tryz.results148,go_sem,f0,f1,f2,g0,g1,g2]) rfl ⟨⟨false,none,0,0,none,0,0,false,none,0,0,none,0,0,by rw[U0 (by rw[HXX.out];exact H0.out),HXX.out],fun h1=>absurd (HXX.out.symm.trans h1) H0.out⟩,?_⟩;exact ((((((x2.out.setCell nr0 _).setCell nr0 _).setCell nr0 _).setCell (Fi _) _).setCell (Fi _) _).setCell (Fi _) _).drew
def a1E {q:Rat}{K:Nat}(h1:nDigits q.num.natAbs<=K)(h2:nDigits q.den<=K):Dig K q:=
 ⟨U6 (Da _) (H6 (by omega) h1),U6 (Da _) (H6 (by omega) h2)⟩
def c0t {q:Rat}(h:¬ ovQ q):Dig 4000 q:=by
 unfold ovQ at h;exact a1E (by omega) (by omega)
theorem Dig.limbs {K L:Nat}{q:Rat}(h:Dig K q)(h0:0<K)(hl:K<=9*L):(limbs q.num.natAbs).length<=L/\(limbs q.den).length<=L:=
 ⟨c0C (O0 (a0l h0 h.n) hl),c0C (O0 (a0l h0 h.d) hl)⟩
def c1i (F:Nat)(f:Rat->Rat->Rat):Prop:=∀ (w:World) (v u:Value) (p q:Rat),IsQ .i64 w v p->IsQ .i64 w u q->Dig 4000 p->Dig 4000 q ->
 Calls Tryz.prog F #[v,u] w fun e w'=>k0T .i64 (f p q) e w'/\Below w.heap.size w w'
def w0Q:c1i 75 (· + ·):=fun w v u p q hp hq h1 h2=>by
 have l1:=h1.limbs (L:=100000) (by omega) (by omega);have l2:=h2.limbs (L:=100000) (by omega) (by omega);exact i0t w v u p q hp hq l1.1 l1.2 l2.1 l2.2
def t0J:c1i 72 (· * ·):=fun w v u p q hp hq h1 h2=>by
 have l1:=h1.limbs (L:=100000) (by omega) (by omega);have l2:=h2.limbs (L:=100000) (by omega) (by omega);exact e0D w v u p q hp hq l1.1 l1.2 l2.1 l2.2
def z0k (w:World)(s t:ByteArray)(hs:s.size<=1000000)(ht:t.size<=1000000):
 Calls Tryz.prog 54 #[.string s,.string t] w fun e w'=>e=.returned (.tuple #[.string (d0j (· * ·) s t),.int .i64 (h0o (· * ·) s t)])/\Below w.heap.size w w':=by
 have R1:=fun V=>hid (v0h V s t hs ht)
 clear hs ht;by_cases h0:qE s=0/\qE t=0
 .have eB:d0j (· * ·) s t=c0p (vQ s*vQ t):=by rw[d0j,J2 h0]
  have eE:h0o (· * ·) s t=c0G (vQ s*vQ t):=by rw[h0o,J2 h0.1,J2 h0.2]
  rw[eB,eE];have ds:=c0t (e0a h0.1);have dt:=c0t (e0a h0.2);have dl:=hid ((x0R ds dt).limbs (L:=1000000) (by omega) (by omega));have HO:=fun V v u hp hq=>hid (t0J V v u (vQ s) (vQ t) hp hq ds dt)
  have HW:=fun V v h=>hid (d0E V v (vQ s*vQ t) h dl.out.1 dl.out.2)
  obtain⟨oB,hB⟩:=gn (c0p (vQ s*vQ t));obtain⟨oE,hE⟩:=gn (c0G (vQ s*vQ t));rw[hB,hE]at HW;rw[hB,hE];have H0:=hid h0;clear eB eE ds dt dl hB hE h0;go_enter Tryz.func54,Tryz.ntmps54;go_wp2_with fail;refine (R1 _).out.mono ?_;rintro e w1 ⟨⟨m,a,n,c,a',n',c',m2,b,j,d,b',j',d',rfl,hq⟩,hb1⟩;obtain⟨q1,q2⟩:=hq H0.out.1 H0.out.2;rw[J2 H0.out.1,H0.out.2];have b0:=((Z3 w1.heap.size w1).alloc nr0 (.cells #[.bool m,.slice a n c,.slice a' n' c'] 81)).alloc (by simp) (.cells #[.bool m2,.slice b j d,.slice b' j' d'] 81);have y2:=hid (a0a hb1 b0);have H1:=HO _ _ _ (q1.call b0) (q2.call b0);clear hb1 q1 q2 hq b0 HO R1;go_wp2_with fail;refine H1.out.mono ?_;rintro e w2 ⟨⟨v,rfl,hv⟩,hb2⟩;have y3:=hid (a0a y2.out hb2);have H2:=HW _ _ hv;obtain⟨m3,a3,n3,c3,a4,n4,c4,rfl⟩:=hv.qv;clear hv hb2 HW H1;go_wp2_with fail;refine H2.out.mono ?_;rintro e w3 ⟨rfl,hb3⟩;have y4:=hid (a0a y3.out hb3);clear hb3 H2;go_wp2_with fail;go_ret2
  exact⟨rfl,y4.out⟩
 .have n0:(if qE s=0 then qE t else qE s)≠0:=by
   split
   .rename_i h;exact fun e=>h0 ⟨h,e⟩
   .rename_i h;exact h
  have eB:d0j (· * ·) s t=⟨#[]⟩:=by rw[d0j,U0 h0]
  have eE:h0o (· * ·) s t=if qE s=0 then qE t else qE s:=by
   rw[h0o]
   split
   .rename_i h;rw[U0 (fun e=>h0 ⟨h,e⟩)]
   .rfl
  rw[eB,eE];obtain⟨x,hx⟩:=gn ((if qE s=0 then qE t else qE s));rw[hx]at n0 |-;have q0:(x != 0)=true:=by simpa using n0
  have HX:=hid hx;clear h0 n0 eB eE hx;go_enter Tryz.func54,Tryz.ntmps54;go_wp2_with fail;refine (R1 _).out.mono ?_;rintro e w1 ⟨⟨m,a,n,c,a',n',c',m2,b,j,d,b',j',d',rfl,-⟩,hb1⟩;rw[HX.out];have y2:=hid ((hb1.alloc hb1.size (.cells #[.bool m,.slice a n c,.slice a' n' c'] 81)).alloc (O0 hb1.size (by simp)) (.cells #[.bool m2,.slice b j d,.slice b' j' d'] 81));clear hb1;go_wp2_with fail;go_ret2
  exact⟨rfl,y2.out⟩
def a1B {x m:Nat}(hx:x<=2 ^ m)(h:m<=1000):Dig 4000 (dyQ x m):=g0f (d0W m) (by rw[Jq];exact h0v hx h) (h0v nr0 h)
def d0M {x m:Nat}(hx:x<=2 ^ m)(h:m<=1000):(limbs (dyQ x m).num.natAbs).length<=100000/\(limbs (dyQ x m).den).length<=100000:=(a1B hx h).limbs (by omega) (by omega)
def v0C (x m:Nat):c0p (dyQ x m)=dyB x m:=by
 unfold dyB shB;rw[f0c];rfl
def n0t (m:Nat):dyQ 0 m=0:=Rat.zero_mkRat _
def u0H (m:Nat):dyQ (2 ^ m) m=1:=by
 have e:=It (n:=1) (d:=1) (d0W m);show mkRat ((2 ^ m:Nat):Int) (2 ^ m)=1
 rw[Int.one_mul,Gr]at e;rw[e];rfl
def x0O {x y m:Nat}(h:y<=x):dyQ x m + -dyQ y m=dyQ (x-y) m:=by rw[<- Hi,l0Q h]
def o0G (c:Int->Nat)(t n r:Nat):(glP c t n r).length<=2*n+2:=by
 unfold glP glM;rw[Z4];have h:=List.length_filterMap_le (fun (j:Nat)=>if c ((j:Int)-n)=0 then none else some (zB ((j:Int)-n),shB (c ((j:Int)-n)) t)) (List.range (2*n+1));rw[List.length_range]at h;have h2:(if r=0 then ([]:List (ByteArray×ByteArray)) else [(b0o,shB r t)]).length<=1:=by split<;>simp
 omega
def b1Y:vQ ⟨#[48]⟩=0:=by decide +kernel
def c1a:qE ⟨#[48]⟩=0:=by decide +kernel
def chQ (g:Int->Nat)(n:Nat):List (Int×Rat):=(chA g n).map fun v=>(v,dyQ (g v) n)
def h0Y (g:Int->Nat)(n:Nat):(chQ g n).length=(chA g n).length:=by simp[chQ]
def s0i {g:Int->Nat}{n i:Nat}(h:i<(chA g n).length):∃ v,(chA g n)[i]?=some v/\(chQ g n)[i]?=some (v,dyQ (g v) n):=by
 refine⟨_,J0 h,?_⟩;unfold chQ;rw[Ea,J0 h];rfl
def lsN (g:Int->Nat)(n:Nat)(most:Int)(i:Nat):Nat:=smV (blV g most) ((chA g n).take i)
def t0Y (g:Int->Nat)(n:Nat)(most:Int):lsN g n most 0=0:=by unfold lsN;rw[Gq];rfl
def x0c {g:Int->Nat}{n:Nat}(hg:∀ v:Int,v<0->g v=0)(most:Int):lsN g n most (chA g n).length=cmC g n most:=by unfold lsN;rw[Gb];exact s0r hg most
def z0M {g:Int->Nat}{n:Nat}(hg:∀ v:Int,v<0->g v=0)(hz:zS n g<=2 ^ n)(most:Int)(i:Nat):lsN g n most i<=2 ^ n:=by
 refine O0 (v0d i) ?_;rw[s0r hg];exact n0y hz hg _
def x0d {g:Int->Nat}{n i:Nat}{v most:Int}(h:(chA g n)[i]?=some v)(hv:v<most):dyQ (lsN g n most i) n+dyQ (g v) n=dyQ (lsN g n most (i+1)) n:=by
 unfold lsN;rw[i0k h,h0d]
 congr 2
 unfold blV;rw[J2 hv]
def t0Z {g:Int->Nat}{n i:Nat}{v most:Int}(h:(chA g n)[i]?=some v)(hv:¬ v<most):lsN g n most i=lsN g n most (i+1):=by
 unfold lsN;rw[i0k h];unfold blV;rw[U0 hv];rfl
def tlN (g:Int->Nat)(n:Nat)(c:List Int)(i z:Nat):Nat:=smV (fun v=>fkN g n (c.getD i 0) v i c c.length) ((chA g n).take z)
def s0T (g:Int->Nat)(n:Nat)(c:List Int)(i:Nat):tlN g n c i 0=0:=by unfold tlN;rw[Gq];rfl
def v0S {g:Int->Nat}{n:Nat}(hg:∀ v:Int,v<0->g v=0)(c:List Int)(i:Nat):tlN g n c i (chA g n).length=fkT g n c i:=by unfold tlN;rw[Gb];exact v0z hg c i
section
variable {g : Int -> Nat} {n : Nat} (hg : ∀ v : Int, v < 0 -> g v = 0) (hz : zS n g <= 2 ^ n)
include hg hz
theorem y0W {c:List Int}{i:Nat}(hi:i<c.length)(z:Nat):tlN g n c i z<=2 ^ (n*c.length):=by
 refine O0 (v0d z) ?_;rw[v0z hg];have:=i0V hg hz hi;omega
omit hg hz in
theorem v0T {c:List Int}{i z:Nat}{v:Int}(hi:i<c.length)(h:(chA g n)[z]?=some v):dyQ (tlN g n c i z) (n*c.length)+dyQ (fkN g n (c.getD i 0) v i c c.length) (n*bI i c.length)=dyQ (tlN g n c i (z+1)) (n*c.length):=by
 unfold tlN;rw[i0k h,v0N hi,h0d]
omit hg hz in
theorem r0w {ci v:Int}{i k:Nat}{c:List Int}(hne:k≠i):dyQ (fkN g n ci v i c k) (n*bI i k)*dyQ (cmC g n (if k<i then ci+v-c.getD k 0 else ci+v-c.getD k 0+1)) n=dyQ (fkN g n ci v i c (k+1)) (n*bI i (k+1)):=by
 rw[l0R,fkN,U0 hne,j0n hne,K9,De]
omit hg hz in
theorem u0t {ci v:Int}{i:Nat}{c:List Int}:dyQ (fkN g n ci v i c i) (n*bI i i)=dyQ (fkN g n ci v i c (i+1)) (n*bI i (i+1)):=by
 rw[fkN,J2 rfl,m0l]
omit hg hz in
theorem r0x {ci v:Int}{i:Nat}{c:List Int}:dyQ (fkN g n ci v i c 0) (n*bI i 0)=dyQ (g v) n:=by
 show dyQ (g v) (n*1)=_
 rw[De]
theorem x0F {ci v:Int}{i k:Nat}{c:List Int}(hv:v<=n)(hi:i<c.length)(hk:k<=c.length)(hm:n*c.length<=1000):(limbs (dyQ (fkN g n ci v i c k) (n*bI i k)).num.natAbs).length<=100000/\(limbs (dyQ (fkN g n ci v i c k) (n*bI i k)).den).length<=100000:=
 d0M (n0l hg hz hv k) (O0 (Aa n (a1U hi hk)) hm)
theorem x0E {c:List Int}{i:Nat}(hi:i<c.length):dyQ (fkR g n c i) (n*c.length) + -dyQ (fkT g n c i) (n*c.length)=dyQ (fkR g n c (i+1)) (n*c.length):=by
 have h2:=i0V hg hz hi;unfold fkR;rw[x0O (by omega),a0k]
 congr 1;omega
end
def u0s (g:Int->Nat)(n:Nat)(c:List Int):dyQ (fkR g n c 0) (n*c.length)=1:=by
 unfold fkR;exact u0H _
def a1q (g:Int->Nat)(n:Nat)(c:List Int)(i:Nat):fkR g n c i<=2 ^ (n*c.length):=Ls _ _
end
section
open Go.RowKit Go.Shelf
def p0W {w w':World}{row:Option Nat}{v:Value}{xs:List Value}(h:Row w v xs)(hg:w.grownBy w' row)(hne:∀ g,v.ownBlock=some g->row≠some g):Row w' v xs:=by
 obtain⟨a,c,rfl,h1,h2,h3⟩:=h.ex;refine⟨a,c,rfl,h1,h2,fun i x hx=>?_⟩;obtain⟨g,o,rfl,hg',hc⟩:=h3 i x hx;exact⟨g,o,rfl,U6 hg' hg.size,hg.cell hc (fun e=>hne g rfl e.symm)⟩
def z0f {w:World}{v:Value}{xs:List Value}{g:Nat}(h:Row w v xs)(h0:0<xs.length)(hg:v.ownBlock=some g):g<w.heap.size:=by
 obtain⟨a,c,rfl,h1,h2,h3⟩:=h.ex;obtain⟨g',o,rfl,hg',hc⟩:=h3 0 _ (J0 h0);simp only[Value.ownBlock,Ad]at hg;omega
def NRowX (w:World)(x:Value)(m:Nat)(f:Nat->Nat)(o:Value):Prop:=∃ ys:List Value,ys.length=m/\Row w x ys/\(∀ g,x.ownBlock=some g->o.ownBlock≠some g)/\∀ j y,ys[j]?=some y->IsN .i64 w y (f j)/\Ap y o (f j)
theorem NRowX.row {w:World}{x o:Value}{m:Nat}{f:Nat->Nat}(h:NRowX w x m f o):NRow w x m f:=by
 obtain⟨ys,h1,h2,h3,h4⟩:=h;exact⟨ys,h1,h2,fun j y hy=>(h4 j y hy).1⟩
theorem NRowX.call {w w':World}{x o:Value}{m:Nat}{f:Nat->Nat}(h:NRowX w x m f o)(hb:Below w.heap.size w w'):NRowX w' x m f o:=by
 obtain⟨ys,h1,h2,h3,h4⟩:=h;exact⟨ys,h1,h2.call hb,h3,fun j y hy=>⟨(h4 j y hy).1.call hb,(h4 j y hy).2⟩⟩
theorem NRowX.of {w:World}{B g m c:Nat}{f:Nat->Nat}{o:Value}(h:NTab B w g m c f)(ho:∀ b,o.ownBlock=some b->b<B):NRowX w (.slice (some ⟨g,0,none⟩) m c) m f o:=by
 have hs:=h.slot;obtain⟨vs,h1,h2⟩:=h.ex;refine⟨vs,by have:=h1.1;omega,Row.of_owns h1,fun b hb e=>?_,fun j y hy=>⟨(h2 j y hy).1,(h2 j y hy).2.imp id fun k b hb e=>?_⟩⟩
 .have:=ho b e;simp only[Value.ownBlock,Ad]at hb;omega
 .have:=ho b e;have:=(k b hb).1;omega
theorem NRowX.grow {w w3:World}{x v v3:Value}{m:Nat}{f:Nat->Nat}(h:NRowX w x m f v)(h0:0<m)(hg:w.grownBy w3 v.ownBlock)(hat:v3.ownBlock=v.ownBlock\/v3.ownBlock=some w.heap.size):NRowX w3 x m f v3:=by
 obtain⟨ys,h1,h2,h3,h4⟩:=h;refine⟨ys,h1,p0W h2 hg h3,fun g hx=>?_,fun j y hy=>⟨e0N (h4 j y hy).1 hg (h4 j y hy).2,?_⟩⟩
 .rcases hat with e | e
  .rw[e];exact h3 g hx
  .rw[e];intro e';injection e' with e'
   have:=z0f h2 (by omega) hx;omega
 .obtain⟨q1,q2⟩:=h4 j y hy;by_cases hz:f j=0
  .exact .inl hz
  .refine .inr fun g hx=>?_
   rcases q2 with e | q2
   .exact absurd e hz
   .rcases hat with e | e
    .rw[e];exact q2 g hx
    .rw[e];intro e';injection e' with e'
     have:=r0d q1 hz hx;omega
def NSeg (B:Nat)(w:World)(v:Value)(r m:Nat)(f:Nat->Nat->Nat):Prop:=∃ vs:List Value,w.ownsRow B 204 1 v r vs/\∀ k x,vs[k]?=some x->NRowX w x m (f k) v
theorem NSeg.nil (B:Nat)(w:World)(m:Nat)(f:Nat->Nat->Nat):NSeg B w (.slice none 0 0) 0 m f:=⟨[],Eb _ _ _ _,fun j x hx=>by simp at hx⟩
theorem NSeg.call {B:Nat}{w w':World}{v:Value}{r m:Nat}{f:Nat->Nat->Nat}(h:NSeg B w v r m f)(hb:Below w.heap.size w w'):NSeg B w' v r m f:=by
 obtain⟨vs,h1,h2⟩:=h;exact⟨vs,h1.kept (a0T hb none) (by cases hv:v.ownBlock<;>simp),fun j x hx=>(h2 j x hx).call hb⟩
theorem NSeg.mono {B B':Nat}{w:World}{v:Value}{r m:Nat}{f:Nat->Nat->Nat}(h:NSeg B w v r m f)(hB:B'<=B):NSeg B' w v r m f:=by
 obtain⟨vs,h1,h2⟩:=h;refine⟨vs,⟨h1.1,?_⟩,h2⟩;rcases h1.2 with h0 | ⟨g',cap,cur,e,k1,k2,k3⟩
 .exact .inl h0
 .exact .inr ⟨g',cap,cur,e,by omega,k2,k3⟩
theorem NSeg.next {B:Nat}{w w1 w3:World}{v v3:Value}{r m g c:Nat}{f:Nat->Nat->Nat}{o:Obj}{vs:List Value}(h0:0<m)(k1:w.ownsRow B 204 1 v r vs)(k2:∀ k x,vs[k]?=some x->NRowX w x m (f k) v)(hb:Below w.heap.size w w1)(hx:NTab w.heap.size w1 g m c (f r))
 (h3:w3.ownsRow B 204 1 v3 (r+1) (vs ++ [.slice (some ⟨g,0,none⟩) m c])) (hg:(w1.alloc o).grownBy w3 v.ownBlock) (hat:v3.ownBlock=v.ownBlock\/v3.ownBlock=some (w1.alloc o).heap.size):NSeg B w3 v3 (r+1) m f:=by
 have hal:Below w1.heap.size w1 (w1.alloc o):=br0.alloc nr0 o;have hl:vs.length=r:=by have:=k1.1;omega
 refine⟨vs ++ [.slice (some ⟨g,0,none⟩) m c],h3,fun k x hk=>?_⟩;have key:NRowX w1 x m (f k) v:=by
  by_cases hj:k<vs.length
  .rw[I9 hj]at hk;exact (k2 k x hk).call hb
  .rw[G8 (by omega)]at hk;have hj':k-vs.length=0:=by
    rcases M7 (k-vs.length) with h | h
    .exact h
    .rw[I7 (by simp;omega)]at hk;cases hk
   rw[hj']at hk;obtain rfl:k=r:=by omega
   simp at hk;subst hk;exact NRowX.of hx fun b hb'=>(k1.lt b hb').2
 exact (key.call hal).grow h0 hg hat
theorem NSeg.open {B:Nat}{w:World}{v:Value}{r m:Nat}{f:Nat->Nat->Nat}(h:NSeg B w v (r+1) m f):∃ g c,v=.slice (some ⟨g,0,none⟩) (r+1) c/\r+1<=c/\c<=9223372036854775807/\g<w.heap.size/\∀ k,k<=r->∃ x,w.cell? ⟨g,k,none⟩=some x/\NRow w x m (f k):=by
 obtain⟨vs,h1,h2⟩:=h;obtain⟨g,c,rfl,-,-⟩:=h1.form (Ed r);have hs:=d0I h1;have hl:vs.length=r+1:=by have:=h1.1;omega
 refine⟨g,c,rfl,hs.2.2.2.2.2.1,hs.2.2.2.2.1,hs.2.1,fun k hk=>?_⟩;obtain⟨x,hx⟩:∃ x,vs[k]?=some x:=⟨_,J0 (by omega)⟩;exact⟨x,hs.2.2.2.1 k x hx,(h2 k x hx).row⟩
def chC (y:Int×Bool×Value×Value):List Value:=[.int .i64 y.1,.bool y.2.1,y.2.2.1,y.2.2.2]
def chF (L:List (Int×Bool×Value×Value)):List Value:=L.flatMap chC
def u0O (L:List (Int×Bool×Value×Value))(y:Int×Bool×Value×Value):chF (L ++ [y])=chF L++chC y:=by simp[chF]
def y0h {L:List (Int×Bool×Value×Value)}:∀ {i:Nat} {y:Int×Bool×Value×Value},L[i]?=some y->(chF L)[i*4]?=some (.int .i64 y.1)/\(chF L)[i*4+1]?=some (.bool y.2.1)/\(chF L)[i*4+2]?=some y.2.2.1/\(chF L)[i*4+3]?=some y.2.2.2:=by
 induction L with
 | nil=>intro i p h;simp at h
 | cons q r ih=>
  intro i p h;have hl:(chC q).length=4:=rfl;cases i with
  | zero=>simp at h;subst h;exact⟨rfl,rfl,rfl,rfl⟩
  | succ i=>
   rw[List.getElem?_cons_succ]at h;obtain⟨h1,h2,h3,h4⟩:=ih h;have e:chF (q::r)=chC q++chF r:=rfl;rw[e];refine⟨?_,?_,?_,?_⟩
   .rw[G8 (by omega),hl,show (i+1)*4-4=i*4 by omega];exact h1
   .rw[G8 (by omega),hl,show (i+1)*4+1-4=i*4+1 by omega];exact h2
   .rw[G8 (by omega),hl,show (i+1)*4+2-4=i*4+2 by omega];exact h3
   .rw[G8 (by omega),hl,show (i+1)*4+3-4=i*4+3 by omega];exact h4
structure CRow (w:World)(v:Value)(l:List (Int×Rat)):Prop where
 ex:∃ a c,v=.slice a l.length c/\l.length<=c/\c<=9223372036854775807/\∀ (i:Nat) (x:Int×Rat),l[i]?=some x->∃ g o N D,a=some ⟨g,o,none⟩/\g<w.heap.size/\w.cell? ⟨g,o+i*4,none⟩=some (.int .i64 x.1)/\w.cell? ⟨g,o+i*4+1,none⟩=some (.bool (decide (x.2.num<0)))/\w.cell? ⟨g,o+i*4+2,none⟩=some N/\w.cell? ⟨g,o+i*4+3,none⟩=some D/\IsN .i64 w N x.2.num.natAbs/\IsN .i64 w D x.2.den
theorem CRow.call {w w':World}{v:Value}{l:List (Int×Rat)}(h:CRow w v l)(hb:Below w.heap.size w w'):CRow w' v l:=by
 obtain⟨a,c,rfl,h1,h2,h3⟩:=h.ex;refine⟨a,c,rfl,h1,h2,fun i x hx=>?_⟩;obtain⟨g,o,N,D,rfl,hg,k1,k2,k3,k4,k5,k6⟩:=h3 i x hx;exact⟨g,o,N,D,rfl,U6 hg hb.size,(hb.cell (p:=⟨g,o+i*4,none⟩) hg).trans k1,(hb.cell (p:=⟨g,o+i*4+1,none⟩) hg).trans k2,(hb.cell (p:=⟨g,o+i*4+2,none⟩) hg).trans k3,(hb.cell (p:=⟨g,o+i*4+3,none⟩) hg).trans k4,k5.call hb,k6.call hb⟩
structure COwn (B:Nat)(w:World)(v:Value)(l:List (Int×Rat))(vs:List (Int×Bool×Value×Value)):Prop where
 own:w.ownsRow B 89 4 v l.length (chF vs)
 len:vs.length=l.length
 at_:∀ (i:Nat) (y:Int×Bool×Value×Value) (x:Int×Rat),vs[i]?=some y->l[i]?=some x->y.1=x.1/\y.2.1=decide (x.2.num<0)/\IsN .i64 w y.2.2.1 x.2.num.natAbs/\Ap y.2.2.1 v x.2.num.natAbs/\IsN .i64 w y.2.2.2 x.2.den/\Ap y.2.2.2 v x.2.den
theorem COwn.nil (B:Nat)(w:World):COwn B w (.slice none 0 0) [] []:=⟨Eb _ _ _ _,rfl,fun i y x h=>by simp at h⟩
theorem COwn.call {B:Nat}{w w':World}{v:Value}{l:List (Int×Rat)}{vs:List (Int×Bool×Value×Value)}(h:COwn B w v l vs)(hb:Below w.heap.size w w'):COwn B w' v l vs:=by
 refine⟨h.own.kept (a0T hb none) (by cases hv:v.ownBlock<;>simp),h.len,fun i y x hy hx=>?_⟩;obtain⟨k1,k2,k3,k4,k5,k6⟩:=h.at_ i y x hy hx;exact⟨k1,k2,k3.call hb,k4,k5.call hb,k6⟩
def n0L {w:World}{v v3 y:Value}{n:Nat}(hn:IsN .i64 w y n)(h:Ap y v n)(hat:v3.ownBlock=v.ownBlock\/v3.ownBlock=some w.heap.size):Ap y v3 n:=by
 by_cases hz:n=0
 .exact .inl hz
 .refine .inr fun g hx=>?_
  rcases h with e | q2
  .exact absurd e hz
  .rcases hat with e | e
   .rw[e];exact q2 g hx
   .rw[e];intro e';injection e' with e'
    have:=r0d hn hz hx;omega
theorem COwn.next {B:Nat}{w w3:World}{v v3:Value}{l:List (Int×Rat)}{vs:List (Int×Bool×Value×Value)}(h:COwn B w v l vs)(x:Int)(q:Rat){N D:Value}(hN:IsN .i64 w N q.num.natAbs)(aN:Ap N v q.num.natAbs)(hD:IsN .i64 w D q.den)(aD:Ap D v q.den)
 (h3:w3.ownsRow B 89 4 v3 (l.length+1) (chF vs ++ [.int .i64 x,.bool (decide (q.num<0)),N,D])) (hg:w.grownBy w3 v.ownBlock) (hat:v3.ownBlock=v.ownBlock\/v3.ownBlock=some w.heap.size):COwn B w3 v3 (l ++ [(x,q)]) (vs ++ [(x,decide (q.num<0),N,D)]):=by
 refine⟨by rw[u0O,Z4];exact h3,by simp[h.len],fun i y z hy hz=>?_⟩;have key:y.1=z.1/\y.2.1=decide (z.2.num<0)/\IsN .i64 w y.2.2.1 z.2.num.natAbs/\Ap y.2.2.1 v z.2.num.natAbs/\IsN .i64 w y.2.2.2 z.2.den/\Ap y.2.2.2 v z.2.den:=by
  by_cases hj:i<vs.length
  .rw[I9 hj]at hy;rw[I9 (by rw[<- h.len];exact hj)]at hz;exact h.at_ i y z hy hz
  .rw[G8 (by omega)]at hy;rw[G8 (by rw[<- h.len];omega)]at hz;have hl:=h.len;have hj':i-vs.length=0:=by
    rcases M7 (i-vs.length) with h | h
    .exact h
    .rw[I7 (by simp;omega)]at hy;cases hy
   rw[hj']at hy;rw[show i-l.length=0 by omega]at hz;simp at hy hz;subst hy hz;exact⟨rfl,rfl,hN,aN,hD,aD⟩
 obtain⟨k1,k2,k3,k4,k5,k6⟩:=key;exact⟨k1,k2,e0N k3 hg k4,n0L k3 k4 hat,e0N k5 hg k6,n0L k5 k6 hat⟩
def n0M {B:Nat}{w w1:World}{v y:Value}{l:List (Int×Rat)}{vs:List (Int×Bool×Value×Value)}{n:Nat}(h:COwn B w v l vs)(hf:∀ g,y.ownBlock=some g->w.heap.size<=g):Ap y v n:=.inr fun g hg e=>by
 have:=(h.own.lt g e).2;have:=hf g hg;omega
theorem COwn.row {B:Nat}{w:World}{v:Value}{l:List (Int×Rat)}{vs:List (Int×Bool×Value×Value)}(h:COwn B w v l vs):CRow w v l:=by
 rcases h.own.2 with ⟨rfl,h0⟩ | ⟨g,cap,cur,rfl,hb,hg,k1,k2,k3,k4⟩
 .have h1:=h.own.1;have hl:l = []:=Ei.1 (by omega);subst hl;exact⟨none,0,rfl,J4 _,by omega,fun i x hx=>by simp at hx⟩
 .obtain⟨o1,o2,o3,o4,o5,o6⟩:=e0F h.own;refine⟨some ⟨g,0,none⟩,cap,rfl,o6,o5,fun i x hx=>?_⟩;have hi:i<vs.length:=by rw[h.len];exact (O4.1 hx).1
  obtain⟨y,hy⟩:∃ y,vs[i]?=some y:=⟨_,J0 hi⟩;obtain⟨q1,q2,q3,q4,q5,q6⟩:=h.at_ i y x hy hx;obtain⟨f1,f2,f3,f4⟩:=y0h hy;refine⟨g,0,y.2.2.1,y.2.2.2,rfl,o2,?_,?_,?_,?_,q3,q5⟩
  .rw[J8,<- q1];exact o4 _ _ f1
  .rw[J8,<- q2];exact o4 _ _ f2
  .rw[J8];exact o4 _ _ f3
  .rw[J8];exact o4 _ _ f4
end
section
open Go.RowKit
open Go.Lib (decDigits nDigits)
theorem i0r (w:World)(s:ByteArray)(hs:s.size<=1000000)(hq0:qE s=0):
 Calls Tryz.prog 71 #[.string s] w fun e w'=>(∃ v,e=.returned (.tuple #[v,.int .i64 0])/\IsQF w.heap.size w' v (vQ s))/\Below w.heap.size w w':=by
 have HC:=s0c s (by omega);have hq:qB s=true:=by
  cases h:qB s
  .have:qE s=3:=by simp[qE,h]
   omega
  .rfl
 have hl':qL s=false:=by
  cases h:qL s
  .rfl
  .have:qE s=5:=by simp[qE,hq,h]
   omega
 have hi:=c0k hq;rw[hi]at HC;have hdD:=e0Q (d0b hi);have hcS:cS s=false\/(cS s=true/\¬ iD (cW s)=⟨#[48]⟩/\¬ cB s=⟨#[48]⟩/\¬ cB s=⟨#[49]⟩/\fB (cB s)=true):=by
  have hq':=hq;unfold qB at hq';simp only[F9,Ai,Bv,K6]at hq';rcases hq'.2 with h | h
  .exact .inl h
  .cases hc:cS s
   .exact .inl rfl
   .exact .inr ⟨rfl,h.1.1.1,h.1.2,h.2,h.1.1.2⟩
 have hl1:¬ 4000<(iD (cW s)).size/\¬ 4000<(qD s).size:=by
  unfold qL at hl';simpa using hl'
 obtain⟨e1,e2,e3⟩:=i0e hq0;have key:Calls Tryz.prog 71 #[.string s] w fun e w'=>RetRF w.heap.size 0 (iM (cW s)) (bN (iD (cW s))) (bN (qD s)) e w'/\Below w.heap.size w w':=by
  rcases hcS with hc | ⟨hc,h1,h2,h3,h4⟩
  .rw[hc]at HC;rw[d0H hc];exact q0a w s _ _ _ _ _ _ hs HC hl1.1 hdD
  .rw[hc,h4]at HC;have hl2:=hl1.2;rw[c0e hc]at hl2;have e:qE s=if Nat.gcd (bN (iD (cW s))) (bN (cB s))=1 then 0 else 3:=by
    simp only[qE,hq,hl',qG,hc,c0e hc];by_cases hg:Nat.gcd (bN (iD (cW s))) (bN (cB s))=1<;>simp[hg]
   rw[hq0]at e;rw[c0e hc];have:=m0G w s _ _ _ _ _ hs HC h1 h2 h3 hl1.1 hl2 hdD (e0Q h4);rw[<- e]at this;exact this
 refine key.mono ?_;rintro e w' ⟨⟨v,rfl,h1,-⟩,hb⟩;obtain⟨N,D,rfl,hN,hD,f1,f2⟩:=h1 rfl;exact⟨⟨_,rfl,N,D,by rw[e1],by rw[e2];exact hN,by rw[e3];exact hD,f1,f2⟩,hb⟩
def t0s (w:World)(v u:Value)(p q:Rat)(hp:IsQ .i64 w v p)(hq:IsQ .i64 w u q)(dp:Dig 4000 p)(dq:Dig 4000 q):
 Calls Tryz.prog 201 #[v,u] w fun e w'=>e=.returned (.int .i64 (m0Q p q))/\Below w.heap.size w w':=by
 have HO:=fun V v u hp hq=>hid (w0Q V v u p (-q) hp hq dp (x0Q dq))
 have HG:=fun V v h=>hid (g0D V v q h)
 have HP:=hid hp;have HQ:=hid hq;obtain⟨m,a,n,c,a',n',c',rfl⟩:=hp.qv;obtain⟨m2,b,j,d,b',j',d',rfl⟩:=hq.qv;rw[show m0Q p q=s0G (p + -q) by rw[m0Q,Hi]];obtain⟨z,hz⟩:=gn (p + -q);simp only[hz]at HO;rw[hz];clear hp hq dp dq hz;go_enter Tryz.func201,Tryz.ntmps201
 go_upto_region 1 with fail
 obtain⟨W,hW⟩:=gn ((w.alloc (.cells #[.bool m,.slice a n c,.slice a' n' c'] 81)).alloc (.cells #[.bool m2,.slice b j d,.slice b' j' d'] 81));have Y0:Blk W w.heap.size #[.bool m,.slice a n c,.slice a' n' c'] 81:=by rw[<- hW];exact (Blk.new w _ _).alloc _
 have Y1:Blk W (w.heap.size+1) #[.bool m2,.slice b j d,.slice b' j' d'] 81:=by rw[<- hW];exact Blk.made _ _ _ (by simp)
 have y0:Below w.heap.size w W:=by rw[<- hW];exact (br0.alloc nr0 _).alloc (by simp) _
 rw[hW];have KK:Hid (∀ w',Below W.heap.size W w'->w'.cell? ⟨w.heap.size,0,none⟩=some (.bool m)/\w'.cell? ⟨w.heap.size,1,none⟩=some (.slice a n c)/\w'.cell? ⟨w.heap.size,2,none⟩=some (.slice a' n' c')/\w'.cell? ⟨w.heap.size+1,0,none⟩=some (.bool m2)/\w'.cell? ⟨w.heap.size+1,1,none⟩=some (.slice b j d)/\w'.cell? ⟨w.heap.size+1,2,none⟩=some (.slice b' j' d')):=fun w' hb=>
  ⟨(Y0.call hb).cell 0,(Y0.call hb).cell 1,(Y0.call hb).cell 2,(Y1.call hb).cell 0,(Y1.call hb).cell 1,(Y1.call hb).cell 2⟩
 have Q1:=hid (HP.out.call y0);have Q2:=hid (HQ.out.call y0);have HY:=hid y0;clear Y0 Y1 y0 hW
 go_cut [5] (fun s5 wx=>∃ (g:Nat) (a5:Option Addr) (n5 c5:Nat) (a6:Option Addr) (n6 c6:Nat),s5=.pointer (some ⟨g,0,none⟩)/\Hid (Blk wx g #[.bool (decide (z.num<0)),.slice a5 n5 c5,.slice a6 n6 c6] 81)/\Hid (n5=(limbs z.num.natAbs).length)/\Hid (Below W.heap.size W wx))
 case first=>
  refine a0m [0,1] 4 (fun w'=>w'.cell? ⟨w.heap.size,0,none⟩=some (.bool m)/\w'.cell? ⟨w.heap.size,1,none⟩=some (.slice a n c)/\w'.cell? ⟨w.heap.size,2,none⟩=some (.slice a' n' c')/\w'.cell? ⟨w.heap.size+1,0,none⟩=some (.bool m2)/\w'.cell? ⟨w.heap.size+1,1,none⟩=some (.slice b j d)/\w'.cell? ⟨w.heap.size+1,2,none⟩=some (.slice b' j' d')) (by kernel_rfl) (by kernel_rfl) (by kernel_rfl) (by kernel_rfl) (KK.out _ br0.drew) ?_
  iterate 2
   refine⟨_,rfl,?_⟩;apply Exists.intro
   refine⟨.inl ⟨by rfl,?_⟩,?_⟩
   .rintro W' ⟨q1,q2,q3,q4,q5,q6⟩;go_simp;try with_reducible rfl
   go_frame
  refine c0D (i:=2) (j:=4) (by kernel_rfl) (by rfl) (by rfl) (by rfl) (by rfl) ?_ ?_
  focus
   go_wp2_with fail;refine (HG _ _ (Q2.out.call br0.drew)).out.mono ?_;rintro e w3 ⟨⟨v3,rfl,hv3⟩,hb3⟩;have x3:=hid (show Below W.heap.size W w3 from br0.drew.trans hb3);have N3:=hid hv3;obtain⟨m5,a5,n5,c5,a6,n6,c6,rfl⟩:=hv3.qv;clear hb3 hv3;go_wp2_with fail;refine⟨KK.out _ x3.out,?_⟩;refine c0D (i:=3) (j:=4) (by kernel_rfl) (by rfl) (by rfl) (by rfl) (by rfl) ?_ ?_
   .go_wp2_with fail;refine (HO _ _ _ (Q1.out.call x3.out) N3.out).out.mono ?_;rintro e w4 ⟨⟨v4,rfl,hv4⟩,hb4⟩;have x4:=hid (a0a x3.out hb4);obtain⟨N,D,rfl,h1,h2⟩:=hv4.ex;obtain⟨a7,c7,rfl,-⟩:=h1.openI;obtain⟨a8,c8,rfl,-⟩:=h2.openI;clear hb4 hv4 h1 h2;go_wp2_with fail;refine⟨KK.out _ x4.out,?_⟩;refine a0c (i:=4) (by kernel_rfl) (by rfl) (by rfl) ?_;go_wp2_with fail;refine⟨KK.out _ (x4.out.alloc x4.out.size _),?_⟩;refine a0c (i:=5) (by kernel_rfl) (by rfl) (by rfl) ?_;go_wp2_with fail;refine⟨KK.out _ (x4.out.alloc x4.out.size _),?_⟩;refine H8 (by kernel_rfl) ?_ _;simp only[b0h];go_wp2_with fail
    go_meet
    exact⟨_,_,_,_,_,_,_,rfl,Blk.new w4 _ _,rfl,x4.out.alloc x4.out.size _⟩
   focus
    go_wp2_with fail;have A3:=hid (x3.out.alloc x3.out.size (.cells #[.bool false,.slice none 0 0,.slice none 0 0] 81));have b3:=hid (Blk.new w3 #[.bool false,.slice none 0 0,.slice none 0 0] 81);have n3:=hid (N3.out.call (br0.alloc nr0 (.cells #[.bool false,.slice none 0 0,.slice none 0 0] 81)));refine⟨KK.out _ A3.out,?_⟩;refine a0c (i:=3) (by kernel_rfl) (by rfl) (by rfl) ?_;go_wp2_with fail;refine (HO _ _ _ (Q1.out.call A3.out) n3.out).out.mono ?_;rintro e w4 ⟨⟨v4,rfl,hv4⟩,hb4⟩;have x4:=hid (a0a A3.out hb4);have b4:=hid (b3.out.call hb4);obtain⟨N,D,rfl,h1,h2⟩:=hv4.ex;obtain⟨a7,c7,rfl,-⟩:=h1.openI;obtain⟨a8,c8,rfl,-⟩:=h2.openI;have t0:=b4.out.cell 0;have t1:=b4.out.cell 1;have t2:=b4.out.cell 2;have t3:=b4.out.free 0;have t4:=b4.out.free 1;have t5:=b4.out.free 2;simp at t0 t1 t2;have ge:=hid (show W.heap.size<=w3.heap.size from x3.out.size)
  rotate_left
  focus
   go_wp2_with fail;have A0:=hid (show Below W.heap.size W (W.alloc (.cells #[.bool false,.slice none 0 0,.slice none 0 0] 81)).drew from (br0.alloc nr0 _).drew);have b0:=hid (show Blk (W.alloc (.cells #[.bool false,.slice none 0 0,.slice none 0 0] 81)).drew W.heap.size #[.bool false,.slice none 0 0,.slice none 0 0] 81 from Blk.new W _ _);refine⟨KK.out _ A0.out,?_⟩;refine a0c (i:=2) (by kernel_rfl) (by rfl) (by rfl) ?_;go_wp2_with fail;refine (HG _ _ (Q2.out.call A0.out)).out.mono ?_;rintro e w3 ⟨⟨v3,rfl,hv3⟩,hb3⟩;have x3:=hid (A0.out.trans (hb3.mono A0.out.size));have b3:=hid (b0.out.call hb3);have N3:=hid hv3;obtain⟨m5,a5,n5,c5,a6,n6,c6,rfl⟩:=hv3.qv;clear hb3 hv3;go_wp2_with fail;refine⟨KK.out _ x3.out,?_⟩;refine a0c (i:=3) (by kernel_rfl) (by rfl) (by rfl) ?_;go_wp2_with fail;refine (HO _ _ _ (Q1.out.call x3.out) N3.out).out.mono ?_;rintro e w4 ⟨⟨v4,rfl,hv4⟩,hb4⟩;have x4:=hid (a0a x3.out hb4);have b4:=hid (b3.out.call hb4);obtain⟨N,D,rfl,h1,h2⟩:=hv4.ex;obtain⟨a7,c7,rfl,-⟩:=h1.openI;obtain⟨a8,c8,rfl,-⟩:=h2.openI;have t0:=b4.out.cell 0;have t1:=b4.out.cell 1;have t2:=b4.out.cell 2;have t3:=b4.out.free 0;have t4:=b4.out.free 1;have t5:=b4.out.free 2;simp at t0 t1 t2;have ge:=hid (J4 W.heap.size)
  all_goals
   obtain⟨k7,hk7⟩:=gn ((limbs z.num.natAbs).length);obtain⟨k8,hk8⟩:=gn ((limbs z.den).length);obtain⟨mz,hmz⟩:=gn (decide (z.num<0));rw[hk7,hk8,hmz];have HK7:=hid hk7;have HMZ:=hid hmz;clear hb4 hv4 h1 h2 hk7 hk8 hmz;go_wp2_with fail;refine⟨KK.out _ x4.out,?_⟩;refine a0c (i:=5) (by kernel_rfl) (by rfl) (by rfl) ?_;go_wp2_with fail;obtain⟨s1,s2⟩:=c0W b4.out mz a7 a8 k7 c7 k8 c8;have x5:=hid (a0W (a0W (a0W x4.out (i:=0) ge.out (.bool mz)) (i:=1) ge.out (.slice a7 k7 c7)) (i:=2) ge.out (.slice a8 k8 c8));have S2:=hid s2;clear s1 s2 t0 t1 t2 t3 t4 t5;refine⟨KK.out _ x5.out,?_⟩;refine H8 (by kernel_rfl) ?_ _;simp only[b0h];go_wp2_with fail
   go_meet
   exact⟨_,_,_,_,_,_,_,rfl,by rw[HMZ.out];exact S2,HK7.out.symm,x5⟩
 case rest=>
  obtain⟨g,a5,n5,c5,a6,n6,c6,rfl,hB,hn,hW⟩:=hcut;have r0:=hB.out.cell 0;have r1:=hB.out.cell 1;simp at r0 r1;have yz:=hid (a0a HY.out hW.out);by_cases h1:z.num=0
  .have es:Hid (s0G z=0):=by show s0G z=0;rw[s0G,J2 h1]
   obtain rfl:n5=0:=by rw[hn.out,h1];exact f0g.2 rfl
   clear h1;go_wp2_with fail;go_ret
   exact⟨by rw[es.out];rfl,yz.out⟩
  .have h2:n5≠0:=fun e=>h1 (by rw[hn.out]at e;have:=f0g.1 e;omega)
   have q1:((n5:Int)==0)=false:=by simp;omega
   obtain⟨mm,hmm⟩:=gn (decide (z.num<0));have es:s0G z=if mm=true then -1 else 1:=by
    rw[s0G,U0 h1,<- hmm];simp
   have ES:=hid es;rw[hmm]at r0;clear h1 h2 es hmm;cases mm
   all_goals
    go_wp2_with fail;go_ret
    exact⟨by rw[ES.out];rfl,yz.out⟩
def z0m (w:World)(s t:ByteArray)(hs:s.size<=1000000)(ht:t.size<=1000000):
 Calls Tryz.prog 119 #[.string s,.string t] w fun e w'=>e=.returned (.tuple #[.int .i64 (cmB s t),.int .i64 (cmE s t)])/\Below w.heap.size w w':=by
 have R1:=fun V=>hid (v0h V s t hs ht)
 clear hs ht;by_cases h0:qE s=0/\qE t=0
 .have eB:cmB s t=m0Q (vQ s) (vQ t):=by rw[cmB,J2 h0]
  have eE:cmE s t=0:=by rw[cmE,J2 h0.1,h0.2]
  rw[eB,eE];have ds:=c0t (e0a h0.1);have dt:=c0t (e0a h0.2);have HO:=fun V v u hp hq=>hid (t0s V v u (vQ s) (vQ t) hp hq ds dt)
  obtain⟨o,ho⟩:=gn (m0Q (vQ s) (vQ t));rw[ho]at HO |-;have H0:=hid h0;clear eB eE ds dt ho h0;go_enter Tryz.func119,Tryz.ntmps119;go_wp2_with fail;refine (R1 _).out.mono ?_;rintro e w1 ⟨⟨m,a,n,c,a',n',c',m2,b,j,d,b',j',d',rfl,hq⟩,hb1⟩;obtain⟨q1,q2⟩:=hq H0.out.1 H0.out.2;rw[J2 H0.out.1,H0.out.2];have b0:=((Z3 w1.heap.size w1).alloc nr0 (.cells #[.bool m,.slice a n c,.slice a' n' c'] 81)).alloc (by simp) (.cells #[.bool m2,.slice b j d,.slice b' j' d'] 81);have y2:=hid (a0a hb1 b0);have H1:=HO _ _ _ (q1.call b0) (q2.call b0);clear hb1 q1 q2 hq b0 HO R1;go_wp2_with fail;refine H1.out.mono ?_;rintro e w2 ⟨rfl,hb2⟩;have y3:=hid (a0a y2.out hb2);clear hb2 H1;go_wp2_with fail;go_ret2
  exact⟨rfl,y3.out⟩
 .obtain⟨n0,-,-⟩:=w0R (f:=(· - ·)) h0;rw[cmB,U0 h0,cmE];obtain⟨x,hx⟩:=gn ((if qE s=0 then qE t else qE s));rw[hx]at n0 |-;have q0:(x != 0)=true:=by simpa using n0
  have HX:=hid hx;clear h0 n0 hx;go_enter Tryz.func119,Tryz.ntmps119;go_wp2_with fail;refine (R1 _).out.mono ?_;rintro e w1 ⟨⟨m,a,n,c,a',n',c',m2,b,j,d,b',j',d',rfl,-⟩,hb1⟩;rw[HX.out];have y2:=hid ((hb1.alloc hb1.size (.cells #[.bool m,.slice a n c,.slice a' n' c'] 81)).alloc (O0 hb1.size (by simp)) (.cells #[.bool m2,.slice b j d,.slice b' j' d'] 81));clear hb1;go_wp2_with fail;go_ret2
  exact⟨rfl,y2.out⟩
open Go.Shelf
def QB (w:World)(g:Nat)(q:Rat):Prop:=∃ (m:Bool) (a:Option Addr) (n c:Nat) (a':Option Addr) (n' c':Nat),Blk w g #[.bool m,.slice a n c,.slice a' n' c'] 81/\IsQ .i64 w (.agg #[.bool m,.slice a n c,.slice a' n' c']) q
theorem QB.call {w w':World}{g:Nat}{q:Rat}(h:QB w g q)(hb:Below w.heap.size w w'):QB w' g q:=by
 obtain⟨m,a,n,c,a',n',c',h1,h2⟩:=h;exact⟨m,a,n,c,a',n',c',h1.call hb,h2.call hb⟩
theorem QB.new {w:World}{m:Bool}{a a':Option Addr}{n c n' c':Nat}{q:Rat}(h:IsQ .i64 w (.agg #[.bool m,.slice a n c,.slice a' n' c']) q):QB (w.alloc (.cells #[.bool m,.slice a n c,.slice a' n' c'] 81)) w.heap.size q:=
 ⟨m,a,n,c,a',n',c',Blk.new w _ _,h.call (br0.alloc nr0 _)⟩
def i0N {w:World}{b:Nat}{m0:Bool}{a0 b0:Option Addr}{n0 c0 n1 c1:Nat}{t:TypeId}(hb:Blk w b #[.bool m0,.slice a0 n0 c0,.slice b0 n1 c1] t)(m:Bool)(a a':Option Addr)(n c n' c':Nat){v:Value}{q:Rat}(h:IsQ .i64 w v q):
 IsQ .i64 (((w.setCell ⟨b,0,none⟩ (.bool m)).setCell ⟨b,1,none⟩ (.slice a n c)).setCell ⟨b,2,none⟩ (.slice a' n' c')) v q:=by
 obtain⟨N,D,rfl,h1,h2⟩:=h.ex;have hs:=(c0W hb m a a' n c n' c').1;exact⟨N,D,rfl,hs _ _ _ h1,hs _ _ _ h2⟩
theorem QB.put {w:World}{b:Nat}{m0:Bool}{a0 b0:Option Addr}{n0 c0 n1 c1:Nat}(hb:Blk w b #[.bool m0,.slice a0 n0 c0,.slice b0 n1 c1] 81){m:Bool}{a a':Option Addr}{n c n' c':Nat}{q:Rat}(h:IsQ .i64 w (.agg #[.bool m,.slice a n c,.slice a' n' c']) q):
 QB (((w.setCell ⟨b,0,none⟩ (.bool m)).setCell ⟨b,1,none⟩ (.slice a n c)).setCell ⟨b,2,none⟩ (.slice a' n' c')) b q:=
 ⟨m,a,n,c,a',n',c',(c0W hb m a a' n c n' c').2,i0N hb m a a' n c n' c' h⟩
def f0a (w:World)(s:ByteArray)(hs:s.size<=1000000)(hq:qE s=0):
 Calls Tryz.prog 100 #[.string s] w fun e w'=>k0T .i64 (vQ s) e w'/\Below w.heap.size w w':=by
 have PR:=fun V=>hid (i0r V s hs hq)
 have A0:=hid ((Z3 w.heap.size w).alloc nr0 (.cells #[.bool false,.slice none 0 0,.slice none 0 0] 81));have X0:=hid (Blk.new w #[.bool false,.slice none 0 0,.slice none 0 0] 81);clear hs hq;go_enter Tryz.func100,Tryz.ntmps100;go_wp2_with fail;refine (PR _).out.mono ?_;rintro e w1 ⟨⟨v1,rfl,hv1⟩,hb1⟩;obtain⟨m1,a1,n1,c1,a2,n2,c2,rfl⟩:=hv1.q.qv;have X1:=hid (X0.out.call hb1);have y1:=hid (a0a A0.out hb1);have A1:=hid ((Z3 w1.heap.size w1).alloc nr0 (.cells #[.bool m1,.slice a1 n1 c1,.slice a2 n2 c2] 81));have Z1:=hid (Blk.new w1 #[.bool m1,.slice a1 n1 c1,.slice a2 n2 c2] 81);have X2:=hid (X1.out.call A1.out);have y2:=hid (a0a y1.out A1.out);have Q2:=hid (hv1.q.call A1.out);clear hb1 hv1 X1 y1;have d0:=X2.out.cell 0;have d1:=X2.out.cell 1;have d2:=X2.out.cell 2;have e0:=X2.out.free 0;have e1:=X2.out.free 1;have e2:=X2.out.free 2;have g0:=Z1.out.cell 0;have g1:=Z1.out.cell 1;have g2:=Z1.out.cell 2;simp at d0 d1 d2 g0 g1 g2;go_wp2_with fail;obtain⟨s1,s2⟩:=c0W X2.out m1 a1 a2 n1 c1 n2 c2;have f0:=s2.cell 0;have f1:=s2.cell 1;have f2:=s2.cell 2;simp at f0 f1 f2;refine Z6 (v:=.agg #[.bool m1,.slice a1 n1 c1,.slice a2 n2 c2]) (by simp[results,Tryz.results100,go_sem,f0,f1,f2]) rfl ⟨⟨_,rfl,i0N X2.out m1 a1 a2 n1 c1 n2 c2 Q2.out⟩,?_⟩;exact ((y2.out.setCell nr0 _).setCell nr0 _).setCell nr0 _
def t0u (w:World)(v:Value)(g:Int->Nat)(n:Nat)(most:Int)(hg:∀ v:Int,v<0->g v=0)(hz:zS n g<=2 ^ n)(hn:n<=32)(hv:CRow w v (chQ g n)):
 Calls Tryz.prog 101 #[v,.int .i64 most] w fun e w'=>k0T .i64 (dyQ (cmC g n most) n) e w'/\Below w.heap.size w w':=by
 have PN:=fun V=>hid (f0a V ⟨#[48]⟩ (by decide) c1a)
 rw[b1Y]at PN;have LZ:=hid (fun i=>z0M hg hz most i);have GL:=hid (fun (v:Int) (h:v<=n)=>b1H hg hz h);have HE:=hid (x0c (n:=n) hg most);obtain⟨a,c,rfl,c1,c2,c3⟩:=hv.ex;rw[h0Y]at c1 |-;have HK65:=hid (O0 (i0a g n) (show 2*n+1<=65 by omega));obtain⟨K,hK⟩:=gn ((chA g n).length);have HK:=hid hK;rw[hK]at c1 HE HK65 |-;have H3:=hid c3;have HN:=hid hn;have A0:=hid ((Z3 w.heap.size w).alloc nr0 (.cells #[.bool false,.slice none 0 0,.slice none 0 0] 81));have X0:=hid (Blk.new w #[.bool false,.slice none 0 0,.slice none 0 0] 81);clear hv c3 hK hg hz hn;go_enter Tryz.func101,Tryz.ntmps101;go_wp2_with fail;refine (PN _).out.mono ?_;rintro e w1 ⟨⟨v1,rfl,hv1⟩,hb1⟩;obtain⟨m1,a1,n1,k1,a2,n2,k2,rfl⟩:=hv1.qv;have X1:=hid (X0.out.call hb1);have y1:=hid (a0a A0.out hb1);have Q1:=hid (QB.new hv1);have A1:=hid ((Z3 w1.heap.size w1).alloc nr0 (.cells #[.bool m1,.slice a1 n1 k1,.slice a2 n2 k2] 81));clear hb1 hv1 X0 A0;go_wp2_with fail
 go_loopw [6] (fun s6 wr=>∃ i:Nat,s6=.int .i64 (i:Nat)/\i<=K/\Hid (QB wr w1.heap.size (dyQ (lsN g n most i) n))/\Hid (Below w1.heap.size w1 wr)) (fun s6 wr=>K-(intOf s6).toNat)
 case atStart=>exact⟨0,rfl,S4 _,by rw[t0Y,n0t];exact Q1,A1⟩
 case round=>
  obtain⟨i,rfl,hi,hQ,hB⟩:=hrel;have hk65:=HK65.out;by_cases hlt:i<K
  .obtain⟨x,hx,hx2⟩:=s0i (g:=g) (n:=n) (i:=i) (by rw[HK.out];exact hlt);obtain⟨gl,o,N,D,rfl,hgl,m1',m2',m3',m4',m5',m6'⟩:=H3.out i _ hx2;have BW:=hid (a0a y1.out hB.out);have KA:Hid (∀ W,Below w.heap.size w W->W.cell? ⟨gl,o+i*4,none⟩=some (.int .i64 x)/\W.cell? ⟨gl,o+i*4+1,none⟩=some (.bool (decide ((dyQ (g x) n).num<0)))/\W.cell? ⟨gl,o+i*4+2,none⟩=some N/\W.cell? ⟨gl,o+i*4+3,none⟩=some D):=fun W hW=>
    ⟨(hW.cell (p:=⟨gl,o+i*4,none⟩) hgl).trans m1',(hW.cell (p:=⟨gl,o+i*4+1,none⟩) hgl).trans m2',(hW.cell (p:=⟨gl,o+i*4+2,none⟩) hgl).trans m3',(hW.cell (p:=⟨gl,o+i*4+3,none⟩) hgl).trans m4'⟩
   have QL:=hid (show IsQ .i64 w (.agg #[.bool (decide ((dyQ (g x) n).num<0)),N,D]) (dyQ (g x) n) from⟨N,D,rfl,m5',m6'⟩);obtain⟨mq,aq,nq,cq,aq',nq',cq',eq⟩:=QL.out.qv;injection eq with eq
   have eqs:[Value.bool (decide ((dyQ (g x) n).num<0)),N,D] = [.bool mq,.slice aq nq cq,.slice aq' nq' cq']:=congrArg Array.toList eq;injection eqs with e1 eqs
   injection eqs with e2 eqs
   injection eqs with e3 eqs
   subst e2 e3;rw[e1]at KA QL;have hxn:x<=(n:Int):=(a1K (C7 hx)).2.1;have LQ:=hid (d0M (GL.out x hxn) (show n<=1000 by have:=HN.out;omega));have LP:=hid (d0M (LZ.out i) (show n<=1000 by have:=HN.out;omega));obtain⟨k0,k1'',k2'',k3''⟩:=KA.out _ BW.out;have f1:(0:Int)<=(i:Int):=by omega
   have f2:(i:Int)<(K:Int):=by omega
   have wi:IntKind.i64.wrap ((i:Int)+1)=((i+1:Nat):Int):=by rw[Q0 _ ⟨by omega,by omega⟩];omega
   have HLT:=hid hlt;by_cases hm:x<most
   .have t1:decide (x<most)=true:=E7 hm;have HAD:=hid (x0d hx hm);obtain⟨m5,a5,n5,c5,a6,n6,c6,hb5,hq5⟩:=hQ.out;have B5:=hid (show Blk wr.drew w1.heap.size _ _ from hb5);have V5:=hid hq5;have b0:=B5.out.cell 0;have b1:=B5.out.cell 1;have b2:=B5.out.cell 2;simp at b0 b1 b2;clear hx hx2 m1' m2' m3' m4' m5' m6' eq eqs e1 hm hlt hi hxn hk65 hb5 hq5 hQ;go_wp2_with fail;refine a0m [1,2,3,4,5] 3 (fun w'=>w'.cell? ⟨gl,o+i*4+1,none⟩=some (.bool mq)/\w'.cell? ⟨gl,o+i*4+2,none⟩=some (.slice aq nq cq)/\w'.cell? ⟨gl,o+i*4+3,none⟩=some (.slice aq' nq' cq')) (by kernel_rfl) (by kernel_rfl) (by kernel_rfl) (by kernel_rfl) (KA.out _ BW.out.drew).2 ?_
    iterate 5
     refine⟨_,rfl,?_⟩;apply Exists.intro
     refine⟨.inl ⟨by rfl,?_⟩,?_⟩
     .rintro W' ⟨q9,q8,q7⟩;go_simp;try with_reducible rfl
     go_frame
    refine a0c (i:=0) (by kernel_rfl) (by rfl) (by rfl) ?_;go_wp2_with fail;refine⟨(KA.out _ BW.out.drew).2,?_⟩;refine a0c (i:=6) (by kernel_rfl) (by rfl) (by rfl) ?_;go_wp2_with fail;refine (i0t _ _ _ _ _ (V5.out.call br0.drew) (QL.out.call BW.out.drew) LP.out.1 LP.out.2 LQ.out.1 LQ.out.2).mono ?_;rintro e w6 ⟨⟨v6,rfl,hv6⟩,hb6⟩;obtain⟨m7,a7,n7,c7,a8,n8,c8,rfl⟩:=hv6.qv;have x6:=hid (show Below wr.heap.size wr w6 from br0.drew.trans hb6);have B6:=hid (B5.out.call hb6);have y6:=hid (a0a hB.out x6.out);have BW6:=hid (a0a BW.out x6.out);rw[HAD.out]at hv6;have V6:=hid hv6;have t0:=B6.out.cell 0;have t1:=B6.out.cell 1;have t2:=B6.out.cell 2;have t3:=B6.out.free 0;have t4:=B6.out.free 1;have t5:=B6.out.free 2;simp at t0 t1 t2;clear hb6 hv6 b0 b1 b2;go_wp2_with fail;refine⟨(KA.out _ BW6.out).2,?_⟩;refine a0c (i:=7) (by kernel_rfl) (by rfl) (by rfl) ?_;go_wp2_with fail;have Y6:Below w.heap.size w (((w6.setCell ⟨w1.heap.size,0,none⟩ (.bool m7)).setCell ⟨w1.heap.size,1,none⟩ (.slice a7 n7 c7)).setCell ⟨w1.heap.size,2,none⟩ (.slice a8 n8 c8)):=((BW6.out.setCell y1.out.size _).setCell y1.out.size _).setCell y1.out.size _;refine⟨(KA.out _ Y6).2,?_⟩;clear Y6;refine H8 (by kernel_rfl) ?_ _;simp only[b0h];clear t0 t1 t2 t3 t4 t5;go_wp2_with fail;go_roundw
    case rel=>exact⟨i+1,by go_num,by have:=HLT.out;omega,QB.put B6.out V6.out,((y6.out.setCell nr0 _).setCell nr0 _).setCell nr0 _⟩
    case measure=>simp[intOf]<;>(have:=HLT.out;omega)
   .have t1:decide (x<most)=false:=M6 hm;have HSK:=hid (t0Z hx hm);rw[HSK.out]at hQ;clear hx hx2 m1' m2' m3' m4' m5' m6' eq eqs e1 hm hlt hi hxn hk65 HSK;go_wp2_with fail;go_roundw
    case rel=>exact⟨i+1,by go_num,by have:=HLT.out;omega,hQ,hB⟩
    case measure=>simp[intOf]<;>(have:=HLT.out;omega)
  .obtain rfl:i=K:=by omega
   have t1:decide ((i:Int)<(i:Int))=false:=by simp
   rw[HE.out]at hQ;obtain⟨m5,a5,n5,c5,a6,n6,c6,hb5,hq5⟩:=hQ.out;have V5:=hid hq5;have X5:=hid (X1.out.call hB.out);have BW:=hid (a0a y1.out hB.out);have b0:=hb5.cell 0;have b1:=hb5.cell 1;have b2:=hb5.cell 2;have d0:=X5.out.cell 0;have d1:=X5.out.cell 1;have d2:=X5.out.cell 2;have e0:=X5.out.free 0;have e1:=X5.out.free 1;have e2:=X5.out.free 2;simp at b0 b1 b2 d0 d1 d2;clear hb5 hq5 hQ hlt hi hk65;go_wp2_with fail;obtain⟨s1,s2⟩:=c0W X5.out m5 a5 a6 n5 c5 n6 c6;have f0:=s2.cell 0;have f1:=s2.cell 1;have f2:=s2.cell 2;simp at f0 f1 f2;refine Z6 (v:=.agg #[.bool m5,.slice a5 n5 c5,.slice a6 n6 c6]) (by simp[results,Tryz.results101,go_sem,f0,f1,f2]) rfl ⟨⟨_,rfl,i0N X5.out m5 a5 a6 n5 c5 n6 c6 V5.out⟩,?_⟩;exact ((BW.out.setCell nr0 _).setCell nr0 _).setCell nr0 _
end
section
open Go.RowKit
open Go.Lib (decDigits nDigits)
def o0a (d:List (ByteArray×ByteArray))(k:Int):List (Int×Rat):=(d.filter fun p=>decide (p.1=zB k)).map fun p=>(k,vQ p.2)
def p0Q {d:List (ByteArray×ByteArray)}{i:Nat}{p:ByteArray×ByteArray}{k:Int}(h:d[i]?=some p):o0a (d.take (i+1)) k=o0a (d.take i) k++if p.1=zB k then [(k,vQ p.2)] else []:=by
 unfold o0a;rw[Et,h,Gm,Bj]
 congr 1
 by_cases e:p.1=zB k
 .simp[e]
 .simp[e]
def g0v (d:List (ByteArray×ByteArray))(k:Int):(o0a d k).length<=d.length:=by
 unfold o0a;rw[Dl];exact Gn _ _
def chL (d:List (ByteArray×ByteArray))(n:Nat):Nat->List (Int×Rat)
 | 0=>[]
 | j+1=>chL d n j++o0a d ((j:Int)-n)
theorem h0Z (d:List (ByteArray×ByteArray))(n:Nat):∀ j,(chL d n j).length<=j*d.length
 | 0=>by simp[chL]
 | j+1=>by
  have h1:=h0Z d n j;have h2:=g0v d ((j:Int)-n);rw[chL,Z4,Iv];omega
theorem o0L {L:List (ByteArray×ByteArray)}(hnd:(L.map b0B).Nodup){p:ByteArray×ByteArray}(hp:p∈L):L.filter (fun x=>decide (x.1=p.1)) = [p]:=by
 induction L with
 | nil=>simp at hp
 | cons q r ih=>
  rw[Lr,List.nodup_cons]at hnd;by_cases h:q.1=p.1
  .have hq:∀ x∈r,x.1≠p.1:=fun x hx e=>hnd.1 (by rw[show b0B q=b0B x by unfold b0B;rw[h,e]];exact List.mem_map_of_mem hx)
   have hpq:p=q:=by
    rcases Ci.1 hp with e | e
    .exact e
    .exact absurd rfl (hq p e)
   subst hpq;rw[List.filter_cons_of_pos (by simp)]
   congr 1
   rw[List.filter_eq_nil_iff];intro x hx;simpa using hq x hx
  .have hpr:p∈r:=by
    rcases Ci.1 hp with e | e
    .exact absurd (by rw[e]) h
    .exact e
   rw[List.filter_cons_of_neg (by simpa using h)];exact ih hnd.2 hpr
def t0d {g:Int->Nat}{n r:Nat}(hn:n<=1000)(hg:∀ v,g v<=2 ^ n){k:Int}(h1 : -(n:Int)<=k)(h2:k<=n):o0a (a0y (glP g (2 ^ n) n r)) k=if g k=0 then [] else [(k,dyQ (g k) n)]:=by
 have nd:=s0X (r0l g (2 ^ n) n r);unfold o0a;by_cases h:g k=0
 .rw[J2 h];have e:(a0y (glP g (2 ^ n) n r)).filter (fun p=>decide (p.1=zB k)) = []:=by
   rw[List.filter_eq_nil_iff];intro p hp;rw[b0D,d0t]at hp;rcases hp with ⟨v,-,-,h3,rfl⟩ | ⟨-,rfl⟩
   .intro e;rw[K6]at e;have:=j0y e;subst this;exact h3 h
   .intro e;rw[K6]at e;exact g0m k (congrArg (fun b:ByteArray=>b.data.toList) e.symm)
  rw[e];rfl
 .rw[U0 h];have hm:(zB k,shB (g k) (2 ^ n))∈a0y (glP g (2 ^ n) n r):=by
   rw[b0D,d0t];exact .inl ⟨k,h1,h2,h,rfl⟩
  have e:=o0L nd hm;dsimp only at e;rw[e];have e2:shB (g k) (2 ^ n)=txQ (dyQ (g k) n):=h0c (hg k) hn;rw[List.map_singleton,e2,f0r]
theorem s0j {g:Int->Nat}{n r:Nat}(hn:n<=1000)(hg:∀ v,g v<=2 ^ n):∀ j,j<=2*n+1->chL (a0y (glP g (2 ^ n) n r)) n j=(chV g n j).map fun v=>(v,dyQ (g v) n)
 | 0,_=>rfl
 | j+1,h=>by
  rw[chL,s0j hn hg j (by omega),n0B,Bj,t0d hn hg (by omega) (by omega)]
  congr 1
  by_cases e:g ((j:Int)-n)=0
  .rw[J2 e,J2 e];rfl
  .rw[U0 e,U0 e];rfl
def x0q {g:Int->Nat}{n r:Nat}(hn:n<=1000)(hg:∀ v,g v<=2 ^ n)(hr:r<=2 ^ n):∀ p∈a0y (glP g (2 ^ n) n r),qE p.2=0/\p.2.size<=10000:=fun p hp=>by
 rw[b0D,d0t]at hp;have key:∀ x,x<=2 ^ n->qE (shB x (2 ^ n))=0/\(shB x (2 ^ n)).size<=10000:=fun x hx=>by
  refine⟨?_,d0o _⟩;have e2:shB x (2 ^ n)=txQ (dyQ x n):=h0c hx hn;have hf:¬ ovQ (dyQ x n):=(g0f (K:=4000) (d0W n) (by rw[Jq];exact h0v hx hn) (h0v nr0 hn)).fits (by omega) (by omega);rw[e2];exact m0N hf
 rcases hp with ⟨v,-,-,-,rfl⟩ | ⟨-,rfl⟩
 .exact key _ (hg v)
 .exact key _ hr
def t0t (w:World)(s:ByteArray)(hs:s.size<=1000000):Calls Tryz.prog 118 #[.string s] w fun e w'=>e=.returned (.int .i64 (qE s))/\Below w.heap.size w w':=by
 have R1:=fun V=>hid (c0X V s hs)
 clear hs;go_enter Tryz.func118,Tryz.ntmps118;go_wp2_with fail;refine (R1 _).out.mono ?_;rintro e w1 ⟨hr1,hb1⟩;obtain⟨m,a,n,c,a',n',c',rfl,h1,h2⟩:=hr1.open;obtain⟨x,hx⟩:=gn (qE s);have HX:=hid hx;rw[hx];have y2:=hid (hb1.alloc hb1.size (.cells #[.bool m,.slice a n c,.slice a' n' c'] 81));clear h1 h2 hr1 hb1 hx R1;go_wp2_with fail;go_ret
 exact⟨by rw[HX.out];rfl,y2.out⟩
theorem IsQ.parts {k:IntKind}{w:World}{m:Bool}{N D:Value}{q:Rat}(h:IsQ k w (.agg #[.bool m,N,D]) q):IsN k w N q.num.natAbs/\IsN k w D q.den:=by
 obtain⟨N',D',e,h1,h2⟩:=h.ex;simp at e;obtain⟨-,rfl,rfl⟩:=e;exact⟨h1,h2⟩
theorem IsQ.sign {k:IntKind}{w:World}{m:Bool}{N D:Value}{q:Rat}(h:IsQ k w (.agg #[.bool m,N,D]) q):m=decide (q.num<0):=by
 obtain⟨N',D',e,h1,h2⟩:=h.ex;simp at e;simpa using e.1
def shE (n d:Nat):Int:=if 1000<nDigits n\/1000<nDigits d then 5 else 0
def t0m (w:World)(s:ByteArray)(hs:s.size<=1000000)(hq:qE s=0):Calls Tryz.prog 138 #[.string s] w fun e w'=>e=.returned (.int .i64 (shE (vQ s).num.natAbs (vQ s).den))/\Below w.heap.size w w':=by
 have R1:=fun V=>hid (c0X V s hs)
 have dl:=hid ((c0t (e0a hq)).limbs (L:=1000000) (by omega) (by omega));obtain⟨n,hn⟩:=gn ((vQ s).num.natAbs);obtain⟨d,hd⟩:=gn ((vQ s).den);have HQ:=hid hq;rw[hn,hd]at dl;rw[hn,hd];have HN:=hid hn;have HD:=hid hd;have sz:=hid (a0t n);have sz2:=hid (a0t d);clear hs hn hd;obtain⟨B1,hB1⟩:=gn (a0f n);obtain⟨B2,hB2⟩:=gn (a0f d);rw[hB1]at sz;rw[hB2]at sz2;have E1:=hid hB1;have E2:=hid hB2;clear hB1 hB2 hq;have key:(1000<B1.size/\shE n d=5)\/(¬ 1000<B1.size/\1000<B2.size/\shE n d=5)\/(¬ 1000<B1.size/\¬ 1000<B2.size/\shE n d=0):=by
  rw[sz.out,sz2.out];unfold shE;by_cases h1:1000<nDigits n
  .exact .inl ⟨h1,J2 (.inl h1)⟩
  .by_cases h2:1000<nDigits d
   .exact .inr (.inl ⟨h1,h2,J2 (.inr h2)⟩)
   .exact .inr (.inr ⟨h1,h2,U0 (fun h=>h.elim h1 h2)⟩)
 rcases key with ⟨k1,k2⟩ | ⟨k1,k2,k3⟩ | ⟨k1,k2,k3⟩
 .have q0:decide ((1000:Int)<(B1.size:Int))=true:=by simp;omega
  rw[k2];clear k1 k2;go_enter Tryz.func138,Tryz.ntmps138;go_wp2_with fail;refine (R1 _).out.mono ?_;rintro e w1 ⟨hr1,hb1⟩;obtain⟨m,a,k,c,a',k',c',rfl,h1,h2⟩:=hr1.open;have q:=h1 HQ.out;rw[HQ.out];obtain⟨hN,hD⟩:=q.parts;rw[HN.out]at hN;rw[HD.out]at hD;have b2:=hid ((Z3 w1.heap.size w1).alloc nr0 (.cells #[.bool m,.slice a k c,.slice a' k' c'] 81));have X2:=hid (Blk.new w1 #[.bool m,.slice a k c,.slice a' k' c'] 81);have N2:=hid (hN.call b2.out);have D2:=hid (hD.call b2.out);have y2:=hid (a0a hb1 b2.out);have g1:=X2.out.cell 1;have g2:=X2.out.cell 2;simp at g1 g2;clear h1 h2 hr1 hb1 q hN hD b2;clear g2 R1;go_wp2_with fail;refine (a0S _ _ _ N2.out dl.out.1).mono ?_;rintro e w3 ⟨rfl,hb3⟩;rw[b0t,E1.out];have y3:=hid (a0a y2.out hb3);clear hb3;go_wp2_with fail;go_ret
  exact⟨rfl,y3.out⟩
 focus
  have q0:decide ((1000:Int)<(B1.size:Int))=false:=by simp;omega
  have q1:decide ((1000:Int)<(B2.size:Int))=true:=by simp;omega
 rotate_left
 focus
  have q0:decide ((1000:Int)<(B1.size:Int))=false:=by simp;omega
  have q1:decide ((1000:Int)<(B2.size:Int))=false:=by simp;omega
 all_goals
  rw[k3];clear k1 k2 k3;go_enter Tryz.func138,Tryz.ntmps138;go_wp2_with fail;refine (R1 _).out.mono ?_;rintro e w1 ⟨hr1,hb1⟩;obtain⟨m,a,k,c,a',k',c',rfl,h1,h2⟩:=hr1.open;have q:=h1 HQ.out;rw[HQ.out];obtain⟨hN,hD⟩:=q.parts;rw[HN.out]at hN;rw[HD.out]at hD;have b2:=hid ((Z3 w1.heap.size w1).alloc nr0 (.cells #[.bool m,.slice a k c,.slice a' k' c'] 81));have X2:=hid (Blk.new w1 #[.bool m,.slice a k c,.slice a' k' c'] 81);have N2:=hid (hN.call b2.out);have D2:=hid (hD.call b2.out);have y2:=hid (a0a hb1 b2.out);have g1:=X2.out.cell 1;have g2:=X2.out.cell 2;simp at g1 g2;clear h1 h2 hr1 hb1 q hN hD b2;clear R1;go_wp2_with fail;refine (a0S _ _ _ N2.out dl.out.1).mono ?_;rintro e w3 ⟨rfl,hb3⟩;rw[b0t,E1.out];have y3:=hid (a0a y2.out hb3);have D3:=hid (D2.out.call hb3);have g3:=(X2.out.call hb3).cell 2;simp at g3;clear hb3 g1 g2;go_wp2_with fail;refine (a0S _ _ _ D3.out dl.out.2).mono ?_;rintro e w4 ⟨rfl,hb4⟩;rw[b0t,E2.out];have y4:=hid (a0a y3.out hb4);clear hb4;go_wp2_with fail;go_ret
  exact⟨rfl,y4.out⟩
def w0u (w:World)(s:ByteArray)(hs:s.size<=9223372036854775807):Calls Tryz.prog 139 #[.string s] w fun e w'=>e=.returned (.int .i64 (c0u s))/\w=w':=by
 have R1:=fun V=>hid (m0K V s hs)
 unfold c0u;by_cases hb:n0I s=true
 .have e1:j0s s=0:=J2 hb;rw[e1]at R1;rw[J2 hb];by_cases hl:256<s.size
  .have q0:decide ((256:Int)<(s.size:Int))=true:=by simp;omega
   rw[J2 hl];clear hb e1 hl hs;go_enter Ku,Jr;go_wp2_with fail;refine (R1 _).out.mono ?_;rintro e w1 ⟨rfl,rfl⟩;go_wp2_with fail;go_ret
   exact⟨rfl,rfl⟩
  .have q0:decide ((256:Int)<(s.size:Int))=false:=by simp;omega
   rw[U0 hl];clear hb e1 hl hs;go_enter Ku,Jr;go_wp2_with fail;refine (R1 _).out.mono ?_;rintro e w1 ⟨rfl,rfl⟩;go_wp2_with fail;go_ret
   exact⟨rfl,rfl⟩
 .have e1:j0s s=3:=U0 hb;rw[e1]at R1;rw[U0 hb];clear hb e1 hs;go_enter Ku,Jr;go_wp2_with fail;refine (R1 _).out.mono ?_;rintro e w1 ⟨rfl,rfl⟩;go_wp2_with fail;go_ret
  exact⟨rfl,rfl⟩
def x0y {s:ByteArray}(h:qE s=0):gPE s=if (vQ s).num<0 then 2 else if (vQ s).den<=(vQ s).num.natAbs then 2 else shE (vQ s).num.natAbs (vQ s).den:=by
 obtain⟨e1,e2,e3⟩:=i0e h;obtain⟨h1,h2,h3⟩:=i0y h;have hn:iM (cW s)=true↔(vQ s).num<0:=by rw[<- e1];simp
 have hW0:=d0b (c0k h1);have hD:=i0z h1;unfold gPE;rw[U0 (by rw[h];simp)];by_cases hm:iM (cW s)=true
 .rw[J2 (.inl hm),J2 (hn.1 hm)]
 .have hm':iM (cW s)=false:=by simpa using hm
  rw[b0O hm']at hW0 e2;unfold qL at h2;rw[b0O hm']at h2;simp only[Ic,D9]at h2;have s1:(cW s).data.toList.length=(cW s).size:=An;have s2:(qD s).data.toList.length=(qD s).size:=An;have c1:k0J (cW s).data.toList (qD s).data.toList=b0d (vQ s).num.natAbs (vQ s).den:=by
   rw[k0J,J2 ⟨f0l (a0V.1 hW0) (by omega),f0l (a0V.1 hD) (by omega)⟩,e2,e3]
   rfl
  have z1:(cW s).size=nDigits (vQ s).num.natAbs:=by rw[e2,<- a0t,<- e0g hW0]
  have z2:(qD s).size=nDigits (vQ s).den:=by rw[e3,<- a0t,<- e0g hD]
  rw[c1,z1,z2,U0 (show ¬ (vQ s).num<0 from fun h=>hm (hn.2 h))];have ho:0<=b0d (vQ s).num.natAbs (vQ s).den↔(vQ s).den<=(vQ s).num.natAbs:=by
   unfold b0d
   split
   .constructor<;>intro h<;>omega
   .split<;>constructor<;>intro h<;>omega
  unfold shE;by_cases hle:(vQ s).den<=(vQ s).num.natAbs
  .rw[J2 (.inr (ho.2 hle)),J2 hle]
  .rw[U0 (fun h=>h.elim hm (fun h=>hle (ho.1 h))),U0 hle]
def b0V (w:World)(s:ByteArray)(hs:s.size<=1000000):Calls Tryz.prog 46 #[.string s] w fun e w'=>e=.returned (.int .i64 (gPE s))/\Below w.heap.size w w':=by
 have R0:=fun V=>hid (t0t V s hs)
 have R1:=fun V=>hid (c0X V s hs)
 by_cases hq:qE s=0
 .have R2:=fun V=>hid (t0m V s hs hq)
  have hg:=x0y hq;obtain⟨n,hn⟩:=gn ((vQ s).num.natAbs);obtain⟨d,hd⟩:=gn ((vQ s).den);have HQ:=hid hq;rw[hn,hd]at R2 hg;rw[hq]at R0;have HN:=hid hn;have HD:=hid hd;clear hs hn hd hq;by_cases hm:(vQ s).num<0
  .rw[J2 hm]at hg;rw[hg];have HM:=hid (show decide ((vQ s).num<0)=true from by simpa using hm);clear hg hm R2;go_enter Tryz.func46,Tryz.ntmps46;go_wp2_with fail;refine (R0 _).out.mono ?_;rintro e w0 ⟨rfl,hb0⟩;have y0:=hid hb0;clear hb0;go_wp2_with fail;refine (R1 _).out.mono ?_;rintro e w1 ⟨hr1,hb1⟩;obtain⟨m,a,k,c,a',k',c',rfl,h1,h2⟩:=hr1.open;have q:=h1 HQ.out;rw[HQ.out];have MS:=hid q.sign;obtain⟨hN,hD⟩:=q.parts;rw[HN.out]at hN;rw[HD.out]at hD;have b2:=hid ((Z3 w1.heap.size w1).alloc nr0 (.cells #[.bool m,.slice a k c,.slice a' k' c'] 81));have X2:=hid (Blk.new w1 #[.bool m,.slice a k c,.slice a' k' c'] 81);have N2:=hid (hN.call b2.out);have D2:=hid (hD.call b2.out);have y2:=hid (a0a (a0a y0.out hb1) b2.out);have g0:=X2.out.cell 0;have g1:=X2.out.cell 1;have g2:=X2.out.cell 2;simp at g0 g1 g2;clear h1 h2 hr1 hb1 q hN hD b2;clear g1 g2;obtain rfl:m=true:=MS.out.trans HM.out;go_wp2_with fail;go_ret
   exact⟨rfl,y2.out⟩
  .rw[U0 hm]at hg;have HM:=hid (show decide ((vQ s).num<0)=false from by simpa using hm);by_cases hle:d<=n
   .rw[J2 hle]at hg;rw[hg];have HO:Hid (decide (0<=b0d n d)=true):=by
     show decide (0<=b0d n d)=true
     rw[Fe];unfold b0d
     split
     .omega
     .split<;>omega
    clear hg hm R2 hle;go_enter Tryz.func46,Tryz.ntmps46;go_wp2_with fail;refine (R0 _).out.mono ?_;rintro e w0 ⟨rfl,hb0⟩;have y0:=hid hb0;clear hb0;go_wp2_with fail;refine (R1 _).out.mono ?_;rintro e w1 ⟨hr1,hb1⟩;obtain⟨m,a,k,c,a',k',c',rfl,h1,h2⟩:=hr1.open;have q:=h1 HQ.out;rw[HQ.out];have MS:=hid q.sign;obtain⟨hN,hD⟩:=q.parts;rw[HN.out]at hN;rw[HD.out]at hD;have b2:=hid ((Z3 w1.heap.size w1).alloc nr0 (.cells #[.bool m,.slice a k c,.slice a' k' c'] 81));have X2:=hid (Blk.new w1 #[.bool m,.slice a k c,.slice a' k' c'] 81);have N2:=hid (hN.call b2.out);have D2:=hid (hD.call b2.out);have y2:=hid (a0a (a0a y0.out hb1) b2.out);have g0:=X2.out.cell 0;have g1:=X2.out.cell 1;have g2:=X2.out.cell 2;simp at g0 g1 g2;clear h1 h2 hr1 hb1 q hN hD b2;obtain rfl:m=false:=MS.out.trans HM.out;go_wp2_with fail;refine (b0k _ _ _ _ _ N2.out D2.out).mono ?_;rintro e w3 ⟨rfl,hb3⟩;have y3:=hid (a0a y2.out hb3);clear hb3;obtain⟨t,ht⟩:=gn (b0d n d);have q1:=HO.out;rw[ht]at q1 |-;clear ht;go_wp2_with fail;go_ret
    exact⟨rfl,y3.out⟩
   .rw[U0 hle]at hg;rw[hg];have HO:Hid (decide (0<=b0d n d)=false):=by
     show decide (0<=b0d n d)=false
     rw[D9];unfold b0d
     split
     .omega
     .omega
    clear hg hm hle;obtain⟨x,hx⟩:=gn (shE n d);rw[hx]at R2 |-;clear hx;go_enter Tryz.func46,Tryz.ntmps46;go_wp2_with fail;refine (R0 _).out.mono ?_;rintro e w0 ⟨rfl,hb0⟩;have y0:=hid hb0;clear hb0;go_wp2_with fail;refine (R1 _).out.mono ?_;rintro e w1 ⟨hr1,hb1⟩;obtain⟨m,a,k,c,a',k',c',rfl,h1,h2⟩:=hr1.open;have q:=h1 HQ.out;rw[HQ.out];have MS:=hid q.sign;obtain⟨hN,hD⟩:=q.parts;rw[HN.out]at hN;rw[HD.out]at hD;have b2:=hid ((Z3 w1.heap.size w1).alloc nr0 (.cells #[.bool m,.slice a k c,.slice a' k' c'] 81));have X2:=hid (Blk.new w1 #[.bool m,.slice a k c,.slice a' k' c'] 81);have N2:=hid (hN.call b2.out);have D2:=hid (hD.call b2.out);have y2:=hid (a0a (a0a y0.out hb1) b2.out);have g0:=X2.out.cell 0;have g1:=X2.out.cell 1;have g2:=X2.out.cell 2;simp at g0 g1 g2;clear h1 h2 hr1 hb1 q hN hD b2;obtain rfl:m=false:=MS.out.trans HM.out;go_wp2_with fail;refine (b0k _ _ _ _ _ N2.out D2.out).mono ?_;rintro e w3 ⟨rfl,hb3⟩;have y3:=hid (a0a y2.out hb3);clear hb3;obtain⟨t,ht⟩:=gn (b0d n d);have q1:=HO.out;rw[ht]at q1 |-;clear ht;go_wp2_with fail;refine (R2 _).out.mono ?_;rintro e w4 ⟨rfl,hb4⟩;have y4:=hid (a0a y3.out hb4);clear hb4;go_wp2_with fail;go_ret
    exact⟨rfl,y4.out⟩
 .have hg:gPE s=qE s:=J2 hq;rw[hg];obtain⟨x,hx⟩:=gn (qE s);rw[hx]at hq R0 |-;have q0:(x != 0)=true:=by simpa using hq
  clear hq hx hg hs R1;go_enter Tryz.func46,Tryz.ntmps46;go_wp2_with fail;refine (R0 _).out.mono ?_;rintro e w0 ⟨rfl,hb0⟩;have y0:=hid hb0;clear hb0;go_wp2_with fail;go_ret
  exact⟨rfl,y0.out⟩
def l0j (w:World)(a b:ByteArray)(ha:a.size<=1000000)(hb:b.size<=1000000):Calls Tryz.prog 140 #[.string a,.string b] w fun e w'=>e=.returned (.int .i64 (gE a b))/\Below w.heap.size w w':=by
 have R0:=fun V=>hid (b0V V a ha)
 have R1:=fun V=>hid (w0u V b (by omega))
 unfold gE;obtain⟨x,hx⟩:=gn (gPE a);obtain⟨y,hy⟩:=gn (c0u b);rw[hx]at R0 |-;rw[hy]at R1 |-;clear hx hy ha hb;by_cases h0:x=0
 .subst h0;rw[U0 (by simp)];go_enter Tryz.func140,Tryz.ntmps140;go_wp2_with fail;refine (R0 _).out.mono ?_;rintro e w0 ⟨rfl,hb0⟩;have y0:=hid hb0;clear hb0;go_wp2_with fail;refine (R1 _).out.mono ?_;rintro e w1 ⟨rfl,rfl⟩;go_wp2_with fail;go_ret
  exact⟨rfl,y0.out⟩
 .rw[J2 h0];have q0:(x != 0)=true:=by simpa using h0
  clear h0;go_enter Tryz.func140,Tryz.ntmps140;go_wp2_with fail;refine (R0 _).out.mono ?_;rintro e w0 ⟨rfl,hb0⟩;have y0:=hid hb0;clear hb0;go_wp2_with fail;go_ret
  exact⟨rfl,y0.out⟩
open Go.Shelf
def q0g (w:World)(v:Value)(c:List Int)(hv:Row w v (zs c)):
 Calls Tryz.prog 45 #[v] w fun e w'=>e=.returned (.int .i64 (zE c))/\Below w.heap.size w w':=by
 obtain⟨s,cp,rfl,q1,q2,q3⟩:=hv.openZ;obtain⟨n,hn⟩:=gn (c.length);unfold zE;rw[hn]at q1 |-;by_cases h1:256<n
 .have t1:decide ((256:Int)<(n:Int))=true:=E7 (by omega);rw[J2 h1];clear hv q3 hn h1;go_enter Tryz.func45,Tryz.ntmps45;go_wp2_with fail;go_ret
  exact⟨rfl,Z3 _ _⟩
 have t1:decide ((256:Int)<(n:Int))=false:=M6 (by omega);rw[U0 h1];obtain⟨X,hX⟩:∃ X:Int,(if c.any e0s=true then (2:Int) else 0)=X:=⟨_,rfl⟩;have HX1:Hid (c.any e0s=true->X=2):=fun h=>by rw[<- hX,J2 h]
 have HX0:Hid ((∀ x∈c,e0s x=false)->X=0):=fun h=>by
  rw[<- hX,U0 (fun k=>by
   obtain⟨x,hx,hp⟩:=Cm.1 k;rw[h x hx]at hp;cases hp)]
 rw[hX];have Q3:=hid q3;have HN:=hid hn;clear hv q3 hn hX;go_enter Tryz.func45,Tryz.ntmps45;go_wp2_with fail
 go_loop [3] (fun ii=>∃ i:Nat,ii=.int .i64 i/\i<=n/\Hid (∀ j x,j<i->c[j]?=some x->e0s x=false)) (fun ii=>n-(intOf ii).toNat)
 case atStart=>exact⟨0,rfl,S4 _,fun j x hj=>absurd hj (by omega)⟩
 case round=>
  obtain⟨i,rfl,hi,hI⟩:=hrel;by_cases hlt:i<n
  .obtain⟨x,hx⟩:∃ x,c[i]?=some x:=⟨_,J0 (by rw[HN.out];exact hlt)⟩;obtain⟨g,o,rfl,hg,hc⟩:=Q3.out i x hx;have HX:=hid hx;have b1:(0:Int)<=(i:Int):=by omega
   have b2:(i:Int)<(n:Int):=by omega
   have wi:IntKind.i64.wrap ((i:Int)+1)=((i+1:Nat):Int):=by rw[Q0 _ ⟨by omega,by omega⟩];omega
   have hz:e0s x=(decide (x < -1125899906842624) || decide (1125899906842624<x)):=rfl;obtain⟨p,hp⟩:=gn (decide (x < -1125899906842624));obtain⟨q,hq⟩:=gn (decide (1125899906842624<x));rw[hp,hq]at hz;have HZ:=hid hz;have HA:Hid (e0s x=true->X=2):=fun h=>HX1.out (Cm.2 ⟨x,C7 hx,h⟩)
   clear hx hz;cases p
   .cases q
    .go_wp2_with fail;go_round
     case rel=>exact⟨i+1,by go_num,by omega,fun j y hj hy=>by
      rcases Cc j i with h | h
      .exact hI.out j y h hy
      .obtain rfl:j=i:=by omega
       rw[HX.out]at hy;cases hy;exact HZ.out⟩
     case measure=>simp[intOf]<;>omega
    .have HE:=hid (HA.out HZ.out);go_wp2_with fail;go_ret
     exact⟨by rw[HE.out];rfl,Z3 _ _⟩
   .have HE:=hid (HA.out HZ.out);clear hq;go_wp2_with fail;go_ret
    exact⟨by rw[HE.out];rfl,Z3 _ _⟩
  .obtain rfl:i=n:=by omega
   have HE:=hid (HX0.out (fun x hx=>by
    obtain⟨j,hj⟩:=Cp hx;exact hI.out j x (by rw[<- HN.out];exact (O4.1 hj).1) hj))
   clear hlt;go_wp2_with fail;go_ret
   exact⟨by rw[HE.out];rfl,Z3 _ _⟩
def l0p (w:World)(v:Value)(l:List ByteArray)(m:Int)(h:Row w v (d0k l))(hsz:∀ b∈l,b.size<=100000000):
 Calls Tryz.prog 47 #[v,.int .i64 m] w fun e w'=>e=.returned (.int .i64 (wdE l m))/\Below w.heap.size w w':=by
 obtain⟨a,c,rfl,h1,h2,h3⟩:=h.openS;obtain⟨n,hn⟩:=gn (l.length);unfold wdE;rw[hn]at h1 |-;by_cases hm:(n:Int)=m
 .rw[J2 hm];have H3:=hid h3;have HN:=hid hn;have HSZ:=hid hsz;have q0:((n:Int)==m)=true:=by rw[Dk];exact hm
  obtain⟨X,hX⟩:∃ X:Int,bsE l=X:=⟨_,rfl⟩;have HX:=hid hX;rw[hX];subst hm;clear h h3 hn hX hsz q0;go_enter Tryz.func47,Tryz.ntmps47;go_wp2_with fail
  go_loop [5] (fun ii=>∃ i:Nat,ii=.int .i64 i/\i<=n/\Hid (∀ (j:Nat) (b:ByteArray),j<i->l[j]?=some b->c0u b=0)) (fun ii=>n-(intOf ii).toNat)
  case atStart=>exact⟨0,rfl,S4 _,fun j b hj=>absurd hj (by omega)⟩
  case round=>
   obtain⟨i,rfl,hi,hI⟩:=hrel;by_cases hlt:i<n
   .obtain⟨x,hx⟩:∃ x,l[i]?=some x:=⟨_,J0 (by rw[HN.out];exact hlt)⟩;obtain⟨g,o,rfl,hg,hc⟩:=H3.out i x hx;have b1:(0:Int)<=(i:Int):=by omega
    have b2:(i:Int)<(n:Int):=by omega
    have wi:IntKind.i64.wrap ((i:Int)+1)=(i:Int)+1:=by rw[Q0 _ ⟨by omega,by omega⟩]
    have PN:=fun W=>hid (t0n W x (HSZ.out x (C7 hx)))
    have HXX:=hid hx;have hdrop:l.drop i=x::l.drop (i+1):=by
     have hil:i<l.length:=by rw[HN.out];exact hlt
     rw[H9 hil];have:=J0 hil;rw[hx]at this;rw[J9 this]
    have HD:=hid hdrop;obtain⟨y,hy⟩:=gn (c0u x);rw[hy]at PN;have HY:=hid hy;clear hx hdrop hy;by_cases hy0:y=0
    .subst hy0;go_wp2_with fail;refine (PN _).out.mono ?_;rintro e w1 ⟨rfl,rfl⟩;go_wp2_with fail;go_round
     case rel=>exact⟨i+1,rfl,by omega,fun j b hj hjb=>by
      by_cases e:j=i
      .subst e;rw[HXX.out]at hjb;cases hjb;exact HY.out
      .exact hI.out j b (by omega) hjb⟩
     case measure=>simp[intOf]<;>omega
    .have q3:(y==0)=false:=by rw[U4];exact hy0
     have HE:Hid (X=y):=by
      show X=y
      rw[<- HX.out,i0b hI.out,HD.out,bsE,HY.out,J2 hy0]
     clear hy0;go_wp2_with fail;refine (PN _).out.mono ?_;rintro e w1 ⟨rfl,rfl⟩;go_wp2_with fail;go_ret
     exact⟨by rw[HE.out];rfl,Z3 _ _⟩
   .obtain rfl:i=n:=by omega
    have HE:Hid (X=0):=by
     show X=0
     have hd:l.drop i = []:=Ga (by rw[HN.out];exact J4 _);rw[<- HX.out,i0b hI.out,hd];rfl
    go_wp2_with fail;go_ret
    exact⟨by rw[HE.out];rfl,Z3 _ _⟩
 .rw[U0 hm];have q0:((n:Int)==m)=false:=by rw[U4];exact hm
  clear h h3 hn hsz hm;go_enter Tryz.func47,Tryz.ntmps47;go_wp2_with fail;go_ret
  exact⟨rfl,Z3 _ _⟩
def o0j (w:World)(v:Value)(c:List Int)(hv:Row w v (zs c)):
 Calls Tryz.prog 181 #[v] w fun e w'=>e=.returned (.int .i64 (ctE c))/\Below w.heap.size w w':=by
 have HC:=hid (q0g w v c hv);obtain⟨s,cp,rfl,q1,q2,q3⟩:=hv.openZ;obtain⟨n,hn⟩:=gn (c.length);unfold ctE;obtain⟨z,hz⟩:=gn (zE c);rw[hz]at HC |-;rw[hn]at HC |-;clear hv q1 q2 q3 hn hz;by_cases h0:n=0
 .subst h0;rw[J2 rfl];go_enter Tryz.func181,Tryz.ntmps181;go_wp2_with fail;go_ret
  exact⟨rfl,Z3 _ _⟩
 .have t0:((n:Int)==0)=false:=by rw[U4];omega
  rw[U0 h0];clear h0;go_enter Tryz.func181,Tryz.ntmps181;go_wp2_with fail;refine HC.out.mono ?_;rintro e w1 ⟨rfl,hb1⟩;go_wp2_with fail;go_ret
  exact⟨rfl,hb1⟩
def l0o (w:World)(a:ByteArray)(ha:a.size<=1000000):
 Calls Tryz.prog 91 #[.string a] w fun e w'=>e=.returned (.int .i64 (n0b a))/\Below w.heap.size w w':=by
 have HC:=hid (b0V w a ha);unfold n0b;obtain⟨z,hz⟩:=gn (gPE a);rw[hz]at HC |-;clear hz ha;by_cases h0:z=0
 .subst h0;rw[U0 (by simp)];by_cases h1:a=⟨#[48]⟩
  .subst h1;rw[J2 rfl];go_enter Tryz.func91,Tryz.ntmps91;go_wp2_with fail;refine HC.out.mono ?_;rintro e w1 ⟨rfl,hb1⟩;go_wp2_with fail;go_ret
   exact⟨rfl,hb1⟩
  .have t1:(a.toList == [48])=false:=a0L h1;rw[U0 h1];clear h1;go_enter Tryz.func91,Tryz.ntmps91;go_wp2_with fail;refine HC.out.mono ?_;rintro e w1 ⟨rfl,hb1⟩;go_wp2_with fail;go_ret
   exact⟨rfl,hb1⟩
 .have t0:(z==0)=false:=by rw[U4];exact h0
  rw[J2 h0];clear h0;go_enter Tryz.func91,Tryz.ntmps91;go_wp2_with fail;refine HC.out.mono ?_;rintro e w1 ⟨rfl,hb1⟩;go_wp2_with fail;go_ret
  exact⟨rfl,hb1⟩
def d0m (w:World)(v:Value)(c:List Int)(a:ByteArray)(hv:Row w v (zs c))(ha:a.size<=1000000):
 Calls Tryz.prog 85 #[v,.string a] w fun e w'=>e=.returned (.int .i64 (qnE c a))/\Below w.heap.size w w':=by
 have HC:=hid (o0j w v c hv);have HR:=fun V=>hid (b0V V a ha)
 obtain⟨s,cp,rfl,q1,q2,q3⟩:=hv.openZ;unfold qnE;obtain⟨z,hz⟩:=gn (ctE c);obtain⟨g,hg⟩:=gn (gPE a);rw[hz]at HC |-;rw[hg]at HR |-;clear hv q1 q2 q3 hz hg ha;by_cases h0:z=0
 .subst h0;rw[U0 (by simp)];go_enter Tryz.func85,Tryz.ntmps85;go_wp2_with fail;refine HC.out.mono ?_;rintro e w1 ⟨rfl,hb1⟩;have y1:=hid hb1;clear hb1;go_wp2_with fail;refine (HR _).out.mono ?_;rintro e w2 ⟨rfl,hb2⟩;have y2:=hid (a0a y1.out hb2);clear hb2;go_wp2_with fail;go_ret
  exact⟨rfl,y2.out⟩
 .have t0:(z==0)=false:=by rw[U4];exact h0
  rw[J2 h0];clear h0;go_enter Tryz.func85,Tryz.ntmps85;go_wp2_with fail;refine HC.out.mono ?_;rintro e w1 ⟨rfl,hb1⟩;go_wp2_with fail;go_ret
  exact⟨rfl,hb1⟩
end
section
open Go.RowKit
open Go.Lib (decDigits nDigits)
def u0X (N D K T:Nat)(v:Nat)(b:Bool):Prop:=(decide (b0d (N*T) (K*D)<=0)=true/\v=0/\b=true)\/(decide (b0d (N*T) (K*D)<=0)=false/\v=1/\b=decide (b0d (K*D+D) (N*T)<=0))
def v0l (a b:Nat):decide (b0d a b<=0)=decide (a<=b):=by
 unfold b0d
 split
 .rw[Fh];omega
 .split<;>(rw[Fh];omega)
def a1F (N D K T:Nat):u0X N D K T (sdV N D K T) (sdB N D K T):=by
 unfold u0X sdV sdB;rw[v0l,v0l];by_cases h:N*T<=K*D
 .exact .inl ⟨by simpa using h,J2 h,by simp[h]⟩
 .exact .inr ⟨by simpa using h,U0 h,by simp[h]⟩
def l0m (w:World)(m:Bool)(N D:Value)(n d v:Nat)(b:Bool)(s:ByteArray)(hs:s.size<=100000)(hN:IsN .i64 w N n)(hD:IsN .i64 w D d)
 (l1:(limbs n).length<=100000) (l2:(limbs d).length<=100000) (key:u0X n d (bv s.data.toList) (2 ^ s.size) v b):
 Calls Tryz.prog 272 #[.agg #[.bool m,N,D],.string s] w fun e w'=>e=.returned (.tuple #[.int .i64 v,.bool b])/\Below w.heap.size w w':=by
 have RV:=fun V=>hid (t0o V s hs)
 have RT:=fun V=>hid (m0I V s.size hs)
 have hsl:s.data.toList.length=s.size:=by simp
 have bl:=y0u (l:=s.data.toList) s.data.toList.length nr0;rw[Gb,hsl]at bl;obtain⟨K,hK⟩:=gn (bv s.data.toList);obtain⟨T,hT⟩:=gn (2 ^ s.size);have lK:(limbs K).length<=100000:=by rw[<- hK];exact O0 (c0N bl) hs
 have lT:(limbs T).length<=100001:=by rw[<- hT];exact O0 (c0N (k:=s.size+1) (Gt (by omega) (by omega))) (by omega)
 rw[hK]at RV key;rw[hT]at RT key;have L1:=hid (O0 l1 (show 100000<=1000000 by omega));have L2:=hid (O0 l2 (show 100000<=1000000 by omega));have L3:=hid (O0 lK (show 100000<=1000000 by omega));have L4:=hid (O0 lT (show 100001<=1000000 by omega));have L5:=hid (O0 (a0H lK l2) (show 100000+100000<=1000000 by omega));clear hsl bl hK hT lK lT l1 l2 hs;have HN:=hid hN;have HD:=hid hD;obtain⟨a1,c1,rfl,_⟩:=hN.openI;obtain⟨a2,c2,rfl,_⟩:=hD.openI;obtain⟨k1,hk1⟩:=gn ((limbs n).length);obtain⟨k2,hk2⟩:=gn ((limbs d).length);rw[hk1]at HN |-;rw[hk2]at HD |-;clear hN hD hk1 hk2;unfold u0X at key;obtain⟨t,ht⟩:=gn (b0d (n*T) (K*d));obtain⟨u,hu⟩:=gn (b0d (K*d+d) (n*T));rw[ht,hu]at key;have HT:=hid ht;have HU:=hid hu;clear ht hu;obtain⟨W,hW⟩:=gn (w.alloc (.cells #[.bool m,.slice a1 k1 c1,.slice a2 k2 c2] 81));have X0:Below w.heap.size w W:=by rw[<- hW];exact br0.alloc nr0 _
 have Y0:Blk W w.heap.size #[.bool m,.slice a1 k1 c1,.slice a2 k2 c2] 81:=by rw[<- hW];exact Blk.new w _ _
 have HX0:=hid X0;have HY0:=hid Y0;have XN:=hid (HN.out.call X0);have XD:=hid (HD.out.call X0);have HW:=hid hW;clear X0 Y0 hW HN HD;rcases key with ⟨key,rfl,rfl⟩ | ⟨key,rfl,rfl⟩
 .go_enter Tryz.func272,Tryz.ntmps272;go_wp2_with fail;rw[HW.out];refine (RV _).out.mono ?_;rintro e w1 ⟨⟨v1,rfl,hv1⟩,hb1⟩;have bb1:=hid hb1;have V1:=hid hv1;have g1:=(HY0.out.call hb1).cell 1;simp at g1;clear hv1 hb1;go_wp2_with fail;have K1:Hid (∀ w',Below w1.heap.size w1 w'->w'.cell? ⟨w.heap.size,1,none⟩=some (.slice a1 k1 c1)):=fun w' hb=>by
   have:=(HY0.out.call (a0a bb1.out hb)).cell 1;simpa using this
  go_region_held3 (fun w'=>w'.cell? ⟨w.heap.size,1,none⟩=some (.slice a1 k1 c1))
   (first
    | exact K1.out _ br0.drew
    | exact K1.out _ cc3.out
    | exact K1.out _ cc2.out)
   (first
    | (go_at_call 221;refine (RT _).out.mono ?_;rintro e w2 ⟨⟨v2,rfl,hv2⟩,hb2⟩;have cc2:=hid (a0a br0.drew hb2);have V2:=hid hv2)
    | (go_at_call 176;refine (b0m _ _ _ n T (XN.out.call (a0a bb1.out cc2.out)) V2.out L1.out L4.out).mono ?_;rintro e w3 ⟨⟨v3,rfl,hv3⟩,hb3⟩;have cc3:=hid (a0a cc2.out hb3);have V2':=hid hv3))
  have bb3:=hid (a0a bb1.out cc3.out);have V1':=hid (V1.out.call cc3.out);have g3:=(HY0.out.call bb3.out).cell 2;simp at g3;clear hv2 hb2 hv3 hb3 V2 V1 cc2 cc3 K1 g1;go_wp2_with fail;refine (b0m _ _ _ K d V1'.out (XD.out.call bb3.out) L3.out L2.out).mono ?_;rintro e w4 ⟨⟨v4,rfl,hv4⟩,hb4⟩;have bb4:=hid (a0a bb3.out hb4);have V3:=hid hv4;have V2q:=hid (V2'.out.call hb4);clear hv4 hb4 g3 V2';have V2':=V2q;clear V2q;go_wp2_with fail;refine (b0k _ _ _ _ _ V2'.out V3.out).mono ?_;rintro e w5 ⟨rfl,hb5⟩;have bb5:=hid (a0a bb4.out hb5);rw[HT.out];go_wp2_with fail;go_ret2
  exact⟨rfl,a0a HX0.out bb5.out⟩
 .go_enter Tryz.func272,Tryz.ntmps272;go_wp2_with fail;rw[HW.out];refine (RV _).out.mono ?_;rintro e w1 ⟨⟨v1,rfl,hv1⟩,hb1⟩;have bb1:=hid hb1;have V1:=hid hv1;have g1:=(HY0.out.call hb1).cell 1;simp at g1;clear hv1 hb1;go_wp2_with fail;have K1:Hid (∀ w',Below w1.heap.size w1 w'->w'.cell? ⟨w.heap.size,1,none⟩=some (.slice a1 k1 c1)):=fun w' hb=>by
   have:=(HY0.out.call (a0a bb1.out hb)).cell 1;simpa using this
  go_region_held3 (fun w'=>w'.cell? ⟨w.heap.size,1,none⟩=some (.slice a1 k1 c1))
   (first
    | exact K1.out _ br0.drew
    | exact K1.out _ cc3.out
    | exact K1.out _ cc2.out)
   (first
    | (go_at_call 221;refine (RT _).out.mono ?_;rintro e w2 ⟨⟨v2,rfl,hv2⟩,hb2⟩;have cc2:=hid (a0a br0.drew hb2);have V2:=hid hv2)
    | (go_at_call 176;refine (b0m _ _ _ n T (XN.out.call (a0a bb1.out cc2.out)) V2.out L1.out L4.out).mono ?_;rintro e w3 ⟨⟨v3,rfl,hv3⟩,hb3⟩;have cc3:=hid (a0a cc2.out hb3);have V2':=hid hv3))
  have bb3:=hid (a0a bb1.out cc3.out);have V1':=hid (V1.out.call cc3.out);have g3:=(HY0.out.call bb3.out).cell 2;simp at g3;clear hv2 hb2 hv3 hb3 V2 V1 cc2 cc3 K1 g1;go_wp2_with fail;refine (b0m _ _ _ K d V1'.out (XD.out.call bb3.out) L3.out L2.out).mono ?_;rintro e w4 ⟨⟨v4,rfl,hv4⟩,hb4⟩;have bb4:=hid (a0a bb3.out hb4);have V3:=hid hv4;have V2q:=hid (V2'.out.call hb4);clear hv4 hb4 g3 V2';have V2':=V2q;clear V2q;go_wp2_with fail;refine (b0k _ _ _ _ _ V2'.out V3.out).mono ?_;rintro e w5 ⟨rfl,hb5⟩;have bb5:=hid (a0a bb4.out hb5);rw[HT.out];have g5:=(HY0.out.call bb5.out).cell 2;simp at g5;have V2'':=hid (V2'.out.call hb5);have V3'':=hid (V3.out.call hb5);clear hb5;go_wp2_with fail;refine (d0n _ _ _ _ _ V3''.out (XD.out.call bb5.out) L5.out L2.out).mono ?_;rintro e w6 ⟨⟨v6,rfl,hv6⟩,hb6⟩;have bb6:=hid (a0a bb5.out hb6);have V6:=hid hv6;have W2:=hid (V2''.out.call hb6);clear hv6 hb6;go_wp2_with fail;refine (b0k _ _ _ _ _ V6.out W2.out).mono ?_;rintro e w7 ⟨rfl,hb7⟩;have bb7:=hid (a0a bb6.out hb7);clear hb7;rw[HU.out];go_wp2_with fail;go_ret2
  exact⟨rfl,a0a HX0.out bb7.out⟩
def o0f (w:World)(v:Value)(q:Rat)(s:ByteArray)(hs:s.size<=100000)(h:IsQ .i64 w v q)(l1:(limbs q.num.natAbs).length<=100000)(l2:(limbs q.den).length<=100000):
 Calls Tryz.prog 272 #[v,.string s] w fun e w'=>e=.returned (.tuple #[.int .i64 (sdV q.num.natAbs q.den (bv s.data.toList) (2 ^ s.size):Nat),.bool (sdB q.num.natAbs q.den (bv s.data.toList) (2 ^ s.size))])/\Below w.heap.size w w':=by
 obtain⟨N,D,rfl,hN,hD⟩:=h.ex;exact l0m w _ N D _ _ _ _ s hs hN hD l1 l2 (a1F _ _ _ _)
structure TsI (N D:Nat)(L:List UInt8)(i:Nat):Prop where
 le:i<=L.length+1
 eq:i<=L.length->b0u N D L (bv (L.take i)) (2 ^ i) i=b0u N D L 0 1 0
 last:i=L.length+1->b0u N D L 0 1 0=(false,0,L.length)
theorem TsI.start (N D:Nat)(L:List UInt8):TsI N D L 0:=⟨by omega,fun _=>by simp[bv],fun h=>by omega⟩
theorem TsI.next {N D:Nat}{L:List UInt8}{i:Nat}(h:TsI N D L i)(hi:i<=L.length)(hn:sdB N D (bv (L.take i)) (2 ^ i)=false):TsI N D L (i+1):=by
 refine⟨by omega,fun hlt=>?_,fun he=>?_⟩
 .have:=h.eq hi;rw[g0p hn (by omega)]at this;rw[<- this,m0i (l:=L) (i:=i) (b:=L[i]) (J0 (by omega)),I8,Nat.mul_two]
 .have:=h.eq hi;obtain rfl:i=L.length:=by omega
  rw[g0q hn]at this;exact this.symm
theorem TsI.done {N D:Nat}{L:List UInt8}{i:Nat}(h:TsI N D L i)(hi:i<=L.length)(hn:sdB N D (bv (L.take i)) (2 ^ i)=true):b0u N D L 0 1 0=(true,sdV N D (bv (L.take i)) (2 ^ i),i):=by
 rw[<- h.eq hi,g0r hn]
theorem IsQ.keep2 {k:IntKind}{w w':World}{v:Value}{q:Rat}(h:IsQ k w v q)(hb:Below w.heap.size w w'):IsQ k w' v q:=h.call hb
def a1H (x:Bool×Nat×Nat):Value:=.agg #[.bool x.1,.int .i64 (x.2.1:Nat),.int .i64 (x.2.2:Nat)]
def m0v (s:ByteArray){i:Nat}(h:i<=s.size):(s.extract 0 i).data.toList=s.data.toList.take i/\(s.extract 0 i).size=i:=by
 refine⟨by rw[a0R];simp,by simp;omega⟩
def w0t (w:World)(v:Value)(q:Rat)(s:ByteArray)(hs:s.size<=100000)(h:IsQ .i64 w v q)(l1:(limbs q.num.natAbs).length<=100000)(l2:(limbs q.den).length<=100000):
 Calls Tryz.prog 208 #[v,.string s] w fun e w'=>e=.returned (a1H (b0u q.num.natAbs q.den s.data.toList 0 1 0))/\Below w.heap.size w w':=by
 obtain⟨m,a,n,c,a',n',c',rfl⟩:=h.qv;have RE:=fun V i (hi:i<=s.size) (hV:IsQ .i64 V (.agg #[.bool m,.slice a n c,.slice a' n' c']) q)=>hid (o0f V (.agg #[.bool m,.slice a n c,.slice a' n' c']) q (s.extract 0 i) (by rw[(m0v s hi).2];omega) hV l1 l2)
 obtain⟨N,hN⟩:=gn (q.num.natAbs);obtain⟨D,hD⟩:=gn (q.den);obtain⟨L,hL⟩:=gn (s.data.toList);have hlen:=hid (show L.length=s.size from by rw[<- hL];simp);have hx:=hid (fun i (hi:i<=s.size)=>m0v s hi);rw[hL]at hx;simp only[hN,hD]at RE;rw[hN,hD,hL];have HQ:=hid h;clear h l1 l2 hN hD hL;have x0:=hid ((Blk.new w #[.bool m,.slice a n c,.slice a' n' c'] 81).alloc (.cells #[.bool false,.int .i64 0,.int .i64 0] 62));have x1:=hid (Blk.made (w.alloc (.cells #[.bool m,.slice a n c,.slice a' n' c'] 81)) #[.bool false,.int .i64 0,.int .i64 0] 62 (n:=w.heap.size+1) (by simp));have b1:=hid (((Z3 w.heap.size w).alloc nr0 (.cells #[.bool m,.slice a n c,.slice a' n' c'] 81)).alloc (by simp) (.cells #[.bool false,.int .i64 0,.int .i64 0] 62));go_enter Tryz.func208,Tryz.ntmps208;go_wp2_with fail
 go_loopw [5] (fun ii wr=>∃ i:Nat,ii=.int .i64 i/\Hid (TsI N D L i)/\i<=s.size+1/\Hid (Blk wr w.heap.size #[.bool m,.slice a n c,.slice a' n' c'] 81)/\Hid (Blk wr (w.heap.size+1) #[.bool false,.int .i64 0,.int .i64 0] 62)/\Hid (Below w.heap.size w wr)) (fun ii wr=>s.size+1-(intOf ii).toNat)
 case atStart=>exact⟨0,rfl,TsI.start _ _ _,by omega,x0,x1,b1⟩
 case round=>
  obtain⟨i,rfl,hI,hi,k0,k1,hB⟩:=hrel;by_cases hle:i<=s.size
  .have RI:=fun V hV=>RE V i hle hV
   obtain⟨ex1,ex2⟩:=hx.out i hle;simp only[ex1,ex2]at RI;obtain⟨vv,hvv⟩:=gn (sdV N D (bv (L.take i)) (2 ^ i));obtain⟨bb,hbb⟩:=gn (sdB N D (bv (L.take i)) (2 ^ i));simp only[hvv,hbb]at RI;have HVV:=hid hvv;have HBB:=hid hbb;have iq:Hid (IsQ .i64 wr (.agg #[.bool m,.slice a n c,.slice a' n' c']) q):=HQ.out.keep2 hB.out;have d0:=k0.out.cell 0;have d1:=k0.out.cell 1;have d2:=k0.out.cell 2;simp at d0 d1 d2;clear ex1 ex2 hvv hbb;have KK:Hid (∀ w',Below wr.heap.size wr w'->w'.cell? ⟨w.heap.size,0,none⟩=some (.bool m)/\w'.cell? ⟨w.heap.size,1,none⟩=some (.slice a n c)/\w'.cell? ⟨w.heap.size,2,none⟩=some (.slice a' n' c')):=fun w' hb=>by
    have y:=k0.out.call hb;exact⟨y.cell 0,y.cell 1,y.cell 2⟩
   go_wp2_with fail
   go_region_held3 (fun w'=>w'.cell? ⟨w.heap.size,0,none⟩=some (.bool m)/\w'.cell? ⟨w.heap.size,1,none⟩=some (.slice a n c)/\w'.cell? ⟨w.heap.size,2,none⟩=some (.slice a' n' c'))
    (first
     | exact KK.out _ br0.drew
     | exact KK.out _ cc2.out)
    (first
     | (go_at_call 272;refine (RI _ (iq.out.call br0.drew)).out.mono ?_;rintro e w2 ⟨rfl,hb2⟩;have cc2:=hid (a0a br0.drew hb2)))
   have B2:=hid (a0a hB.out cc2.out);have k02:=hid (k0.out.call cc2.out);have k12:=hid (k1.out.call cc2.out);clear hb2 cc2 KK d0 d1 d2 RI iq;cases bb
   .have NX:=hid (hI.out.next (by rw[hlen.out];exact hle) HBB.out);go_wp2_with fail;go_roundw
    case rel=>exact⟨i+1,by go_num,NX,by omega,k02,k12,B2⟩
    case measure=>simp[intOf]<;>omega
   .have DN:=hid (hI.out.done (by rw[hlen.out];exact hle) HBB.out);rw[HVV.out]at DN;have r0:=k12.out.cell 0;have r1:=k12.out.cell 1;have r2:=k12.out.cell 2;have f0:=k12.out.free 0;have f1:=k12.out.free 1;have f2:=k12.out.free 2;simp at r0 r1 r2;go_wp2_with fail;have s3:=((k12.out.set 0 (.bool true)).set 1 (.int .i64 (vv:Nat))).set 2 (.int .i64 (i:Nat));have z0:=s3.cell 0;have z1:=s3.cell 1;have z2:=s3.cell 2;simp at z0 z1 z2;refine Z6 (v:=.agg #[.bool true,.int .i64 (vv:Nat),.int .i64 (i:Nat)]) (by simp[results,Tryz.results208,go_sem,z0,z1,z2]) rfl ⟨by rw[DN.out];rfl,?_⟩;exact ((B2.out.setCell (Fi _) _).setCell (Fi _) _).setCell (Fi _) _
  .obtain rfl:i=s.size+1:=by omega
   have LS:=hid (hI.out.last (by rw[hlen.out]));have r0:=k1.out.cell 0;have r1:=k1.out.cell 1;have r2:=k1.out.cell 2;have f0:=k1.out.free 0;have f1:=k1.out.free 1;have f2:=k1.out.free 2;simp at r0 r1 r2;go_wp2_with fail;have s3:=((k1.out.set 0 (.bool false)).set 1 (.int .i64 0)).set 2 (.int .i64 (s.size:Nat));have z0:=s3.cell 0;have z1:=s3.cell 1;have z2:=s3.cell 2;simp at z0 z1 z2;refine Z6 (v:=.agg #[.bool false,.int .i64 0,.int .i64 (s.size:Nat)]) (by simp[results,Tryz.results208,go_sem,z0,z1,z2]) rfl ⟨by rw[LS.out,hlen.out];rfl,?_⟩;exact ((hB.out.setCell (Fi _) _).setCell (Fi _) _).setCell (Fi _) _
open Go.Shelf
def w0n {N D:Nat}{l:List UInt8}{p n:Nat}(hd:(a0A N D l p).1=false):s1 N D l p n=none:=by
 unfold s1;rw[b0S (J4 1) hd]
def w0m {N D:Nat}(h:N<D){l:List UInt8}{p n:Nat}(hp:p<=l.length)(hd:(a0A N D l p).1=true)(hv:(a0A N D l p).2.1=1):s1 N D l p n=s1 N D l (p+(a0A N D l p).2.2) (n+1):=by
 unfold s1;rw[f0s h (J4 1) hp hd hv]
def w0l {N D:Nat}{l:List UInt8}{p n:Nat}(hd:(a0A N D l p).1=true)(hv:¬ (a0A N D l p).2.1=1):s1 N D l p n=some (n,p+(a0A N D l p).2.2):=by
 unfold s1;rw[b0R hd hv];rfl
end
section
open Go.RowKit
open Go.Lib (decDigits nDigits)
def c1j (o:Option (Nat×Nat)):Value:=match o with
 | none=>.tuple #[.int .i64 0,.int .i64 0,.bool false]
 | some (n,p)=>.tuple #[.int .i64 (n:Nat),.int .i64 (p:Nat),.bool true]
def o0Y (N D:Nat)(l:List UInt8)(p:Nat):b0u N D (l.drop p) 0 1 0=a0A N D l p:=by
 unfold a0A b0u;simp
def s0e (N D:Nat)(l:List UInt8)(p:Nat):(a0A N D l p).2.1<=1:=by
 rw[g0i];exact m0t _ _ _ _ _
def j0W (w:World)(v:Value)(q:Rat)(s:ByteArray)(hs:s.size<=100000)(h:IsQ .i64 w v q)(l1:(limbs q.num.natAbs).length<=100000)(l2:(limbs q.den).length<=100000)(hlt:q.num.natAbs<q.den):
 Calls Tryz.prog 141 #[v,.string s] w fun e w'=>e=.returned (c1j (s1 q.num.natAbs q.den s.data.toList 0 0))/\Below w.heap.size w w':=by
 obtain⟨m,a,n,c,a',n',c',rfl⟩:=h.qv;have RT:=fun V p (hV:IsQ .i64 V (.agg #[.bool m,.slice a n c,.slice a' n' c']) q)=>hid (w0t V (.agg #[.bool m,.slice a n c,.slice a' n' c']) q (s.extract p s.size) (by simp;omega) hV l1 l2)
 obtain⟨N,hN⟩:=gn (q.num.natAbs);obtain⟨D,hD⟩:=gn (q.den);have hx:∀ p,(s.extract p s.size).data.toList=s.data.toList.drop p:=fun p=>by
  rw[a0R];refine J7 ?_;rw[Ah];simp
 obtain⟨L,hL⟩:=gn (s.data.toList);have hlen:=hid (show L.length=s.size from by rw[<- hL];simp);simp only[hN,hD,hx,hL,o0Y]at RT;rw[hN,hD]at hlt;rw[hN,hD,hL];have HQ:=hid h;have HS:=hid hs;have HLT:=hid hlt;clear h l1 l2 hN hD hL hx hlt;have x0:=hid (Blk.new w #[.bool m,.slice a n c,.slice a' n' c'] 81);have b1:=hid ((Z3 w.heap.size w).alloc nr0 (.cells #[.bool m,.slice a n c,.slice a' n' c'] 81));go_enter Tryz.func141,Tryz.ntmps141;go_wp2_with fail
 go_loopw [7,8] (fun nn pp wr=>∃ n0 p:Nat,nn=.int .i64 n0/\pp=.int .i64 p/\n0<=p/\p<=s.size/\Hid (s1 N D L p n0=s1 N D L 0 0)/\Hid (Blk wr w.heap.size #[.bool m,.slice a n c,.slice a' n' c'] 81)/\Hid (Below w.heap.size w wr)) (fun nn pp wr=>s.size-(intOf pp).toNat)
 case atStart=>exact⟨0,0,rfl,rfl,J4 _,S4 _,rfl,x0,b1⟩
 case round=>
  obtain⟨n0,p,rfl,rfl,hnp,hp,hS,k0,hB⟩:=hrel;have RI:=fun V hV=>RT V p hV
  obtain⟨x,hx⟩:=gn (a0A N D L p);have HX:=hid hx;have hle:=b0g (N:=N) (D:=D) (l:=L) (p:=p) (by rw[hlen.out];exact hp);rw[hx,hlen.out]at hle;simp only[hx]at RI;obtain⟨d,vv,u⟩:=x;simp only[a1H]at RI;have iq:Hid (IsQ .i64 wr (.agg #[.bool m,.slice a n c,.slice a' n' c']) q):=HQ.out.keep2 hB.out;have HLE:=hid hle;simp only at hle;have d0:=k0.out.cell 0;have d1:=k0.out.cell 1;have d2:=k0.out.cell 2;simp at d0 d1 d2;clear hx;have h0:(0:Int)<=(p:Int):=by omega
  have h1:(p:Int)<=(s.size:Int):=by omega
  go_upto_region 3 with fail
  go_cut [9] (fun s9 wx=>∃ g:Nat,s9=.pointer (some ⟨g,0,none⟩)/\Blk wx g #[.bool d,.int .i64 (vv:Nat),.int .i64 (u:Nat)] 62/\Below wr.heap.size wr wx)
  case first=>
   have KK:Hid (∀ w',Below wr.heap.size wr w'->w'.cell? ⟨w.heap.size,0,none⟩=some (.bool m)/\w'.cell? ⟨w.heap.size,1,none⟩=some (.slice a n c)/\w'.cell? ⟨w.heap.size,2,none⟩=some (.slice a' n' c')):=fun w' hb=>by
    have y:=k0.out.call hb;exact⟨y.cell 0,y.cell 1,y.cell 2⟩
   refine a0m [0,1,2,3] 3 (fun w'=>w'.cell? ⟨w.heap.size,0,none⟩=some (.bool m)/\w'.cell? ⟨w.heap.size,1,none⟩=some (.slice a n c)/\w'.cell? ⟨w.heap.size,2,none⟩=some (.slice a' n' c')) (by kernel_rfl) (by kernel_rfl) (by kernel_rfl) (by kernel_rfl) (KK.out _ br0.drew) ?_
   iterate 4
    refine⟨_,rfl,?_⟩;apply Exists.intro
    refine⟨.inl ⟨by rfl,?_⟩,?_⟩
    .rintro W' ⟨q1,q2,q3⟩;go_simp;try with_reducible rfl
    go_frame
   refine c0D (i:=4) (j:=5) (by kernel_rfl) (by rfl) (by rfl) (by rfl) (by rfl) ?_ ?_
   .go_wp2_with fail;refine (RI _ (iq.out.call br0.drew)).out.mono ?_;rintro e w2 ⟨rfl,hb2⟩;have y2:=hid (show Below wr.heap.size wr w2 from br0.drew.trans hb2);clear hb2;go_wp2_with fail;refine⟨KK.out _ y2.out,?_⟩;refine a0c (i:=5) (by kernel_rfl) (by rfl) (by rfl) ?_;go_wp2_with fail;refine⟨KK.out _ (y2.out.alloc y2.out.size _),?_⟩;refine a0c (i:=6) (by kernel_rfl) (by rfl) (by rfl) ?_;go_wp2_with fail;refine⟨KK.out _ (y2.out.alloc y2.out.size _),?_⟩;refine H8 (by kernel_rfl) ?_ _;simp only[b0h];go_wp2_with fail
    go_meet
    exact⟨w2.heap.size,rfl,Blk.new w2 _ _,y2.out.alloc y2.out.size _⟩
   .go_wp2_with fail;have A0:=hid (show Below wr.heap.size wr (wr.alloc (.cells #[.bool false,.int .i64 0,.int .i64 0] 62)).drew from (br0.alloc nr0 _).drew);have b0:=hid (show Blk (wr.alloc (.cells #[.bool false,.int .i64 0,.int .i64 0] 62)).drew wr.heap.size #[.bool false,.int .i64 0,.int .i64 0] 62 from Blk.new wr _ _);refine⟨KK.out _ A0.out,?_⟩;refine a0c (i:=4) (by kernel_rfl) (by rfl) (by rfl) ?_;go_wp2_with fail;refine (RI _ (iq.out.call A0.out)).out.mono ?_;rintro e w2 ⟨rfl,hb2⟩;have y2:=hid (A0.out.trans (hb2.mono A0.out.size));have BK:=hid (b0.out.call hb2);have r0:=BK.out.cell 0;have r1:=BK.out.cell 1;have r2:=BK.out.cell 2;have f0:=BK.out.free 0;have f1:=BK.out.free 1;have f2:=BK.out.free 2;simp at r0 r1 r2;clear hb2 A0 b0;go_wp2_with fail;refine⟨KK.out _ y2.out,?_⟩;refine a0c (i:=6) (by kernel_rfl) (by rfl) (by rfl) ?_;go_wp2_with fail;refine⟨KK.out _ (((y2.out.setCell nr0 _).setCell nr0 _).setCell nr0 _),?_⟩;refine H8 (by kernel_rfl) ?_ _;simp only[b0h];have bk:=((BK.out.set 0 (.bool d)).set 1 (.int .i64 (vv:Nat))).set 2 (.int .i64 (u:Nat));simp at bk;have bkk:=hid bk;clear bk r0 r1 r2 f0 f1 f2;go_wp2_with fail
    go_meet
    exact⟨wr.heap.size,rfl,bkk.out,((y2.out.setCell nr0 _).setCell nr0 _).setCell nr0 _⟩
  case rest=>
   obtain⟨g,rfl,hg,hb⟩:=hcut;have B2:=hid (a0a hB.out hb);have k2:=hid (k0.out.call hb);have r0:=hg.cell 0;have r1:=hg.cell 1;have r2:=hg.cell 2;simp at r0 r1 r2;clear hg hb d0 d1 d2 RI RT iq;cases d
   .have E:=hid (w0n (N:=N) (D:=D) (l:=L) (p:=p) (n:=n0) (by rw[HX.out]));go_wp2_with fail;refine Z6 (v:=.tuple #[.int .i64 0,.int .i64 0,.bool false]) (by simp[results,Tryz.results141,go_sem]) rfl ⟨by rw[<- hS.out,E.out];rfl,B2.out⟩
   .have hv:=s0e N D L p;rw[HX.out]at hv;simp only at hv;have w1:IntKind.i64.wrap ((p:Int)+(u:Nat))=((p+u:Nat):Int):=by
     have:=HS.out;rw[Q0 _ ⟨by omega,by omega⟩];omega
    have w2:IntKind.i64.wrap ((n0:Int)+1)=((n0+1:Nat):Int):=by
     have:=HS.out;rw[Q0 _ ⟨by omega,by omega⟩];omega
    by_cases h0:vv=0
    .subst h0;have E:=hid (w0l (N:=N) (D:=D) (l:=L) (p:=p) (n:=n0) (by rw[HX.out]) (by rw[HX.out];simp));rw[HX.out]at E;go_wp2_with fail;refine Z6 (v:=.tuple #[.int .i64 (n0:Nat),.int .i64 ((p+u:Nat):Int),.bool true]) (by simp[results,Tryz.results141,go_sem]) rfl ⟨by rw[<- hS.out,E.out];rfl,B2.out⟩
    .obtain rfl:vv=1:=by omega
     have hge:=b0q (N:=N) (D:=D) (l:=L) (p:=p) HLT.out (by rw[HX.out]) (by rw[HX.out]);rw[HX.out]at hge;simp only at hge;have E:=hid (w0m (n:=n0) HLT.out (by rw[hlen.out];exact hp) (by rw[HX.out]) (by rw[HX.out]));rw[HX.out]at E;have E2:Hid (s1 N D L (p+u) (n0+1)=s1 N D L 0 0):=by rw[<- hS.out];exact E.out.symm
     go_wp2_with fail;go_roundw
     case rel=>exact⟨n0+1,p+u,rfl,rfl,by omega,hle,E2,k2,B2⟩
     case measure=>simp[intOf]<;>omega
open Go.Shelf
def t0l {a:ByteArray}(h:gPE a=0):bN (cW a)=(vQ a).num.natAbs/\bN (qD a)=(vQ a).den:=by
 obtain⟨h1,h2,-,-⟩:=f0W h;obtain⟨g1,g2,g3⟩:=i0e h1;have hm:iM (cW a)=false:=by
  rw[<- g1,D9];omega
 rw[b0O hm]at g2;exact⟨g2.symm,g3.symm⟩
def f0V {a:ByteArray}(h:gPE a=0):(limbs (vQ a).num.natAbs).length<=100000/\(limbs (vQ a).den).length<=100000:=(f0W h).2.2.2.limbs (L:=100000) (by omega) (by omega)
def o0e (w:World)(a b:ByteArray)(ha:a.size<=1000000)(hb:b.size<=1000000)(he:gE a b≠0):
 Calls Tryz.prog 86 #[.string a,.string b] w fun e w'=>e=.returned (.tuple #[.agg #[.bool false,.int .i64 0,.int .i64 0],.int .i64 (gE a b)])/\Below w.heap.size w w':=by
 have R0:=fun V=>hid (l0j V a b ha hb)
 obtain⟨x,hx⟩:=gn (gE a b);rw[hx]at R0 he |-;have q0:(x != 0)=true:=by simpa using he
 have x0:=hid (Blk.new w #[.bool false,.int .i64 0,.int .i64 0] 62);have b0:=hid ((Z3 w.heap.size w).alloc nr0 (.cells #[.bool false,.int .i64 0,.int .i64 0] 62));clear ha hb he hx;go_enter Tryz.func86,Tryz.ntmps86;go_wp2_with fail;refine (R0 _).out.mono ?_;rintro e w1 ⟨rfl,hb1⟩;have x1:=hid (x0.out.call hb1);have b1:=hid (a0a b0.out hb1);have d0:=x1.out.cell 0;have d1:=x1.out.cell 1;have d2:=x1.out.cell 2;have e0:=x1.out.free 0;have e1:=x1.out.free 1;have e2:=x1.out.free 2;simp at d0 d1 d2;clear hb1;go_wp2_with fail;refine Z6 (v:=.tuple #[.agg #[.bool false,.int .i64 0,.int .i64 0],.int .i64 x]) (by simp[results,Tryz.results86,go_sem,d0,d1,d2]) rfl ⟨rfl,?_⟩
 first | exact b1.out | exact ((b1.out.setCell nr0 _).setCell nr0 _).setCell nr0 _
def l0l (w:World)(a b:ByteArray)(ha:a.size<=100000)(hb:b.size<=100000)(he:gE a b=0)(hS:s1 (vQ a).num.natAbs (vQ a).den b.data.toList 0 0=none):
 Calls Tryz.prog 86 #[.string a,.string b] w fun e w'=>e=.returned (.tuple #[.agg #[.bool false,.int .i64 0,.int .i64 (b.size:Nat)],.int .i64 0])/\Below w.heap.size w w':=by
 have R0:=fun V=>hid (l0j V a b (by omega) (by omega))
 rw[he]at R0;have R1:=fun V=>hid (c0X V a (by omega))
 have hg:=(g0Y he).1;obtain⟨hq,hnum,hlt,hdig⟩:=f0W hg;have RS:=fun V v (hV:IsQ .i64 V v (vQ a))=>hid (j0W V v (vQ a) b (by omega) hV (f0V hg).1 (f0V hg).2 hlt)
 rw[hS]at RS;have HQ:=hid hq;have RS':∀ V v,IsQ .i64 V v (vQ a)->Hid (Calls Tryz.prog 141 #[v,.string b] V fun e w'=>e=.returned (.tuple #[.int .i64 0,.int .i64 0,.bool false])/\Below V.heap.size V w'):=RS;clear RS;have RS:=RS';clear RS' ha hb he hg hq hnum hlt hdig hS;have x0:=hid (Blk.new w #[.bool false,.int .i64 0,.int .i64 0] 62);have b0:=hid ((Z3 w.heap.size w).alloc nr0 (.cells #[.bool false,.int .i64 0,.int .i64 0] 62));go_enter Tryz.func86,Tryz.ntmps86;go_wp2_with fail;refine (R0 _).out.mono ?_;rintro e w1 ⟨rfl,hb1⟩;have x1:=hid (x0.out.call hb1);have b1:=hid (a0a b0.out hb1);clear hb1;go_wp2_with fail;refine (R1 _).out.mono ?_;rintro e w2 ⟨hr,hb2⟩;obtain⟨pm,pa,pn,pc,pa',pn',pc',rfl,h1,-⟩:=hr.open;have hqA:=h1 HQ.out;rw[HQ.out];have ba:=(Z3 w2.heap.size w2).alloc nr0 (.cells #[.bool pm,.slice pa pn pc,.slice pa' pn' pc'] 81);have x2:=hid ((x1.out.call hb2).call ba);have b2:=hid (a0a (a0a b1.out hb2) ba);have q2:=hid (hqA.call ba);have y2:=hid (Blk.new w2 #[.bool pm,.slice pa pn pc,.slice pa' pn' pc'] 81);have g0:=y2.out.cell 0;have g1:=y2.out.cell 1;have g2:=y2.out.cell 2;simp at g0 g1 g2;clear hr hb2 h1 hqA ba;go_wp2_with fail;refine (RS _ _ q2.out).out.mono ?_;rintro e w3 ⟨rfl,hb3⟩;have x3:=hid (x2.out.call hb3);have b3:=hid (a0a b2.out hb3);clear hb3 g0 g1 g2;have d0:=x3.out.cell 0;have d1:=x3.out.cell 1;have d2:=x3.out.cell 2;have e0:=x3.out.free 0;have e1:=x3.out.free 1;have e2:=x3.out.free 2;simp at d0 d1 d2;go_wp2_with fail;have s3:=((x3.out.set 0 (.bool false)).set 1 (.int .i64 0)).set 2 (.int .i64 (b.size:Nat));have f0:=s3.cell 0;have f1:=s3.cell 1;have f2:=s3.cell 2;simp at f0 f1 f2;refine Z6 (v:=.tuple #[.agg #[.bool false,.int .i64 0,.int .i64 (b.size:Nat)],.int .i64 0]) (by simp[results,Tryz.results86,go_sem,f0,f1,f2]) rfl ⟨rfl,?_⟩;exact ((b3.out.setCell nr0 _).setCell nr0 _).setCell nr0 _
def l0k (w:World)(a b:ByteArray)(n p:Nat)(ha:a.size<=100000)(hb:b.size<=100000)(he:gE a b=0)(hS:s1 (vQ a).num.natAbs (vQ a).den b.data.toList 0 0=some (n,p)):
 Calls Tryz.prog 86 #[.string a,.string b] w fun e w'=>e=.returned (.tuple #[.agg #[.bool true,.int .i64 (n:Nat),.int .i64 (p:Nat)],.int .i64 0])/\Below w.heap.size w w':=by
 have R0:=fun V=>hid (l0j V a b (by omega) (by omega))
 rw[he]at R0;have R1:=fun V=>hid (c0X V a (by omega))
 have hg:=(g0Y he).1;obtain⟨hq,hnum,hlt,hdig⟩:=f0W hg;have RS:=fun V v (hV:IsQ .i64 V v (vQ a))=>hid (j0W V v (vQ a) b (by omega) hV (f0V hg).1 (f0V hg).2 hlt)
 rw[hS]at RS;have HQ:=hid hq;have RS':∀ V v,IsQ .i64 V v (vQ a)->Hid (Calls Tryz.prog 141 #[v,.string b] V fun e w'=>e=.returned (.tuple #[.int .i64 (n:Nat),.int .i64 (p:Nat),.bool true])/\Below V.heap.size V w'):=RS;clear RS;have RS:=RS';clear RS' ha hb he hg hq hnum hlt hdig hS;have x0:=hid (Blk.new w #[.bool false,.int .i64 0,.int .i64 0] 62);have b0:=hid ((Z3 w.heap.size w).alloc nr0 (.cells #[.bool false,.int .i64 0,.int .i64 0] 62));go_enter Tryz.func86,Tryz.ntmps86;go_wp2_with fail;refine (R0 _).out.mono ?_;rintro e w1 ⟨rfl,hb1⟩;have x1:=hid (x0.out.call hb1);have b1:=hid (a0a b0.out hb1);clear hb1;go_wp2_with fail;refine (R1 _).out.mono ?_;rintro e w2 ⟨hr,hb2⟩;obtain⟨pm,pa,pn,pc,pa',pn',pc',rfl,h1,-⟩:=hr.open;have hqA:=h1 HQ.out;rw[HQ.out];have ba:=(Z3 w2.heap.size w2).alloc nr0 (.cells #[.bool pm,.slice pa pn pc,.slice pa' pn' pc'] 81);have x2:=hid ((x1.out.call hb2).call ba);have b2:=hid (a0a (a0a b1.out hb2) ba);have q2:=hid (hqA.call ba);have y2:=hid (Blk.new w2 #[.bool pm,.slice pa pn pc,.slice pa' pn' pc'] 81);have g0:=y2.out.cell 0;have g1:=y2.out.cell 1;have g2:=y2.out.cell 2;simp at g0 g1 g2;clear hr hb2 h1 hqA ba;go_wp2_with fail;refine (RS _ _ q2.out).out.mono ?_;rintro e w3 ⟨rfl,hb3⟩;have x3:=hid (x2.out.call hb3);have b3:=hid (a0a b2.out hb3);clear hb3 g0 g1 g2;have d0:=x3.out.cell 0;have d1:=x3.out.cell 1;have d2:=x3.out.cell 2;have e0:=x3.out.free 0;have e1:=x3.out.free 1;have e2:=x3.out.free 2;simp at d0 d1 d2;go_wp2_with fail;have s3:=((x3.out.set 0 (.bool true)).set 1 (.int .i64 (n:Nat))).set 2 (.int .i64 (p:Nat));have f0:=s3.cell 0;have f1:=s3.cell 1;have f2:=s3.cell 2;simp at f0 f1 f2;refine Z6 (v:=.tuple #[.agg #[.bool true,.int .i64 (n:Nat),.int .i64 (p:Nat)],.int .i64 0]) (by simp[results,Tryz.results86,go_sem,f0,f1,f2]) rfl ⟨rfl,?_⟩;exact ((b3.out.setCell nr0 _).setCell nr0 _).setCell nr0 _
def z0j (w:World)(a b:ByteArray)(ha:a.size<=100000)(hb:b.size<=100000):
 Calls Tryz.prog 86 #[.string a,.string b] w fun e w'=>e=.returned (.tuple #[d3 (oT a b),.int .i64 (gE a b)])/\Below w.heap.size w w':=by
 by_cases he:gE a b=0
 .obtain⟨e1,e2⟩:=t0l (g0Y he).1;have hl:b.data.toList.length=b.size:=a0D b;unfold oT;rw[J2 he,he,e1,e2];unfold y0D;cases hS:s1 (vQ a).num.natAbs (vQ a).den b.data.toList 0 0 with
  | none=>
   have h:=l0l w a b ha hb he hS;rw[<- hl]at h;exact h
  | some y=>
   obtain⟨n,p⟩:=y;exact l0k w a b n p ha hb he hS
 .unfold oT;rw[U0 he];exact o0e w a b (by omega) (by omega) he
end
end Go.Proofs.YtfkpfpobmobnbaaGreatDoor
