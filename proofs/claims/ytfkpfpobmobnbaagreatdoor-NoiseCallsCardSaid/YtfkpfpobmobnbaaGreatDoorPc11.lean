/- Texts that the proof rests on, merged: R2c, R2o, R4s, R4a, R4b, Lr1, Lr2, R2t, R2u, Rb4, Rg0, Rg2, Rg3, Nr1, Nd0, Sf0, R4c, R4d, Law, R6s. -/
import Derived.Test.YtfkpfpobmobnbaaGreatDoorPc10
import Derived.Deep.RegionHeld3
import Derived.Deep.DeepCutAuto
import Derived.IntWalk
set_option linter.defProp false
set_option linter.unusedVariables false
set_option linter.unusedSimpArgs false
set_option linter.unusedSectionVars false
set_option maxRecDepth 100000
set_option maxHeartbeats 8000000
namespace Go.Proofs.YtfkpfpobmobnbaaGreatDoor
section
open Go.RowKit
def m0J (w:World)(v u:Value)(p q:Rat)(hp:IsQ .i64 w v p)(hq:IsQ .i64 w u q)
 (h1:(limbs p.num.natAbs).length<=100000) (h2:(limbs p.den).length<=100000) (h3:(limbs q.num.natAbs).length<=100000) (h4:(limbs q.den).length<=100000):
 Calls Tryz.prog 72 #[v,u] w fun e w'=>j0C .i64 (p*q) e w'/\Below w.heap.size w w':=by
 have HQ:=hid (i0J p q);rw[<- HQ.out];have hD:=hid (Eb p.den_pos q.den_pos);obtain⟨N1,D1,rfl,hn1,hd1⟩:=hp.ex;obtain⟨N2,D2,rfl,hn2,hd2⟩:=hq.ex;clear hp hq HQ;generalize decide (p.num<0)=m1 at *
 generalize decide (q.num<0)=m2 at *
 generalize p.num.natAbs=n1 at *
 generalize q.num.natAbs=n2 at *
 generalize p.den=d1 at *
 generalize q.den=d2 at *
 obtain⟨HN1,HD1,HN2,HD2,L1,L2,H1,H2,H3,H4⟩:=kj hn1 hd1 hn2 hd2 (E0 (a0G h1 h3) (show 100000+100000<=1000000 by omega)) (E0 (a0G h2 h4) (show 100000+100000<=1000000 by omega)) (E0 h1 (show 100000<=1000000 by omega)) (E0 h2 (show 100000<=1000000 by omega)) (E0 h3 (show 100000<=1000000 by omega)) (E0 h4 (show 100000<=1000000 by omega));clear h1 h2 h3 h4;obtain⟨a1,c1,rfl,_⟩:=hn1.openI;obtain⟨a2,c2,rfl,_⟩:=hd1.openI;obtain⟨a3,c3,rfl,_⟩:=hn2.openI;obtain⟨a4,c4,rfl,_⟩:=hd2.openI;clear hn1 hd1 hn2 hd2;go_enter Tryz.func72,Tryz.ntmps72;go_wp2_with fail;obtain⟨W,hW⟩:=gn (((w.alloc (.cells #[.bool m1,.slice a1 (limbs n1).length c1,.slice a2 (limbs d1).length c2] 81)).alloc (.cells #[.bool m2,.slice a3 (limbs n2).length c3,.slice a4 (limbs d2).length c4] 81)).alloc (.cells #[.bool false,.slice none 0 0,.slice none 0 0] 81));rw[hW];have X0:Below w.heap.size w W:=by rw[<- hW];exact ((br0.alloc nr _).alloc (by simp) _).alloc (by simp;omega) _
 have Y0:Blk W w.heap.size #[.bool m1,.slice a1 (limbs n1).length c1,.slice a2 (limbs d1).length c2] 81:=by rw[<- hW];exact ((Blk.new w _ _).alloc _).alloc _
 have Y1:Blk W (w.heap.size+1) #[.bool m2,.slice a3 (limbs n2).length c3,.slice a4 (limbs d2).length c4] 81:=by rw[<- hW];exact (Blk.made (w.alloc _) _ _ (by simp)).alloc _
 have Y2:Blk W (w.heap.size+1+1) #[.bool false,.slice none 0 0,.slice none 0 0] 81:=by rw[<- hW];exact Blk.made ((w.alloc _).alloc _) _ _ (by simp)
 have K0:∀ w',Blk w' w.heap.size #[.bool m1,.slice a1 (limbs n1).length c1,.slice a2 (limbs d1).length c2] 81->Blk w' (w.heap.size+1) #[.bool m2,.slice a3 (limbs n2).length c3,.slice a4 (limbs d2).length c4] 81 ->
  w'.cell? ⟨w.heap.size,0,none⟩=some (.bool m1)/\w'.cell? ⟨w.heap.size,1,none⟩=some (.slice a1 (limbs n1).length c1)/\w'.cell? ⟨w.heap.size,2,none⟩=some (.slice a2 (limbs d1).length c2) /\
  w'.cell? ⟨w.heap.size+1,0,none⟩=some (.bool m2)/\w'.cell? ⟨w.heap.size+1,1,none⟩=some (.slice a3 (limbs n2).length c3)/\w'.cell? ⟨w.heap.size+1,2,none⟩=some (.slice a4 (limbs d2).length c4):=
  fun w' y0 y1=>⟨y0.cell 0,y0.cell 1,y0.cell 2,y1.cell 0,y1.cell 1,y1.cell 2⟩
 have K:Hid (∀ w',Below W.heap.size W w'->w'.cell? ⟨w.heap.size,0,none⟩=some (.bool m1)/\w'.cell? ⟨w.heap.size,1,none⟩=some (.slice a1 (limbs n1).length c1)/\w'.cell? ⟨w.heap.size,2,none⟩=some (.slice a2 (limbs d1).length c2) /\
  w'.cell? ⟨w.heap.size+1,0,none⟩=some (.bool m2)/\w'.cell? ⟨w.heap.size+1,1,none⟩=some (.slice a3 (limbs n2).length c3)/\w'.cell? ⟨w.heap.size+1,2,none⟩=some (.slice a4 (limbs d2).length c4)):=fun w' hb=>K0 w' (Y0.call hb) (Y1.call hb)
 have K2:Hid (∀ w1 x y z,Below W.heap.size W w1->∀ w',((w1.setCell ⟨w.heap.size+1+1,0,none⟩ x).setCell ⟨w.heap.size+1+1,1,none⟩ y).setCell ⟨w.heap.size+1+1,2,none⟩ z=w'->w'.cell? ⟨w.heap.size,0,none⟩=some (.bool m1)/\w'.cell? ⟨w.heap.size,1,none⟩=some (.slice a1 (limbs n1).length c1)/\w'.cell? ⟨w.heap.size,2,none⟩=some (.slice a2 (limbs d1).length c2) /\
  w'.cell? ⟨w.heap.size+1,0,none⟩=some (.bool m2)/\w'.cell? ⟨w.heap.size+1,1,none⟩=some (.slice a3 (limbs n2).length c3)/\w'.cell? ⟨w.heap.size+1,2,none⟩=some (.slice a4 (limbs d2).length c4)):=by
  rintro w1 x y z hb _ rfl;exact K0 _ ((((Y0.call hb).other (by simp;omega) _).other (by simp;omega) _).other (by simp;omega) _) ((((Y1.call hb).other (by simp) _).other (by simp) _).other (by simp) _)
 obtain⟨HY2,HX0⟩:=zg Y2 X0;obtain⟨k0,k1,k2,k3,k4,k5⟩:=K W br0;clear K0;clear Y0 Y1 Y2 X0 hW;obtain⟨XN1,XD1,XN2,XD2⟩:=zd (HN1.out.call HX0.out) (HD1.out.call HX0.out) (HN2.out.call HX0.out) (HD2.out.call HX0.out)
 go_region_held3 (fun w'=>w'.cell? ⟨w.heap.size,0,none⟩=some (.bool m1)/\w'.cell? ⟨w.heap.size,1,none⟩=some (.slice a1 (limbs n1).length c1)/\w'.cell? ⟨w.heap.size,2,none⟩=some (.slice a2 (limbs d1).length c2) /\
  w'.cell? ⟨w.heap.size+1,0,none⟩=some (.bool m2)/\w'.cell? ⟨w.heap.size+1,1,none⟩=some (.slice a3 (limbs n2).length c3)/\w'.cell? ⟨w.heap.size+1,2,none⟩=some (.slice a4 (limbs d2).length c4))
  (first
   | exact K.out _ br0.drew
   | exact K2.out _ _ _ _ B3.out _ rfl
   | exact K.out _ B3.out
   | exact K.out _ B2.out
   | exact K.out _ B1.out)
  (first
   | (go_at_call_of 176 (Value.slice a1 (limbs n1).length c1);refine (b0n _ _ _ n1 n2 (XN1.out.call (by first | exact B2.out | exact br0.drew)) (XN2.out.call (by first | exact B2.out | exact br0.drew)) H1.out H3.out).mono ?_;rintro e w1 ⟨⟨v1,rfl,hv1⟩,hb1⟩;have B1:=hid (a0a (by first | exact B2.out | exact br0.drew) hb1))
   | (go_at_call_of 176 (Value.slice a2 (limbs d1).length c2);refine (b0n _ _ _ d1 d2 (XD1.out.call (by first | exact B1.out | exact br0.drew)) (XD2.out.call (by first | exact B1.out | exact br0.drew)) H2.out H4.out).mono ?_;rintro e w2 ⟨⟨v2,rfl,hv2⟩,hb2⟩;have B2:=hid (a0a (by first | exact B1.out | exact br0.drew) hb2))
   | (go_at_call 175;refine (k0f _ _ _ _ (n1*n2) (d1*d2) (by first | exact hv1 | exact hv1.call hb2) (by first | exact hv2 | exact hv2.call hb1) hD.out L1.out L2.out).mono ?_;rintro e w3 ⟨⟨v3,rfl,hv3⟩,hb3⟩;obtain⟨N3,D3,rfl,hN3,hD3⟩:=hv3.ex;have B3:=hid (a0a (by first | exact B2.out | exact B1.out) hb3);obtain⟨a5,c5,rfl,_⟩:=hN3.openI;obtain⟨a6,c6,rfl,_⟩:=hD3.openI;have HN3:=hid hN3;have HD3:=hid hD3;have Z:=hid (HY2.out.call B3.out);have t0:=Z.out.cell 0;have t1:=Z.out.cell 1;have t2:=Z.out.cell 2;have t3:=Z.out.free 0;have t4:=Z.out.free 1;have t5:=Z.out.free 2;clear hv3 hN3 hD3))
 have hbn:(!(m1==m2))=(m1 != m2):=rfl;rw[hbn]at *;go_wp2_with fail;obtain⟨s1,s2⟩:=d0k Z.out (decide ((qmk (m1 != m2) (n1*n2) (d1*d2)).num<0)) a5 a6 (limbs (qmk (m1 != m2) (n1*n2) (d1*d2)).num.natAbs).length c5 (limbs (qmk (m1 != m2) (n1*n2) (d1*d2)).den).length c6;have f0:=s2.cell 0;have f1:=s2.cell 1;have f2:=s2.cell 2;simp at f0 f1 f2;refine J6 (v:=.agg #[.bool (decide ((qmk (m1 != m2) (n1*n2) (d1*d2)).num<0)),.slice a5 (limbs (qmk (m1 != m2) (n1*n2) (d1*d2)).num.natAbs).length c5,.slice a6 (limbs (qmk (m1 != m2) (n1*n2) (d1*d2)).den).length c6]) (by simp[results,Tryz.results72,go_sem,f0,f1,f2]) rfl ⟨⟨_,rfl,⟨_,_,rfl,s1 _ _ _ HN3.out,s1 _ _ _ HD3.out⟩⟩,?_⟩;exact (((HX0.out.trans (B3.out.mono (E0 nr HX0.out.size))).setCell (by simp;omega) _).setCell (by simp;omega) _).setCell (by simp;omega) _
open Go.Lib (decDigits nDigits)
def Qv (v:Value):Prop:=∃ (m:Bool) (a:Option Addr) (n c:Nat) (a':Option Addr) (n' c':Nat),v=.agg #[.bool m,.slice a n c,.slice a' n' c']
theorem IsQ.qv {k:IntKind}{w:World}{v:Value}{q:Rat}(h:IsQ k w v q):Qv v:=by
 obtain⟨N,D,rfl,h1,h2⟩:=h.ex;obtain⟨a1,c1,rfl,_⟩:=h1.openI;obtain⟨a2,c2,rfl,_⟩:=h2.openI;exact⟨_,_,_,_,_,_,_,rfl⟩
theorem RetQE.open {s:ByteArray}{e:Ending}{w':World}(h:RetQE s e w'):∃ (m:Bool) (a:Option Addr) (n c:Nat) (a':Option Addr) (n' c':Nat),e=.returned (.tuple #[.agg #[.bool m,.slice a n c,.slice a' n' c'],.int .i64 (qE s)])/\(qE s=0->IsQ .i64 w' (.agg #[.bool m,.slice a n c,.slice a' n' c']) (vQ s))/\(qE s≠0->m=false/\a=none/\n=0/\c=0/\a'=none/\n'=0/\c'=0):=by
 obtain⟨v,rfl,h1,h2⟩:=h;by_cases h0:qE s=0
 .obtain⟨m,a,n,c,a',n',c',rfl⟩:=(h1 h0).qv;exact⟨m,a,n,c,a',n',c',rfl,h1,fun h=>absurd h0 h⟩
 .obtain rfl:=h2 h0;exact⟨_,_,_,_,_,_,_,rfl,h1,fun _=>⟨rfl,rfl,rfl,rfl,rfl,rfl,rfl⟩⟩
theorem IsQ.keep {k:IntKind}{w w':World}{v:Value}{q:Rat}(h:IsQ k w v q)(f:∀ k v x,IsN k w v x->IsN k w' v x):IsQ k w' v q:=by
 obtain⟨N,D,rfl,h1,h2⟩:=h.ex;exact⟨N,D,rfl,f _ _ _ h1,f _ _ _ h2⟩
theorem IsN.drew {k:IntKind}{w:World}{v:Value}{n:Nat}(h:IsN k w v n):IsN k w.drew v n:=Row.drew h
def b1e (s t:ByteArray)(e:Ending)(w':World):Prop:=∃ (m:Bool) (a:Option Addr) (n c:Nat) (a':Option Addr) (n' c':Nat) (m2:Bool) (b:Option Addr) (j d:Nat) (b':Option Addr) (j' d':Nat),
 e=.returned (.tuple #[.agg #[.bool m,.slice a n c,.slice a' n' c'],.agg #[.bool m2,.slice b j d,.slice b' j' d'],.int .i64 (if qE s=0 then qE t else qE s)]) /\
 (qE s=0->qE t=0->IsQ .i64 w' (.agg #[.bool m,.slice a n c,.slice a' n' c']) (vQ s)/\IsQ .i64 w' (.agg #[.bool m2,.slice b j d,.slice b' j' d']) (vQ t))
def v0n (w:World)(s t:ByteArray)(hs:s.size<=1000000)(ht:t.size<=1000000):
 Calls Tryz.prog 148 #[.string s,.string t] w fun e w'=>b1e s t e w'/\Below w.heap.size w w':=by
 have R1:=fun V=>hid (c0I V s hs)
 have R2:=fun V=>hid (c0I V t ht)
 obtain⟨t1,u0,u1⟩:=zc ((J3 w.heap.size w).alloc nr (.cells #[.bool false,.slice none 0 0,.slice none 0 0] 81)) ((Blk.new w #[.bool false,.slice none 0 0,.slice none 0 0] 81).alloc (.cells #[.bool false,.slice none 0 0,.slice none 0 0] 81)) (Blk.made (w.alloc (.cells #[.bool false,.slice none 0 0,.slice none 0 0] 81)) #[.bool false,.slice none 0 0,.slice none 0 0] 81 (n:=w.heap.size+1) (by simp));have u2:=hid (t1.out.alloc (by simp) (.cells #[.bool false,.slice none 0 0,.slice none 0 0] 81));clear hs ht t1;go_enter Tryz.func148,Tryz.ntmps148;go_wp2_with fail;refine (R1 _).out.mono ?_;rintro e w1 ⟨hr1,hb1⟩;obtain⟨m,a,n,c,a',n',c',rfl,h1,h2⟩:=hr1.open;obtain⟨v0,v1,v2⟩:=zc (u0.out.call hb1) (u1.out.call hb1) (a0a u2.out hb1);have l1:=v1.out.lt;obtain⟨x,hx⟩:=gn (qE s);have HXX:=hid hx;by_cases h0:x=0
 .subst h0;rw[hx];have Q1:=hid (h1 hx);clear h1 h2 hr1 hb1 R1 hx;obtain⟨X7,b7⟩:=zg (Blk.new w1 #[.bool m,.slice a n c,.slice a' n' c'] 81) ((J3 w1.heap.size w1).alloc nr (.cells #[.bool m,.slice a n c,.slice a' n' c'] 81));obtain⟨x0,x1,x2,Q2⟩:=zd (v0.out.call b7.out) (v1.out.call b7.out) (a0a v2.out b7.out) (Q1.out.call b7.out);clear v0 v1 v2 Q1 b7;go_wp2_with fail;refine (R2 _).out.mono ?_;rintro e w2 ⟨hr2,hb2⟩;obtain⟨m2,b,j,d,b',j',d',rfl,k1,k2⟩:=hr2.open;obtain⟨y0,y1,y2,y7,Q3,K1⟩:=kx (x0.out.call hb2) (x1.out.call hb2) (a0a x2.out hb2) (X7.out.call hb2) (Q2.out.call hb2) k1;clear x0 x1 x2 X7 Q2 hb2 hr2 k1 k2 R2;have l2:=y7.out.lt;have n6:(w.heap.size=w2.heap.size)=False:=by simp;omega
  clear l1 l2;obtain⟨z,hz⟩:=gn (qE t);have HZ:=hid hz;rw[hz];clear hz;obtain⟨X9,b9⟩:=zg (Blk.new w2 #[.bool m2,.slice b j d,.slice b' j' d'] 81) ((J3 w2.heap.size w2).alloc nr (.cells #[.bool m2,.slice b j d,.slice b' j' d'] 81));obtain⟨z0,z1,z2,z7,Q4⟩:=zf (y0.out.call b9.out) (y1.out.call b9.out) (a0a y2.out b9.out) (y7.out.call b9.out) (Q3.out.call b9.out);have K2:=fun h=>hid ((K1.out h).call b9.out)
  clear y0 y1 y2 y7 Q3 b9 K1;have HH1:=z0.out.cell 0;have HH2:=z0.out.cell 1;have HH3:=z0.out.cell 2;have HH4:=z0.out.free 0;have HH5:=z0.out.free 1;have HH6:=z0.out.free 2;have KK1:=z1.out.cell 0;have KK2:=z1.out.cell 1;have KK3:=z1.out.cell 2;have KK4:=z1.out.free 0;have KK5:=z1.out.free 1;have KK6:=z1.out.free 2;have JJ1:=z7.out.cell 0;have JJ2:=z7.out.cell 1;have JJ3:=z7.out.cell 2;simp at HH1 HH2 HH3 KK1 KK2 KK3 JJ1 JJ2 JJ3;have II1:=X9.out.cell 0;have II2:=X9.out.cell 1;have II3:=X9.out.cell 2;simp at II1 II2 II3;go_wp2_with fail
  go_region
  obtain⟨p1,p2⟩:=d0k z0.out m a a' n c n' c';have r1:=((z1.out.other (a:=⟨w.heap.size,0,none⟩) (by simp) (.bool m)).other (a:=⟨w.heap.size,1,none⟩) (by simp) (.slice a n c)).other (a:=⟨w.heap.size,2,none⟩) (by simp) (.slice a' n' c');obtain⟨p3,p4⟩:=d0k r1 m2 b b' j d j' d';have p5:=((p2.other (a:=⟨w.heap.size+1,0,none⟩) (by simp) (.bool m2)).other (a:=⟨w.heap.size+1,1,none⟩) (by simp) (.slice b j d)).other (a:=⟨w.heap.size+1,2,none⟩) (by simp) (.slice b' j' d');have f0:=p5.drew.cell 0;have f1:=p5.drew.cell 1;have f2:=p5.drew.cell 2;have g0:=p4.drew.cell 0;have g1:=p4.drew.cell 1;have g2:=p4.drew.cell 2;simp at f0 f1 f2 g0 g1 g2;go_wp2_with fail;refine J6 (v:=.tuple #[.agg #[.bool m,.slice a n c,.slice a' n' c'],.agg #[.bool m2,.slice b j d,.slice b' j' d'],.int .i64 z]) (by simp[results,Tryz.results148,go_sem,f0,f1,f2,g0,g1,g2]) rfl ⟨⟨m,a,n,c,a',n',c',m2,b,j,d,b',j',d',by rw[U0 HXX.out,HZ.out],fun h1 h2=>⟨(Q4.out.keep fun k v x h=>(p3 _ _ _ (p1 _ _ _ h)).drew),((K2 h2).out.keep fun k v x h=>(p3 _ _ _ (p1 _ _ _ h)).drew)⟩⟩,?_⟩;exact ((((((z2.out.setCell nr _).setCell nr _).setCell nr _).setCell (Fs _) _).setCell (Fs _) _).setCell (Fs _) _).drew
 .rw[hx];have q0:(x != 0)=true:=by simpa using h0
  obtain⟨rfl,rfl,rfl,rfl,rfl,rfl,rfl⟩:=h2 (by rw[hx];exact h0);have H0:=hid h0;clear h1 h2 hr1 hb1 R1 R2 hx h0;obtain⟨X7,b7⟩:=zg (Blk.new w1 #[.bool false,.slice none 0 0,.slice none 0 0] 81) ((J3 w1.heap.size w1).alloc nr (.cells #[.bool false,.slice none 0 0,.slice none 0 0] 81));obtain⟨x0,x1,x2⟩:=zc (v0.out.call b7.out) (v1.out.call b7.out) (a0a v2.out b7.out);clear v0 v1 v2 b7;have HH1:=x0.out.cell 0;have HH2:=x0.out.cell 1;have HH3:=x0.out.cell 2;have HH4:=x0.out.free 0;have HH5:=x0.out.free 1;have HH6:=x0.out.free 2;have KK1:=x1.out.cell 0;have KK2:=x1.out.cell 1;have KK3:=x1.out.cell 2;have KK4:=x1.out.free 0;have KK5:=x1.out.free 1;have KK6:=x1.out.free 2;have JJ1:=X7.out.cell 0;have JJ2:=X7.out.cell 1;have JJ3:=X7.out.cell 2;simp at HH1 HH2 HH3 KK1 KK2 KK3 JJ1 JJ2 JJ3;go_wp2_with fail
  go_region
  obtain⟨p1,p2⟩:=d0k x0.out false none none 0 0 0 0;have r1:=((x1.out.other (a:=⟨w.heap.size,0,none⟩) (by simp) (.bool false)).other (a:=⟨w.heap.size,1,none⟩) (by simp) (.slice none 0 0)).other (a:=⟨w.heap.size,2,none⟩) (by simp) (.slice none 0 0);obtain⟨p3,p4⟩:=d0k r1 false none none 0 0 0 0;have p5:=((p2.other (a:=⟨w.heap.size+1,0,none⟩) (by simp) (.bool false)).other (a:=⟨w.heap.size+1,1,none⟩) (by simp) (.slice none 0 0)).other (a:=⟨w.heap.size+1,2,none⟩) (by simp) (.slice none 0 0);have f0:=p5.drew.cell 0;have f1:=p5.drew.cell 1;have f2:=p5.drew.cell 2;have g0:=p4.drew.cell 0;have g1:=p4.drew.cell 1;have g2:=p4.drew.cell 2;simp at f0 f1 f2 g0 g1 g2;go_wp2_with fail;refine J6 (v:=.tuple #[.agg #[.bool false,.slice none 0 0,.slice none 0 0],.agg #[.bool false,.slice none 0 0,.slice none 0 0],.int .i64 x]) (by simp[results,Tryz.results148,go_sem,f0,f1,f2,g0,g1,g2]) rfl ⟨⟨false,none,0,0,none,0,0,false,none,0,0,none,0,0,by rw[Q0 (by rw[HXX.out];exact H0.out),HXX.out],fun h1=>absurd (HXX.out.symm.trans h1) H0.out⟩,?_⟩;exact ((((((x2.out.setCell nr _).setCell nr _).setCell nr _).setCell (Fs _) _).setCell (Fs _) _).setCell (Fs _) _).drew
def a1N {q:Rat}{K:Nat}(h1:nDigits q.num.natAbs<=K)(h2:nDigits q.den<=K):Dig K q:=
 ⟨H6 (Dp _) (Z4 (by omega) h1),H6 (Dp _) (Z4 (by omega) h2)⟩
def c0x {q:Rat}(h:¬ ovQ q):Dig 4000 q:=by
 unfold ovQ at h;exact a1N (by omega) (by omega)
theorem Dig.limbs {K L:Nat}{q:Rat}(h:Dig K q)(h0:0<K)(hl:K<=9*L):(limbs q.num.natAbs).length<=L/\(limbs q.den).length<=L:=
 ⟨c0F (E0 (a0j h0 h.n) hl),c0F (E0 (a0j h0 h.d) hl)⟩
def c1o (F:Nat)(f:Rat->Rat->Rat):Prop:=∀ (w:World) (v u:Value) (p q:Rat),IsQ .i64 w v p->IsQ .i64 w u q->Dig 4000 p->Dig 4000 q ->
 Calls Tryz.prog F #[v,u] w fun e w'=>j0C .i64 (f p q) e w'/\Below w.heap.size w w'
def x0o:c1o 75 (· + ·):=fun w v u p q hp hq h1 h2=>by
 have l1:=h1.limbs (L:=100000) (by omega) (by omega);have l2:=h2.limbs (L:=100000) (by omega) (by omega);exact p0X w v u p q hp hq l1.1 l1.2 l2.1 l2.2
def t0L:c1o 72 (· * ·):=fun w v u p q hp hq h1 h2=>by
 have l1:=h1.limbs (L:=100000) (by omega) (by omega);have l2:=h2.limbs (L:=100000) (by omega) (by omega);exact m0J w v u p q hp hq l1.1 l1.2 l2.1 l2.2
def b1u (w:World)(s t:ByteArray)(f:Rat->Rat->Rat)(hs:s.size<=1000000)(ht:t.size<=1000000)(hl:Dig 4000 (vQ s)->Dig 4000 (vQ t)->(limbs (f (vQ s) (vQ t)).num.natAbs).length<=1000000/\(limbs (f (vQ s) (vQ t)).den).length<=1000000):
 ((Dig 4000 (vQ s)->Dig 4000 (vQ t)->∀ V v u,IsQ .i64 V v (vQ s)->IsQ .i64 V u (vQ t)->Calls Tryz.prog 72 #[v,u] V fun e w'=>j0C .i64 (f (vQ s) (vQ t)) e w'/\Below V.heap.size V w')->Calls Tryz.prog 54 #[.string s,.string t] w fun e w'=>e=.returned (.tuple #[.string (f0y f s t),.int .i64 (h0z f s t)])/\Below w.heap.size w w') /\
 ((Dig 4000 (vQ s)->Dig 4000 (vQ t)->∀ V v u,IsQ .i64 V v (vQ s)->IsQ .i64 V u (vQ t)->Calls Tryz.prog 75 #[v,u] V fun e w'=>j0C .i64 (f (vQ s) (vQ t)) e w'/\Below V.heap.size V w')->Calls Tryz.prog 110 #[.string s,.string t] w fun e w'=>e=.returned (.tuple #[.string (f0y f s t),.int .i64 (h0z f s t)])/\Below w.heap.size w w'):=by
 refine⟨fun hO=>?_,fun hO=>?_⟩
 all_goals
  have R1:=fun V=>hid (v0n V s t hs ht)
  clear hs ht;by_cases h0:qE s=0/\qE t=0
  .have eB:f0y f s t=c0u (f (vQ s) (vQ t)):=by rw[f0y,U0 h0]
   have eE:h0z f s t=c0J (f (vQ s) (vQ t)):=by rw[h0z,U0 h0.1,U0 h0.2]
   rw[eB,eE];have ds:=c0x (e0a h0.1);have dt:=c0x (e0a h0.2);have dl:=hid (hl ds dt);have HO:=fun V v u hp hq=>hid (hO ds dt V v u hp hq)
   have HW:=fun V v h=>hid (d0F V v (f (vQ s) (vQ t)) h dl.out.1 dl.out.2)
   obtain⟨oB,hB⟩:=gn (c0u (f (vQ s) (vQ t)));obtain⟨oE,hE⟩:=gn (c0J (f (vQ s) (vQ t)));rw[hB,hE]at HW;rw[hB,hE];have H0:=hid h0;clear eB eE ds dt dl hB hE h0 hl hO
   first
    | go_enter Tryz.func54,Tryz.ntmps54
    | go_enter Tryz.func110,Tryz.ntmps110
   go_wp2_with fail;refine (R1 _).out.mono ?_;rintro e w1 ⟨⟨m,a,n,c,a',n',c',m2,b,j,d,b',j',d',rfl,hq⟩,hb1⟩;obtain⟨q1,q2⟩:=hq H0.out.1 H0.out.2;rw[U0 H0.out.1,H0.out.2];have b0:=((J3 w1.heap.size w1).alloc nr (.cells #[.bool m,.slice a n c,.slice a' n' c'] 81)).alloc (by simp) (.cells #[.bool m2,.slice b j d,.slice b' j' d'] 81);have y2:=hid (a0a hb1 b0);have H1:=HO _ _ _ (q1.call b0) (q2.call b0);clear hb1 q1 q2 hq b0 HO R1;go_wp2_with fail;refine H1.out.mono ?_;rintro e w2 ⟨⟨v,rfl,hv⟩,hb2⟩;have y3:=hid (a0a y2.out hb2);have H2:=HW _ _ hv;obtain⟨m3,a3,n3,c3,a4,n4,c4,rfl⟩:=hv.qv;clear hv hb2 HW H1;go_wp2_with fail;refine H2.out.mono ?_;rintro e w3 ⟨rfl,hb3⟩;have y4:=hid (a0a y3.out hb3);clear hb3 H2;go_wp2_with fail;go_ret2
   exact⟨rfl,y4.out⟩
  .have n0:(if qE s=0 then qE t else qE s)≠0:=by
    split
    .rename_i h;exact fun e=>h0 ⟨h,e⟩
    .rename_i h;exact h
   have eB:f0y f s t=⟨#[]⟩:=by rw[f0y,Q0 h0]
   have eE:h0z f s t=if qE s=0 then qE t else qE s:=by
    rw[h0z]
    split
    .rename_i h;rw[Q0 (fun e=>h0 ⟨h,e⟩)]
    .rfl
   rw[eB,eE];obtain⟨x,hx⟩:=gn ((if qE s=0 then qE t else qE s));rw[hx]at n0 |-;have q0:(x != 0)=true:=by simpa using n0
   have HX:=hid hx;clear h0 n0 eB eE hx hl hO
   first
    | go_enter Tryz.func54,Tryz.ntmps54
    | go_enter Tryz.func110,Tryz.ntmps110
   go_wp2_with fail;refine (R1 _).out.mono ?_;rintro e w1 ⟨⟨m,a,n,c,a',n',c',m2,b,j,d,b',j',d',rfl,-⟩,hb1⟩;rw[HX.out];have y2:=hid ((hb1.alloc hb1.size (.cells #[.bool m,.slice a n c,.slice a' n' c'] 81)).alloc (E0 hb1.size (by simp)) (.cells #[.bool m2,.slice b j d,.slice b' j' d'] 81));clear hb1;go_wp2_with fail;go_ret2
   exact⟨rfl,y2.out⟩
def z0C (w:World)(s t:ByteArray)(hs:s.size<=1000000)(ht:t.size<=1000000):
 Calls Tryz.prog 54 #[.string s,.string t] w fun e w'=>e=.returned (.tuple #[.string (f0y (· * ·) s t),.int .i64 (h0z (· * ·) s t)])/\Below w.heap.size w w':=
 (b1u w s t (· * ·) hs ht fun ds dt=>(y0k ds dt).limbs (by omega) (by omega)).1 fun ds dt V v u hp hq=>t0L V v u _ _ hp hq ds dt
def t0y (w:World)(s:ByteArray)(hs:s.size<=1000000):Calls Tryz.prog 118 #[.string s] w fun e w'=>e=.returned (.int .i64 (qE s))/\Below w.heap.size w w':=by
 have R1:=fun V=>hid (c0I V s hs)
 clear hs;go_enter Tryz.func118,Tryz.ntmps118;go_wp2_with fail;refine (R1 _).out.mono ?_;rintro e w1 ⟨hr1,hb1⟩;obtain⟨m,a,n,c,a',n',c',rfl,h1,h2⟩:=hr1.open;obtain⟨x,hx⟩:=gn (qE s);have HX:=hid hx;rw[hx];have y2:=hid (hb1.alloc hb1.size (.cells #[.bool m,.slice a n c,.slice a' n' c'] 81));clear h1 h2 hr1 hb1 hx R1;go_wp2_with fail;go_ret
 exact⟨by rw[HX.out];rfl,y2.out⟩
theorem IsQ.parts {k:IntKind}{w:World}{m:Bool}{N D:Value}{q:Rat}(h:IsQ k w (.agg #[.bool m,N,D]) q):IsN k w N q.num.natAbs/\IsN k w D q.den:=by
 obtain⟨N',D',e,h1,h2⟩:=h.ex;simp at e;obtain⟨-,rfl,rfl⟩:=e;exact⟨h1,h2⟩
theorem IsQ.sign {k:IntKind}{w:World}{m:Bool}{N D:Value}{q:Rat}(h:IsQ k w (.agg #[.bool m,N,D]) q):m=decide (q.num<0):=by
 obtain⟨N',D',e,h1,h2⟩:=h.ex;simp at e;simpa using e.1
def shE (n d:Nat):Int:=if 1000<nDigits n\/1000<nDigits d then 5 else 0
def t0r (w:World)(s:ByteArray)(hs:s.size<=1000000)(hq:qE s=0):Calls Tryz.prog 138 #[.string s] w fun e w'=>e=.returned (.int .i64 (shE (vQ s).num.natAbs (vQ s).den))/\Below w.heap.size w w':=by
 have R1:=fun V=>hid (c0I V s hs)
 have dl:=hid ((c0x (e0a hq)).limbs (L:=1000000) (by omega) (by omega));obtain⟨n,hn⟩:=gn ((vQ s).num.natAbs);obtain⟨d,hd⟩:=gn ((vQ s).den);have HQ:=hid hq;rw[hn,hd]at dl;rw[hn,hd];obtain⟨HN,HD,sz,sz2⟩:=zd hn hd (a0t n) (a0t d);clear hs hn hd;obtain⟨B1,hB1⟩:=gn (a0g n);obtain⟨B2,hB2⟩:=gn (a0g d);rw[hB1]at sz;rw[hB2]at sz2;obtain⟨E1,E2⟩:=zg hB1 hB2;clear hB1 hB2 hq;have key:(1000<B1.size/\shE n d=5)\/(¬ 1000<B1.size/\1000<B2.size/\shE n d=5)\/(¬ 1000<B1.size/\¬ 1000<B2.size/\shE n d=0):=by
  rw[sz.out,sz2.out];unfold shE;by_cases h1:1000<nDigits n
  .exact .inl ⟨h1,U0 (.inl h1)⟩
  .by_cases h2:1000<nDigits d
   .exact .inr (.inl ⟨h1,h2,U0 (.inr h2)⟩)
   .exact .inr (.inr ⟨h1,h2,Q0 (fun h=>h.elim h1 h2)⟩)
 rcases key with ⟨k1,k2⟩ | ⟨k1,k2,k3⟩ | ⟨k1,k2,k3⟩
 .have q0:decide ((1000:Int)<(B1.size:Int))=true:=by simp;omega
  rw[k2];clear k1 k2;go_enter Tryz.func138,Tryz.ntmps138;go_wp2_with fail;refine (R1 _).out.mono ?_;rintro e w1 ⟨hr1,hb1⟩;obtain⟨m,a,k,c,a',k',c',rfl,h1,h2⟩:=hr1.open;have q:=h1 HQ.out;rw[HQ.out];obtain⟨hN,hD⟩:=q.parts;rw[HN.out]at hN;rw[HD.out]at hD;obtain⟨b2,X2⟩:=zg ((J3 w1.heap.size w1).alloc nr (.cells #[.bool m,.slice a k c,.slice a' k' c'] 81)) (Blk.new w1 #[.bool m,.slice a k c,.slice a' k' c'] 81);obtain⟨N2,D2,y2⟩:=zc (hN.call b2.out) (hD.call b2.out) (a0a hb1 b2.out);have g1:=X2.out.cell 1;have g2:=X2.out.cell 2;simp at g1 g2;clear h1 h2 hr1 hb1 q hN hD b2;clear g2 R1;go_wp2_with fail;refine (a0P _ _ _ N2.out dl.out.1).mono ?_;rintro e w3 ⟨rfl,hb3⟩;rw[b0o,E1.out];have y3:=hid (a0a y2.out hb3);clear hb3;go_wp2_with fail;go_ret
  exact⟨rfl,y3.out⟩
 focus
  have q0:decide ((1000:Int)<(B1.size:Int))=false:=by simp;omega
  have q1:decide ((1000:Int)<(B2.size:Int))=true:=by simp;omega
 rotate_left
 focus
  have q0:decide ((1000:Int)<(B1.size:Int))=false:=by simp;omega
  have q1:decide ((1000:Int)<(B2.size:Int))=false:=by simp;omega
 all_goals
  rw[k3];clear k1 k2 k3;go_enter Tryz.func138,Tryz.ntmps138;go_wp2_with fail;refine (R1 _).out.mono ?_;rintro e w1 ⟨hr1,hb1⟩;obtain⟨m,a,k,c,a',k',c',rfl,h1,h2⟩:=hr1.open;have q:=h1 HQ.out;rw[HQ.out];obtain⟨hN,hD⟩:=q.parts;rw[HN.out]at hN;rw[HD.out]at hD;obtain⟨b2,X2⟩:=zg ((J3 w1.heap.size w1).alloc nr (.cells #[.bool m,.slice a k c,.slice a' k' c'] 81)) (Blk.new w1 #[.bool m,.slice a k c,.slice a' k' c'] 81);obtain⟨N2,D2,y2⟩:=zc (hN.call b2.out) (hD.call b2.out) (a0a hb1 b2.out);have g1:=X2.out.cell 1;have g2:=X2.out.cell 2;simp at g1 g2;clear h1 h2 hr1 hb1 q hN hD b2;clear R1;go_wp2_with fail;refine (a0P _ _ _ N2.out dl.out.1).mono ?_;rintro e w3 ⟨rfl,hb3⟩;rw[b0o,E1.out];obtain⟨y3,D3⟩:=zg (a0a y2.out hb3) (D2.out.call hb3);have g3:=(X2.out.call hb3).cell 2;simp at g3;clear hb3 g1 g2;go_wp2_with fail;refine (a0P _ _ _ D3.out dl.out.2).mono ?_;rintro e w4 ⟨rfl,hb4⟩;rw[b0o,E2.out];have y4:=hid (a0a y3.out hb4);clear hb4;go_wp2_with fail;go_ret
  exact⟨rfl,y4.out⟩
def w0Q (w:World)(s:ByteArray)(hs:s.size<=9223372036854775807):Calls Tryz.prog 139 #[.string s] w fun e w'=>e=.returned (.int .i64 (c0t s))/\w=w':=by
 have R1:=fun V=>hid (m0G V s hs)
 unfold c0t;by_cases hb:n0D s=true
 .have e1:j0E s=0:=U0 hb;rw[e1]at R1;rw[U0 hb];by_cases hl:256<s.size
  .have q0:decide ((256:Int)<(s.size:Int))=true:=by simp;omega
   rw[U0 hl];clear hb e1 hl hs;go_enter Ky,Js;go_wp2_with fail;refine (R1 _).out.mono ?_;rintro e w1 ⟨rfl,rfl⟩;go_wp2_with fail;go_ret
   exact⟨rfl,rfl⟩
  .have q0:decide ((256:Int)<(s.size:Int))=false:=by simp;omega
   rw[Q0 hl];clear hb e1 hl hs;go_enter Ky,Js;go_wp2_with fail;refine (R1 _).out.mono ?_;rintro e w1 ⟨rfl,rfl⟩;go_wp2_with fail;go_ret
   exact⟨rfl,rfl⟩
 .have e1:j0E s=3:=Q0 hb;rw[e1]at R1;rw[Q0 hb];clear hb e1 hs;go_enter Ky,Js;go_wp2_with fail;refine zx (R1 _) ?_;go_wp2_with fail;go_ret
  exact⟨rfl,rfl⟩
def x0Z {s:ByteArray}(h:qE s=0):gPE s=if (vQ s).num<0 then 2 else if (vQ s).den<=(vQ s).num.natAbs then 2 else shE (vQ s).num.natAbs (vQ s).den:=by
 obtain⟨e1,e2,e3⟩:=i0t h;obtain⟨h1,h2,h3⟩:=i0L h;have hn:iM (cW s)=true↔(vQ s).num<0:=by rw[<- e1];simp
 have hW0:=d0e (c0p h1);have hD:=i0M h1;unfold gPE;rw[Q0 (by rw[h];simp)];by_cases hm:iM (cW s)=true
 .rw[U0 (.inl hm),U0 (hn.1 hm)]
 .have hm':iM (cW s)=false:=by simpa using hm
  rw[b0P hm']at hW0 e2;unfold qL at h2;rw[b0P hm']at h2;simp only[Ie,F9]at h2;have s1:(cW s).data.toList.length=(cW s).size:=Ay;have s2:(qD s).data.toList.length=(qD s).size:=Ay;have c1:k0N (cW s).data.toList (qD s).data.toList=b0e (vQ s).num.natAbs (vQ s).den:=by
   rw[k0N,U0 ⟨f0o (a0V.1 hW0) (by omega),f0o (a0V.1 hD) (by omega)⟩,e2,e3]
   rfl
  have z1:(cW s).size=nDigits (vQ s).num.natAbs:=by rw[e2,<- a0t,<- e0f hW0]
  have z2:(qD s).size=nDigits (vQ s).den:=by rw[e3,<- a0t,<- e0f hD]
  rw[c1,z1,z2,Q0 (show ¬ (vQ s).num<0 from fun h=>hm (hn.2 h))];have ho:0<=b0e (vQ s).num.natAbs (vQ s).den↔(vQ s).den<=(vQ s).num.natAbs:=by
   unfold b0e
   split
   .constructor<;>intro h<;>omega
   .split<;>constructor<;>intro h<;>omega
  unfold shE;by_cases hle:(vQ s).den<=(vQ s).num.natAbs
  .rw[U0 (.inr (ho.2 hle)),U0 hle]
  .rw[Q0 (fun h=>h.elim hm (fun h=>hle (ho.1 h))),Q0 hle]
def c0o (w:World)(s:ByteArray)(hs:s.size<=1000000):Calls Tryz.prog 46 #[.string s] w fun e w'=>e=.returned (.int .i64 (gPE s))/\Below w.heap.size w w':=by
 have R0:=fun V=>hid (t0y V s hs)
 have R1:=fun V=>hid (c0I V s hs)
 by_cases hq:qE s=0
 .have R2:=fun V=>hid (t0r V s hs hq)
  have hg:=x0Z hq;obtain⟨n,hn⟩:=gn ((vQ s).num.natAbs);obtain⟨d,hd⟩:=gn ((vQ s).den);have HQ:=hid hq;rw[hn,hd]at R2 hg;rw[hq]at R0;obtain⟨HN,HD⟩:=zg hn hd;clear hs hn hd hq;by_cases hm:(vQ s).num<0
  .rw[U0 hm]at hg;rw[hg];have HM:=hid (show decide ((vQ s).num<0)=true from by simpa using hm);clear hg hm R2;go_enter Tryz.func46,Tryz.ntmps46;go_wp2_with fail;refine (R0 _).out.mono ?_;rintro e w0 ⟨rfl,hb0⟩;have y0:=hid hb0;clear hb0;go_wp2_with fail;refine (R1 _).out.mono ?_;rintro e w1 ⟨hr1,hb1⟩;obtain⟨m,a,k,c,a',k',c',rfl,h1,h2⟩:=hr1.open;have q:=h1 HQ.out;rw[HQ.out];have MS:=hid q.sign;obtain⟨hN,hD⟩:=q.parts;rw[HN.out]at hN;rw[HD.out]at hD;obtain⟨b2,X2⟩:=zg ((J3 w1.heap.size w1).alloc nr (.cells #[.bool m,.slice a k c,.slice a' k' c'] 81)) (Blk.new w1 #[.bool m,.slice a k c,.slice a' k' c'] 81);obtain⟨N2,D2,y2⟩:=zc (hN.call b2.out) (hD.call b2.out) (a0a (a0a y0.out hb1) b2.out);have g0:=X2.out.cell 0;have g1:=X2.out.cell 1;have g2:=X2.out.cell 2;simp at g0 g1 g2;clear h1 h2 hr1 hb1 q hN hD b2;clear g1 g2;obtain rfl:m=true:=MS.out.trans HM.out;go_wp2_with fail;go_ret
   exact⟨rfl,y2.out⟩
  .rw[Q0 hm]at hg;have HM:=hid (show decide ((vQ s).num<0)=false from by simpa using hm);by_cases hle:d<=n
   .rw[U0 hle]at hg;rw[hg];have HO:Hid (decide (0<=b0e n d)=true):=by
     show decide (0<=b0e n d)=true
     rw[Gv];unfold b0e
     split
     .omega
     .split<;>omega
    clear hg hm R2 hle;go_enter Tryz.func46,Tryz.ntmps46;go_wp2_with fail;refine (R0 _).out.mono ?_;rintro e w0 ⟨rfl,hb0⟩;have y0:=hid hb0;clear hb0;go_wp2_with fail;refine (R1 _).out.mono ?_;rintro e w1 ⟨hr1,hb1⟩;obtain⟨m,a,k,c,a',k',c',rfl,h1,h2⟩:=hr1.open;have q:=h1 HQ.out;rw[HQ.out];have MS:=hid q.sign;obtain⟨hN,hD⟩:=q.parts;rw[HN.out]at hN;rw[HD.out]at hD;obtain⟨b2,X2⟩:=zg ((J3 w1.heap.size w1).alloc nr (.cells #[.bool m,.slice a k c,.slice a' k' c'] 81)) (Blk.new w1 #[.bool m,.slice a k c,.slice a' k' c'] 81);obtain⟨N2,D2,y2⟩:=zc (hN.call b2.out) (hD.call b2.out) (a0a (a0a y0.out hb1) b2.out);have g0:=X2.out.cell 0;have g1:=X2.out.cell 1;have g2:=X2.out.cell 2;simp at g0 g1 g2;clear h1 h2 hr1 hb1 q hN hD b2;obtain rfl:m=false:=MS.out.trans HM.out;go_wp2_with fail;refine (b0j _ _ _ _ _ N2.out D2.out).mono ?_;rintro e w3 ⟨rfl,hb3⟩;have y3:=hid (a0a y2.out hb3);clear hb3;obtain⟨t,ht⟩:=gn (b0e n d);have q1:=HO.out;rw[ht]at q1 |-;clear ht;go_wp2_with fail;go_ret
    exact⟨rfl,y3.out⟩
   .rw[Q0 hle]at hg;rw[hg];have HO:Hid (decide (0<=b0e n d)=false):=by
     show decide (0<=b0e n d)=false
     rw[F9];unfold b0e
     split
     .omega
     .omega
    clear hg hm hle;obtain⟨x,hx⟩:=gn (shE n d);rw[hx]at R2 |-;clear hx;go_enter Tryz.func46,Tryz.ntmps46;go_wp2_with fail;refine (R0 _).out.mono ?_;rintro e w0 ⟨rfl,hb0⟩;have y0:=hid hb0;clear hb0;go_wp2_with fail;refine (R1 _).out.mono ?_;rintro e w1 ⟨hr1,hb1⟩;obtain⟨m,a,k,c,a',k',c',rfl,h1,h2⟩:=hr1.open;have q:=h1 HQ.out;rw[HQ.out];have MS:=hid q.sign;obtain⟨hN,hD⟩:=q.parts;rw[HN.out]at hN;rw[HD.out]at hD;obtain⟨b2,X2⟩:=zg ((J3 w1.heap.size w1).alloc nr (.cells #[.bool m,.slice a k c,.slice a' k' c'] 81)) (Blk.new w1 #[.bool m,.slice a k c,.slice a' k' c'] 81);obtain⟨N2,D2,y2⟩:=zc (hN.call b2.out) (hD.call b2.out) (a0a (a0a y0.out hb1) b2.out);have g0:=X2.out.cell 0;have g1:=X2.out.cell 1;have g2:=X2.out.cell 2;simp at g0 g1 g2;clear h1 h2 hr1 hb1 q hN hD b2;obtain rfl:m=false:=MS.out.trans HM.out;go_wp2_with fail;refine (b0j _ _ _ _ _ N2.out D2.out).mono ?_;rintro e w3 ⟨rfl,hb3⟩;have y3:=hid (a0a y2.out hb3);clear hb3;obtain⟨t,ht⟩:=gn (b0e n d);have q1:=HO.out;rw[ht]at q1 |-;clear ht;go_wp2_with fail;refine (R2 _).out.mono ?_;rintro e w4 ⟨rfl,hb4⟩;have y4:=hid (a0a y3.out hb4);clear hb4;go_wp2_with fail;go_ret
    exact⟨rfl,y4.out⟩
 .have hg:gPE s=qE s:=U0 hq;rw[hg];obtain⟨x,hx⟩:=gn (qE s);rw[hx]at hq R0 |-;have q0:(x != 0)=true:=by simpa using hq
  clear hq hx hg hs R1;go_enter Tryz.func46,Tryz.ntmps46;go_wp2_with fail;refine (R0 _).out.mono ?_;rintro e w0 ⟨rfl,hb0⟩;have y0:=hid hb0;clear hb0;go_wp2_with fail;go_ret
  exact⟨rfl,y0.out⟩
def l0k (w:World)(a b:ByteArray)(ha:a.size<=1000000)(hb:b.size<=1000000):Calls Tryz.prog 140 #[.string a,.string b] w fun e w'=>e=.returned (.int .i64 (gE a b))/\Below w.heap.size w w':=by
 have R0:=fun V=>hid (c0o V a ha)
 have R1:=fun V=>hid (w0Q V b (by omega))
 unfold gE;obtain⟨x,hx⟩:=gn (gPE a);obtain⟨y,hy⟩:=gn (c0t b);rw[hx]at R0 |-;rw[hy]at R1 |-;clear hx hy ha hb;by_cases h0:x=0
 .subst h0;rw[Q0 (by simp)];go_enter Tryz.func140,Tryz.ntmps140;go_wp2_with fail;refine (R0 _).out.mono ?_;rintro e w0 ⟨rfl,hb0⟩;have y0:=hid hb0;clear hb0;go_wp2_with fail;refine zx (R1 _) ?_;go_wp2_with fail;go_ret
  exact⟨rfl,y0.out⟩
 .rw[U0 h0];have q0:(x != 0)=true:=by simpa using h0
  clear h0;go_enter Tryz.func140,Tryz.ntmps140;go_wp2_with fail;refine (R0 _).out.mono ?_;rintro e w0 ⟨rfl,hb0⟩;have y0:=hid hb0;clear hb0;go_wp2_with fail;go_ret
  exact⟨rfl,y0.out⟩
open Go.Shelf
def ttF (N D n k:Nat):Nat:=(b0L (a0C N D) (a0i N D) n (n+1)).2.getD k 0
def t2F (N D n i:Nat):Nat:=a0n (fun i=>ttF N D n i*cw (n-i) (f0E N D)) i
section
variable {N D : Nat} (h : N < D)
include h
theorem j0M {n m:Nat}(hm:m<=n):cvo (ttF N D n) pw2 m=cw m (f0E N D):=i0v h n hm
theorem w0n (n:Nat):t2F N D n (n+1)=cw n (d0x N D):=n0s h n
omit h in
theorem s0a (n:Nat)(P:List UInt8->Bool):cw n P<=2 ^ n:=by have:=k0L P n;omega
theorem z0r {n i:Nat}(hi:i<=n+1):t2F N D n i<=2 ^ n:=E0 (a0S hi) (by rw[show a0n (fun i=>ttF N D n i*cw (n-i) (f0E N D)) (n+1)=cw n (d0x N D) from n0s h n];exact s0a _ _)
theorem z0m {n i:Nat}(hi:i<=n):ttF N D n i<=2 ^ n:=E0 (j0o _ _) (by rw[j0M h hi];exact E0 (s0a _ _) (Z4 (by omega) hi))
end
def o0J (w:World)(a:ByteArray)(n:Nat)(two:Bool)(ha:a.size<=100000)(he:gPE a=0)(hn:n<=256)(h0:a≠⟨#[48]⟩):
 Calls Tryz.prog 147 #[.string a,.int .i64 (n:Nat),.bool two] w fun e w'=>e=.returned (.tuple #[.string (shB (gL (bN (cW a)) (bN (qD a)) two n) (2 ^ n)),.int .i64 0])/\Below w.heap.size w w':=by
 have HA:=hid (c0o w a (by omega));rw[he]at HA;obtain⟨hq,hm⟩:=i0D he;have HR:=fun V=>hid (i0G V a (by omega))
 rw[hq,b0P hm,hm]at HR;obtain⟨N,hN⟩:=gn (bN (cW a));obtain⟨D,hD⟩:=gn (bN (qD a));have hND:=(b0S he).2;have hpos:=g0K he h0;have hdg:∀ j,j<=n->nDigits (N*2 ^ j)<=4000:=fun j hj=>by rw[<- hN];exact k0d he (by omega)
 rw[hN]at HR hND hpos;rw[hD]at HR hND;rw[hN,hD];have HT:=fun V m v1 v2 k1 k2=>hid (o0K V m v1 v2 N D n (by omega) hpos hND k1 k2 hdg)
 obtain⟨HND,HN⟩:=zg hND hn;have n0:(decide ((n:Int)<0))=false:=by simp
 have n1:(decide ((256:Int)<(n:Int)))=false:=by simp;omega
 have ze:(a.toList == [48])=false:=by
  have e:a.toList=a.data.toList:=Kx a;rw[e,U4];exact fun e=>h0 (a0M e)
 clear ha he hq hm hN hD hND hpos hdg h0;go_enter Tryz.func147,Tryz.ntmps147;go_wp2_with fail;refine HA.out.mono ?_;rintro e w1 ⟨rfl,hb1⟩;have B1:=hid hb1;clear hb1 HA;go_wp2_with fail;refine (HR _).out.mono ?_;rintro e w2 ⟨⟨v,rfl,hv,-⟩,hb2⟩;obtain⟨vN,vD,rfl,hvN,hvD⟩:=hv rfl;obtain⟨aN,cN,rfl,-,-,-⟩:=hvN.openI;obtain⟨aD,cD,rfl,-,-,-⟩:=hvD.openI;have B2:=hid (a0a B1.out hb2);obtain⟨lN,hlN⟩:=gn ((limbs N).length);obtain⟨lD,hlD⟩:=gn ((limbs D).length);rw[hlN]at hvN |-;rw[hlD]at hvD |-;have C2:=hid ((J3 w2.heap.size w2).alloc nr (.cells #[.bool false,.slice aN lN cN,.slice aD lD cD] 81));obtain⟨VN,VD,B3⟩:=zc (hvN.call C2.out) (hvD.call C2.out) (a0a B2.out C2.out);clear hv hb2 hvN hvD hlN hlD HR;go_wp2_with fail;refine (HT _ _ _ _ VN.out VD.out).out.mono ?_;rintro e w3 ⟨⟨gl,cl,rfl,htl⟩,hb3⟩;have TL:Hid (NTab w.heap.size w3 gl (n+1) cl (ttF N D n)):=htl.mono B3.out.size;have B4:=hid (a0a B3.out hb3);have HDP:Hid (∀ i,i<=n->nDigits (cvo (ttF N D n) pw2 i)<=4000):=fun i hi=>by
  rw[j0M HND.out hi];exact a0b (s0a _ _) (by have:=HN.out;omega)
 clear htl hb3 HT VN VD;go_wp2_with fail;refine (k0F _ _ n (ttF N D n) (by have:=HN.out;omega) TL.out.row HDP.out).mono ?_;rintro e w4 ⟨⟨gd,cd,rfl,htd⟩,hb4⟩;obtain⟨TD,TL4,B5⟩:=zc (htd.mono B4.out.size) (TL.out.call hb4) (a0a B4.out hb4);clear htd hb4 TL;obtain⟨xd,cxd,hxd,-⟩:=TD.out.at (i:=n) (by omega);have XD:=hid hxd;have f0:(0:Int)<=(n:Int):=by omega
 have f1':(n:Int)<(n:Int)+1:=by omega
 have HTw:=fun V=>hid (m0E V n (by have:=HN.out;omega))
 have HSh:=fun V u x hu hx=>hid (m0F V u x n hu (by have:=HN.out;omega) hx)
 have LP:Hid ((limbs (2 ^ n)).length<=1000000):=a0w (a0b nr (by have:=HN.out;omega));have E256:Hid (∀ x,2 ^ n-x<=2 ^ 256):=fun x=>E0 (Ki _ _) (Z4 (by omega) HN.out)
 clear hxd hn;cases two
 .have ED:Hid (2 ^ n-cvo (ttF N D n) pw2 n=gL N D false n):=by
   show _=_
   rw[j0M HND.out (Z3 n),v0Q]
  have LE:Hid (cvo (ttF N D n) pw2 n<=2 ^ n):=by
   show _<=_
   rw[j0M HND.out (Z3 n)];exact s0a _ _
  go_wp2_with fail;refine (HTw _).out.mono ?_;rintro e w6 ⟨⟨vt,rfl,hvt⟩,hbt⟩;obtain⟨VT,XD6,B6⟩:=zc hvt (XD.out.call hbt) (a0a B5.out hbt);clear hvt hbt;go_wp2_with fail;refine (e0B _ _ _ _ _ VT.out XD6.out LE.out LP.out).mono ?_;rintro e w7 ⟨⟨vm,rfl,hvm⟩,hbm⟩;obtain⟨VM,B7⟩:=zg hvm (a0a B6.out hbm);clear hvm hbm;go_wp2_with fail;refine (HSh _ _ _ VM.out (E256.out _)).out.mono ?_;rintro e w8 ⟨rfl,hbs⟩;have B8:=hid (a0a B7.out hbs);clear hbs;go_wp2_with fail;rw[ED.out];go_ret2
  exact⟨rfl,B8.out⟩
 .have HR0:=fun V=>hid (g0J V)
  have ED:Hid (2 ^ n-t2F N D n (n+1)=gL N D true n):=by
   show _=_
   rw[w0n HND.out,r0G]
  have LE:Hid (∀ i,i<=n+1->t2F N D n i<=2 ^ n):=fun i hi=>z0r HND.out hi
  clear XD;go_wp2_with fail;clear cxd;refine (HR0 _).out.mono ?_;rintro e w6 ⟨⟨v0,rfl,hv0,-⟩,hb0⟩;have V0:Hid (IsN .i64 w6 v0 (t2F N D n 0)):=hv0;obtain⟨B6,TD6,TL6⟩:=zc (a0a B5.out hb0) (TD.out.call hb0) (TL4.out.call hb0);clear hv0 hb0 TD TL4 HR0;go_wp2_with fail
  go_loopw [13,14] (fun s13 s14 wr=>∃ i:Nat,s14=.int .i64 (i:Nat)/\i<=n+1/\Hid (IsN .i64 wr s13 (t2F N D n i))/\Hid (NTab w.heap.size wr gl (n+1) cl (ttF N D n))/\Hid (NTab w.heap.size wr gd (n+1) cd (cvo (ttF N D n) pw2))/\Hid (Below w.heap.size w wr)) (fun s13 s14 wr=>n+1-(intOf s14).toNat)
  case atStart=>exact⟨0,rfl,J5 _,V0,TL6,TD6,B6⟩
  case round=>
   clear V0 TL6 TD6 B6;obtain⟨i,rfl,hi,hV,hL,hT,hB⟩:=hrel;by_cases hlt:i<=n
   .have d0:decide (i<=n)=true:=by simp;omega
    have e0:(0:Int)<=(i:Int):=by omega
    have e1:(i:Int)<((n+1:Nat):Int):=by omega
    have e1':(i:Int)<(n:Int)+1:=by omega
    have e3':(n:Int)-(i:Int)<(n:Int)+1:=by omega
    have ws:IntKind.i64.wrap ((n:Int)-(i:Int))=(n:Int)-(i:Int):=by have:=HN.out;rw[O0 _ ⟨by omega,by omega⟩]
    have wi:IntKind.i64.wrap ((i:Int)+1)=((i+1:Nat):Int):=by have:=HN.out;rw[O0 _ ⟨by omega,by omega⟩];omega
    have et:((n:Int)-(i:Int)).toNat=n-i:=by omega
    have IL:=hid hlt;obtain⟨x,cx,hx,-⟩:=hL.out.at (i:=i) (by omega);obtain⟨y,cy,hy,-⟩:=hT.out.at (i:=n-i) (by omega);obtain⟨XN,YN⟩:=zg hx hy;have LX:Hid ((limbs (ttF N D n i)).length<=1000000):=a0w (a0b (z0m HND.out hlt) (by have:=HN.out;omega));have LY:Hid ((limbs (cvo (ttF N D n) pw2 (n-i))).length<=1000000):=a0w (HDP.out _ (by omega));have LS:Hid ((limbs (t2F N D n i)).length<=1000000):=a0w (a0b (LE.out i hi) (by have:=HN.out;omega));have ST:Hid (t2F N D n i+ttF N D n i*cvo (ttF N D n) pw2 (n-i)=t2F N D n (i+1)):=by
     show _=_
     rw[j0M HND.out (show n-i<=n by omega)];rfl
    have LM:Hid ((limbs (ttF N D n i*cvo (ttF N D n) pw2 (n-i))).length<=1000000):=a0w (a0b (E0 (by rw[<- ST.out];omega) (LE.out (i+1) (by omega))) (by have:=HN.out;omega));clear hx hy hi hlt;go_wp2_with fail;have e4:=IL.out;refine b0b 13 1 [0,1,2,3,4,5,6,7,8,9,10] 2 (fun W'=>W'.cell? ⟨gl,i,none⟩=some x/\W'.cell? ⟨gd,n-i,none⟩=some y) (by kernel_rfl) rfl (by kernel_rfl) (by kernel_rfl) (by kernel_rfl) (by kernel_rfl) ⟨cx,cy⟩ ?_
    iterate 11
     refine⟨_,rfl,?_⟩;apply Exists.intro
     refine⟨.inl ⟨by rfl,?_⟩,?_⟩
     .rintro W' ⟨r1,r2⟩;go_simp;try with_reducible rfl
     go_frame
    refine a0c (i:=11) (by kernel_rfl) rfl rfl ?_;go_wp2_with fail;refine (b0n _ _ _ _ _ (XN.out.call br0.drew) (YN.out.call br0.drew) LX.out LY.out).mono ?_;rintro e wa ⟨⟨vp,rfl,hvp⟩,hba⟩;obtain⟨A1,VP⟩:=zg (show Below wr.heap.size wr wa from br0.drew.trans hba) hvp;have m1:=(A1.out.cell (a0e cx)).trans cx;have m2:=(A1.out.cell (a0e cy)).trans cy;clear hba hvp cx cy e4;go_wp2_with fail;refine⟨⟨m1,m2⟩,?_⟩;refine a0c (i:=12) (by kernel_rfl) rfl rfl ?_;go_wp2_with fail;refine (d0a _ _ _ _ _ (hV.out.call A1.out) VP.out LS.out LM.out).mono ?_;rintro e wb ⟨⟨vs,rfl,hvs⟩,hbb⟩;obtain⟨A2,VS⟩:=zg (a0a A1.out hbb) (hvs.cast ST.out);have k1:=(hbb.cell (a0e m1)).trans m1;have k2:=(hbb.cell (a0e m2)).trans m2;clear hbb hvs m1 m2;go_wp2_with fail;refine⟨⟨k1,k2⟩,?_⟩;refine Z7 (by kernel_rfl) ?_ _;simp only[a0Z,b0K,Ab,A9];obtain⟨NL,ND,NB⟩:=zc (hL.out.call A2.out) (hT.out.call A2.out) (hB.out.trans (A2.out.mono hB.out.size));clear k1 k2;go_wp2_with fail
    try simp only[a0Z]
    go_roundw
    case rel=>exact⟨i+1,by go_num,by have:=IL.out;omega,VS,NL,ND,NB⟩
    case measure=>simp[intOf]<;>(have:=IL.out;omega)
   .have e1:i=n+1:=by omega
    subst e1;have d0:decide ((n:Int)+1<=(n:Int))=false:=by simp;omega
    clear hi hlt;go_wp2_with fail;refine (HTw _).out.mono ?_;rintro e w6 ⟨⟨vt,rfl,hvt⟩,hbt⟩;obtain⟨VT,XD6,B7⟩:=zc hvt (hV.out.call hbt) (a0a hB.out hbt);clear hvt hbt;go_wp2_with fail;refine (e0B _ _ _ _ _ VT.out XD6.out (LE.out _ nr) LP.out).mono ?_;rintro e w7 ⟨⟨vm,rfl,hvm⟩,hbm⟩;obtain⟨VM,B8⟩:=zg hvm (a0a B7.out hbm);clear hvm hbm;go_wp2_with fail;refine (HSh _ _ _ VM.out (E256.out _)).out.mono ?_;rintro e w8 ⟨rfl,hbs⟩;have B9:=hid (a0a B8.out hbs);clear hbs;go_wp2_with fail;rw[ED.out];go_ret2
    exact⟨rfl,B9.out⟩
def y0d (w:World)(a:ByteArray)(n:Int)(two:Bool)(ha:a.size<=100000):
 Calls Tryz.prog 147 #[.string a,.int .i64 n,.bool two] w fun e w'=>e=.returned (.tuple #[.string (glB a n two),.int .i64 (glE a n 256)])/\Below w.heap.size w w':=by
 have HA:=hid (c0o w a (by omega));by_cases he:gPE a=0
 focus
  by_cases hn:n<0\/256<n
  focus
   have e1:glE a n 256=2:=by unfold glE;rw[Q0 (by rw[he];simp),U0 hn]
   have e2:glB a n two=⟨#[]⟩:=by unfold glB;rw[Q0 (by rw[e1];decide)]
   rw[e1,e2];rw[he]at HA;obtain⟨b1,k1⟩:=gn (decide (n<0));obtain⟨b2,k2⟩:=gn (decide (256<n));have k3:(b1 || b2)=true:=by rw[<- k1,<- k2];simpa using hn
   clear ha he hn e1 e2;cases b1
   focus
    obtain rfl:b2=true:=by simpa using k3
    clear k3
   rotate_left
   focus
    clear k2 k3
  rotate_left 2
  focus
   obtain⟨m,rfl⟩:∃ m:Nat,n=(m:Nat):=⟨n.toNat,by omega⟩;have e1:glE a (m:Nat) 256=0:=by unfold glE;rw[Q0 (by rw[he];simp),Q0 hn]
   unfold glB;rw[U0 e1,e1];by_cases h0:a=⟨#[48]⟩
   focus
    obtain⟨q1,q2⟩:=h0R h0;rw[q1,q2,r0F (by omega),f0U];rw[he]at HA;have ze:(a.toList == [48])=true:=by rw[h0];exact c0q
    have n0:(decide ((m:Int)<0))=false:=by simp
    have n1:(decide ((256:Int)<(m:Int)))=false:=by simp;omega
    clear ha he hn e1 q1 q2 h0
   rotate_left
   .exact o0J w a m two ha he (by omega) h0
 rotate_left 3
 focus
  have e1:glE a n 256=gPE a:=by unfold glE;rw[U0 he]
  have e2:glB a n two=⟨#[]⟩:=by unfold glB;rw[Q0 (by rw[e1];exact he)]
  rw[e1,e2];obtain⟨x,hx⟩:=gn (gPE a);rw[hx]at HA he |-;have x0:(x != 0)=true:=by simpa using he
  clear ha he hx e1 e2
 all_goals
  go_enter Tryz.func147,Tryz.ntmps147;go_wp2_with fail;refine HA.out.mono ?_;rintro e w1 ⟨rfl,hb1⟩;have B1:=hid hb1;clear hb1 HA;go_wp2_with fail;go_ret2
  exact⟨rfl,B1.out⟩
def o0L (w:World)(a:ByteArray)(n:Int)(ha:a.size<=100000):
 Calls Tryz.prog 53 #[.string a,.int .i64 n] w fun e w'=>e=.returned (.tuple #[.string (glB a n true),.int .i64 (glE a n 256)])/\Below w.heap.size w w':=by
 have H:=hid (y0d w a n true ha);obtain⟨o,ho⟩:=gn (glB a n true);obtain⟨x,hx⟩:=gn (glE a n 256);rw[ho,hx]at H |-;clear ha ho hx;go_enter Tryz.func53,Tryz.ntmps53;go_wp2_with fail;refine H.out.mono ?_;rintro e w1 ⟨rfl,hb1⟩;have B1:=hid hb1;clear hb1;go_wp2_with fail;go_ret2
 exact⟨rfl,B1.out⟩
end
section
open Go.RowKit
open Go.Lib (decDigits nDigits)
def t0x (w:World)(v u:Value)(p q:Rat)(hp:IsQ .i64 w v p)(hq:IsQ .i64 w u q)(dp:Dig 4000 p)(dq:Dig 4000 q):
 Calls Tryz.prog 201 #[v,u] w fun e w'=>e=.returned (.int .i64 (m0Q p q))/\Below w.heap.size w w':=by
 have HO:=fun V v u hp hq=>hid (x0o V v u p (-q) hp hq dp (y0j dq))
 have HG:=fun V v h=>hid (g0N V v q h)
 obtain⟨HP,HQ⟩:=zg hp hq;obtain⟨m,a,n,c,a',n',c',rfl⟩:=hp.qv;obtain⟨m2,b,j,d,b',j',d',rfl⟩:=hq.qv;rw[show m0Q p q=s0J (p + -q) by rw[m0Q,Hm]];obtain⟨z,hz⟩:=gn (p + -q);simp only[hz]at HO;rw[hz];clear hp hq dp dq hz;go_enter Tryz.func201,Tryz.ntmps201
 go_upto_region 1 with fail
 obtain⟨W,hW⟩:=gn ((w.alloc (.cells #[.bool m,.slice a n c,.slice a' n' c'] 81)).alloc (.cells #[.bool m2,.slice b j d,.slice b' j' d'] 81));have Y0:Blk W w.heap.size #[.bool m,.slice a n c,.slice a' n' c'] 81:=by rw[<- hW];exact (Blk.new w _ _).alloc _
 have Y1:Blk W (w.heap.size+1) #[.bool m2,.slice b j d,.slice b' j' d'] 81:=by rw[<- hW];exact Blk.made _ _ _ (by simp)
 have y0:Below w.heap.size w W:=by rw[<- hW];exact (br0.alloc nr _).alloc (by simp) _
 rw[hW];have KK:Hid (∀ w',Below W.heap.size W w'->w'.cell? ⟨w.heap.size,0,none⟩=some (.bool m)/\w'.cell? ⟨w.heap.size,1,none⟩=some (.slice a n c)/\w'.cell? ⟨w.heap.size,2,none⟩=some (.slice a' n' c')/\w'.cell? ⟨w.heap.size+1,0,none⟩=some (.bool m2)/\w'.cell? ⟨w.heap.size+1,1,none⟩=some (.slice b j d)/\w'.cell? ⟨w.heap.size+1,2,none⟩=some (.slice b' j' d')):=fun w' hb=>
  ⟨(Y0.call hb).cell 0,(Y0.call hb).cell 1,(Y0.call hb).cell 2,(Y1.call hb).cell 0,(Y1.call hb).cell 1,(Y1.call hb).cell 2⟩
 obtain⟨Q1,Q2,HY⟩:=zc (HP.out.call y0) (HQ.out.call y0) y0;clear Y0 Y1 y0 hW
 go_cut [5] (fun s5 wx=>∃ (g:Nat) (a5:Option Addr) (n5 c5:Nat) (a6:Option Addr) (n6 c6:Nat),s5=.pointer (some ⟨g,0,none⟩)/\Hid (Blk wx g #[.bool (decide (z.num<0)),.slice a5 n5 c5,.slice a6 n6 c6] 81)/\Hid (n5=(limbs z.num.natAbs).length)/\Hid (Below W.heap.size W wx))
 case first=>
  refine a0k [0,1] 4 (fun w'=>w'.cell? ⟨w.heap.size,0,none⟩=some (.bool m)/\w'.cell? ⟨w.heap.size,1,none⟩=some (.slice a n c)/\w'.cell? ⟨w.heap.size,2,none⟩=some (.slice a' n' c')/\w'.cell? ⟨w.heap.size+1,0,none⟩=some (.bool m2)/\w'.cell? ⟨w.heap.size+1,1,none⟩=some (.slice b j d)/\w'.cell? ⟨w.heap.size+1,2,none⟩=some (.slice b' j' d')) (by kernel_rfl) (by kernel_rfl) (by kernel_rfl) (by kernel_rfl) (KK.out _ br0.drew) ?_
  iterate 2
   refine⟨_,rfl,?_⟩;apply Exists.intro
   refine⟨.inl ⟨by rfl,?_⟩,?_⟩
   .rintro W' ⟨q1,q2,q3,q4,q5,q6⟩;go_simp;try with_reducible rfl
   go_frame
  refine d0N (i:=2) (j:=4) (by kernel_rfl) (by rfl) (by rfl) (by rfl) (by rfl) ?_ ?_
  focus
   go_wp2_with fail;refine (HG _ _ (Q2.out.call br0.drew)).out.mono ?_;rintro e w3 ⟨⟨v3,rfl,hv3⟩,hb3⟩;obtain⟨x3,N3⟩:=zg (show Below W.heap.size W w3 from br0.drew.trans hb3) hv3;obtain⟨m5,a5,n5,c5,a6,n6,c6,rfl⟩:=hv3.qv;clear hb3 hv3;go_wp2_with fail;refine⟨KK.out _ x3.out,?_⟩;refine d0N (i:=3) (j:=4) (by kernel_rfl) (by rfl) (by rfl) (by rfl) (by rfl) ?_ ?_
   .go_wp2_with fail;refine (HO _ _ _ (Q1.out.call x3.out) N3.out).out.mono ?_;rintro e w4 ⟨⟨v4,rfl,hv4⟩,hb4⟩;have x4:=hid (a0a x3.out hb4);obtain⟨N,D,rfl,h1,h2⟩:=hv4.ex;obtain⟨a7,c7,rfl,-⟩:=h1.openI;obtain⟨a8,c8,rfl,-⟩:=h2.openI;clear hb4 hv4 h1 h2;go_wp2_with fail;refine⟨KK.out _ x4.out,?_⟩;refine a0c (i:=4) (by kernel_rfl) rfl rfl ?_;go_wp2_with fail;refine⟨KK.out _ (x4.out.alloc x4.out.size _),?_⟩;refine a0c (i:=5) (by kernel_rfl) rfl rfl ?_;go_wp2_with fail;refine⟨KK.out _ (x4.out.alloc x4.out.size _),?_⟩;refine Z7 (by kernel_rfl) ?_ _;simp only[a0Z];go_wp2_with fail
    go_meet
    exact⟨_,_,_,_,_,_,_,rfl,Blk.new w4 _ _,rfl,x4.out.alloc x4.out.size _⟩
   focus
    go_wp2_with fail;obtain⟨A3,b3,n3⟩:=zc (x3.out.alloc x3.out.size (.cells #[.bool false,.slice none 0 0,.slice none 0 0] 81)) (Blk.new w3 #[.bool false,.slice none 0 0,.slice none 0 0] 81) (N3.out.call (br0.alloc nr (.cells #[.bool false,.slice none 0 0,.slice none 0 0] 81)));refine⟨KK.out _ A3.out,?_⟩;refine a0c (i:=3) (by kernel_rfl) rfl rfl ?_;go_wp2_with fail;refine (HO _ _ _ (Q1.out.call A3.out) n3.out).out.mono ?_;rintro e w4 ⟨⟨v4,rfl,hv4⟩,hb4⟩;obtain⟨x4,b4⟩:=zg (a0a A3.out hb4) (b3.out.call hb4);obtain⟨N,D,rfl,h1,h2⟩:=hv4.ex;obtain⟨a7,c7,rfl,-⟩:=h1.openI;obtain⟨a8,c8,rfl,-⟩:=h2.openI;have t0:=b4.out.cell 0;have t1:=b4.out.cell 1;have t2:=b4.out.cell 2;have t3:=b4.out.free 0;have t4:=b4.out.free 1;have t5:=b4.out.free 2;simp at t0 t1 t2;have ge:=hid (show W.heap.size<=w3.heap.size from x3.out.size)
  rotate_left
  focus
   go_wp2_with fail;obtain⟨A0,b0⟩:=zg (show Below W.heap.size W (W.alloc (.cells #[.bool false,.slice none 0 0,.slice none 0 0] 81)).drew from (br0.alloc nr _).drew) (show Blk (W.alloc (.cells #[.bool false,.slice none 0 0,.slice none 0 0] 81)).drew W.heap.size #[.bool false,.slice none 0 0,.slice none 0 0] 81 from Blk.new W _ _);refine⟨KK.out _ A0.out,?_⟩;refine a0c (i:=2) (by kernel_rfl) rfl rfl ?_;go_wp2_with fail;refine (HG _ _ (Q2.out.call A0.out)).out.mono ?_;rintro e w3 ⟨⟨v3,rfl,hv3⟩,hb3⟩;obtain⟨x3,b3,N3⟩:=zc (A0.out.trans (hb3.mono A0.out.size)) (b0.out.call hb3) hv3;obtain⟨m5,a5,n5,c5,a6,n6,c6,rfl⟩:=hv3.qv;clear hb3 hv3;go_wp2_with fail;refine⟨KK.out _ x3.out,?_⟩;refine a0c (i:=3) (by kernel_rfl) rfl rfl ?_;go_wp2_with fail;refine (HO _ _ _ (Q1.out.call x3.out) N3.out).out.mono ?_;rintro e w4 ⟨⟨v4,rfl,hv4⟩,hb4⟩;obtain⟨x4,b4⟩:=zg (a0a x3.out hb4) (b3.out.call hb4);obtain⟨N,D,rfl,h1,h2⟩:=hv4.ex;obtain⟨a7,c7,rfl,-⟩:=h1.openI;obtain⟨a8,c8,rfl,-⟩:=h2.openI;have t0:=b4.out.cell 0;have t1:=b4.out.cell 1;have t2:=b4.out.cell 2;have t3:=b4.out.free 0;have t4:=b4.out.free 1;have t5:=b4.out.free 2;simp at t0 t1 t2;have ge:=hid (Z3 W.heap.size)
  all_goals
   obtain⟨k7,hk7⟩:=gn ((limbs z.num.natAbs).length);obtain⟨k8,hk8⟩:=gn ((limbs z.den).length);obtain⟨mz,hmz⟩:=gn (decide (z.num<0));rw[hk7,hk8,hmz];obtain⟨HK7,HMZ⟩:=zg hk7 hmz;clear hb4 hv4 h1 h2 hk7 hk8 hmz;go_wp2_with fail;refine⟨KK.out _ x4.out,?_⟩;refine a0c (i:=5) (by kernel_rfl) rfl rfl ?_;go_wp2_with fail;obtain⟨s1,s2⟩:=d0k b4.out mz a7 a8 k7 c7 k8 c8;obtain⟨x5,S2⟩:=zg (a0W (a0W (a0W x4.out (i:=0) ge.out (.bool mz)) (i:=1) ge.out (.slice a7 k7 c7)) (i:=2) ge.out (.slice a8 k8 c8)) s2;clear s1 s2 t0 t1 t2 t3 t4 t5;refine⟨KK.out _ x5.out,?_⟩;refine Z7 (by kernel_rfl) ?_ _;simp only[a0Z];go_wp2_with fail
   go_meet
   exact⟨_,_,_,_,_,_,_,rfl,by rw[HMZ.out];exact S2,HK7.out.symm,x5⟩
 case rest=>
  obtain⟨g,a5,n5,c5,a6,n6,c6,rfl,hB,hn,hW⟩:=hcut;have r0:=hB.out.cell 0;have r1:=hB.out.cell 1;simp at r0 r1;have yz:=hid (a0a HY.out hW.out);by_cases h1:z.num=0
  .have es:Hid (s0J z=0):=by show s0J z=0;rw[s0J,U0 h1]
   obtain rfl:n5=0:=by rw[hn.out,h1];exact f0i.2 rfl
   clear h1;go_wp2_with fail;go_ret
   exact⟨by rw[es.out];rfl,yz.out⟩
  .have h2:n5≠0:=fun e=>h1 (by rw[hn.out]at e;have:=f0i.1 e;omega)
   have q1:((n5:Int)==0)=false:=by simp;omega
   obtain⟨mm,hmm⟩:=gn (decide (z.num<0));have es:s0J z=if mm=true then -1 else 1:=by
    rw[s0J,Q0 h1,<- hmm];simp
   have ES:=hid es;rw[hmm]at r0;clear h1 h2 es hmm;cases mm
   all_goals
    go_wp2_with fail;go_ret
    exact⟨by rw[ES.out];rfl,yz.out⟩
def z0E (w:World)(s t:ByteArray)(hs:s.size<=1000000)(ht:t.size<=1000000):
 Calls Tryz.prog 119 #[.string s,.string t] w fun e w'=>e=.returned (.tuple #[.int .i64 (cmB s t),.int .i64 (cmE s t)])/\Below w.heap.size w w':=by
 have R1:=fun V=>hid (v0n V s t hs ht)
 clear hs ht;by_cases h0:qE s=0/\qE t=0
 .have eB:cmB s t=m0Q (vQ s) (vQ t):=by rw[cmB,U0 h0]
  have eE:cmE s t=0:=by rw[cmE,U0 h0.1,h0.2]
  rw[eB,eE];have ds:=c0x (e0a h0.1);have dt:=c0x (e0a h0.2);have HO:=fun V v u hp hq=>hid (t0x V v u (vQ s) (vQ t) hp hq ds dt)
  obtain⟨o,ho⟩:=gn (m0Q (vQ s) (vQ t));rw[ho]at HO |-;have H0:=hid h0;clear eB eE ds dt ho h0;go_enter Tryz.func119,Tryz.ntmps119;go_wp2_with fail;refine (R1 _).out.mono ?_;rintro e w1 ⟨⟨m,a,n,c,a',n',c',m2,b,j,d,b',j',d',rfl,hq⟩,hb1⟩;obtain⟨q1,q2⟩:=hq H0.out.1 H0.out.2;rw[U0 H0.out.1,H0.out.2];have b0:=((J3 w1.heap.size w1).alloc nr (.cells #[.bool m,.slice a n c,.slice a' n' c'] 81)).alloc (by simp) (.cells #[.bool m2,.slice b j d,.slice b' j' d'] 81);have y2:=hid (a0a hb1 b0);have H1:=HO _ _ _ (q1.call b0) (q2.call b0);clear hb1 q1 q2 hq b0 HO R1;go_wp2_with fail;refine H1.out.mono ?_;rintro e w2 ⟨rfl,hb2⟩;have y3:=hid (a0a y2.out hb2);clear hb2 H1;go_wp2_with fail;go_ret2
  exact⟨rfl,y3.out⟩
 .obtain⟨n0,-,-⟩:=x0p (f:=(· - ·)) h0;rw[cmB,Q0 h0,cmE];obtain⟨x,hx⟩:=gn ((if qE s=0 then qE t else qE s));rw[hx]at n0 |-;have q0:(x != 0)=true:=by simpa using n0
  have HX:=hid hx;clear h0 n0 hx;go_enter Tryz.func119,Tryz.ntmps119;go_wp2_with fail;refine (R1 _).out.mono ?_;rintro e w1 ⟨⟨m,a,n,c,a',n',c',m2,b,j,d,b',j',d',rfl,-⟩,hb1⟩;rw[HX.out];have y2:=hid ((hb1.alloc hb1.size (.cells #[.bool m,.slice a n c,.slice a' n' c'] 81)).alloc (E0 hb1.size (by simp)) (.cells #[.bool m2,.slice b j d,.slice b' j' d'] 81));clear hb1;go_wp2_with fail;go_ret2
  exact⟨rfl,y2.out⟩
def v0r {q:Rat}(h:0<=q.num)(n:Nat):(q ^ n).num.natAbs=q.num.natAbs ^ n/\(q ^ n).den=q.den ^ n/\decide ((q ^ n).num<0)=false:=by
 have h1:0<=q.num ^ n:=Int.pow_nonneg h;refine⟨by rw[Rat.num_pow,Int.natAbs_pow],Rat.den_pow q n,?_⟩;rw[Rat.num_pow];simpa using h1
def n0Z (w:World)(s:ByteArray)(n:Nat)(hs:s.size<=1000000)(hq:qE s=0)(h0:0<=(vQ s).num)(hn:n<=1000000000):
 Calls Tryz.prog 58 #[.string s,.int .i64 (n:Nat)] w fun e w'=>e=.returned (.tuple #[.string (c0u (vQ s ^ n)),.int .i64 (c0J (vQ s ^ n))])/\Below w.heap.size w w':=by
 have R1:=hid (c0I w s hs);obtain⟨p1,p2,p3⟩:=v0r h0 n;have fits:=e0a hq;have P1:=fun V v h=>hid (f0Z V v (vQ s).num.natAbs n h (by unfold ovQ at fits;omega) (by omega))
 have P2:=fun V v h=>hid (f0Z V v (vQ s).den n h (by unfold ovQ at fits;omega) (by omega))
 have PW:=fun V v h (h1:nDigits ((vQ s).num.natAbs ^ n)<=4000) (h2:nDigits ((vQ s).den ^ n)<=4000)=>hid (d0F V v (vQ s ^ n) h (by rw[p1];exact E0 (a0l h1) (by omega)) (by rw[p2];exact E0 (a0l h2) (by omega)))
 have OV:=hid (fun (h:4000<nDigits ((vQ s).num.natAbs ^ n)\/4000<nDigits ((vQ s).den ^ n))=>(show c0u (vQ s ^ n)=⟨#[]⟩/\c0J (vQ s ^ n)=5 from by
  have:ovQ (vQ s ^ n):=by unfold ovQ;rw[p1,p2];exact h
  exact⟨U0 this,U0 this⟩))
 have t1:decide ((n:Int)<0)=false:=by simp
 have t2:((n:Int) == -9223372036854775808)=false:=by rw[U4];omega
 have m0:decide ((vQ s).num<0)=false:=by simpa using h0
 obtain⟨HQ,HP1,HP2,HP3,HM0⟩:=zf hq p1 p2 p3 m0;clear hs hq p1 p2 p3 h0 m0 fits;go_enter Tryz.func58,Tryz.ntmps58;go_wp2_with fail;refine R1.out.mono ?_;rintro e w1 ⟨⟨v,rfl,hv,-⟩,hb1⟩;obtain⟨N,D,rfl,hN,hD⟩:=(hv HQ.out).ex;obtain⟨HN,HD⟩:=zg hN hD;obtain⟨a1,c1,rfl,-⟩:=hN.openI;obtain⟨a2,c2,rfl,-⟩:=hD.openI;rw[HM0.out,HQ.out];obtain⟨k1,hk1⟩:=gn ((limbs (vQ s).num.natAbs).length);obtain⟨k2,hk2⟩:=gn ((limbs (vQ s).den).length);rw[hk1]at HN |-;rw[hk2]at HD |-;obtain⟨y1,X1,A1⟩:=zc hb1 (Blk.new w1 #[.bool false,.slice a1 k1 c1,.slice a2 k2 c2] 81) ((J3 w1.heap.size w1).alloc nr (.cells #[.bool false,.slice a1 k1 c1,.slice a2 k2 c2] 81));clear hb1 hv hN hD hk1 hk2;go_wp2_with fail;refine (P1 _ _ (HN.out.call A1.out)).out.mono ?_;rintro e w2 ⟨h,hb2⟩;obtain⟨X2,y2,D2⟩:=zc (X1.out.call hb2) (a0a (a0a y1.out A1.out) hb2) ((HD.out.call A1.out).call hb2);have r2:=X2.out.cell 2;simp at r2;rcases h with ⟨d1,v3,rfl,hv3⟩ | ⟨d1,rfl⟩
 .obtain⟨N2,DD1⟩:=zg hv3 d1;obtain⟨a3,c3,rfl,-⟩:=hv3.openI;obtain⟨k3,hk3⟩:=gn ((limbs ((vQ s).num.natAbs ^ n)).length);rw[hk3]at N2 |-;clear hb2 hv3 d1 hk3;go_wp2_with fail;refine (P2 _ _ D2.out).out.mono ?_;rintro e w3 ⟨h,hb3⟩;obtain⟨y3,N3⟩:=zg (a0a y2.out hb3) (N2.out.call hb3);rcases h with ⟨d2,v4,rfl,hv4⟩ | ⟨d2,rfl⟩
  .obtain⟨D3,DD2⟩:=zg hv4 d2;obtain⟨a4,c4,rfl,-⟩:=hv4.openI;obtain⟨k4,hk4⟩:=gn ((limbs ((vQ s).den ^ n)).length);rw[hk4]at D3 |-;have iq:IsQ .i64 w3 (.agg #[.bool false,.slice a3 k3 c3,.slice a4 k4 c4]) (vQ s ^ n):=⟨.slice a3 k3 c3,.slice a4 k4 c4,by rw[HP3.out],by rw[HP1.out];exact N3.out,by rw[HP2.out];exact D3.out⟩;have IQ:=hid iq;clear hb3 hv4 d2 hk4 iq;go_wp2_with fail;refine (PW _ _ IQ.out DD1.out DD2.out).out.mono ?_;rintro e w4 ⟨rfl,hb4⟩;have y4:=hid (a0a y3.out hb4);clear hb4;go_wp2_with fail;go_ret2
   exact⟨rfl,y4.out⟩
  .obtain⟨o1,o2⟩:=OV.out (.inr d2);obtain⟨O1,O2⟩:=zg o1 o2;clear hb3 d2 o1 o2;go_wp2_with fail;go_ret2
   exact⟨by rw[O1.out,O2.out];rfl,y3.out⟩
 .obtain⟨o1,o2⟩:=OV.out (.inl d1);obtain⟨O1,O2⟩:=zg o1 o2;clear hb2 d1 o1 o2;go_wp2_with fail;refine (P2 _ _ D2.out).out.mono ?_;rintro e w3 ⟨h,hb3⟩;have y3:=hid (a0a y2.out hb3);rcases h with ⟨-,v4,rfl,hv4⟩ | ⟨-,rfl⟩
  all_goals
   try obtain⟨a4,c4,rfl,-⟩:=hv4.openI
   try clear hv4
   clear hb3;go_wp2_with fail;go_ret2
   exact⟨by rw[O1.out,O2.out];rfl,y3.out⟩
open Go.Shelf
def z0D (w:World)(s t:ByteArray)(hs:s.size<=1000000)(ht:t.size<=1000000):
 Calls Tryz.prog 56 #[.string s,.string t] w fun e w'=>e=.returned (.tuple #[.string (mnB s t),.int .i64 (cmE s t)])/\Below w.heap.size w w':=by
 have H:=hid (z0E w s t hs ht);unfold mnB;have h3:=k0O s t;obtain⟨B,hB⟩:=gn (cmB s t);obtain⟨E,hE⟩:=gn (cmE s t);rw[hB]at h3;rw[hB,hE]at H |-;clear hB hE hs ht;by_cases he:E=0
 .subst he;rcases h3 with rfl | rfl | rfl
  .go_enter Tryz.func56,Tryz.ntmps56;go_wp2_with fail;refine H.out.mono ?_;rintro e w3 ⟨rfl,hb3⟩;have y3:=hid hb3;clear hb3;go_wp2_with fail;go_ret2
   exact⟨rfl,y3.out⟩
  .go_enter Tryz.func56,Tryz.ntmps56;go_wp2_with fail;refine H.out.mono ?_;rintro e w3 ⟨rfl,hb3⟩;have y3:=hid hb3;clear hb3;go_wp2_with fail;go_ret2
   exact⟨rfl,y3.out⟩
  .go_enter Tryz.func56,Tryz.ntmps56;go_wp2_with fail;refine H.out.mono ?_;rintro e w3 ⟨rfl,hb3⟩;have y3:=hid hb3;clear hb3;go_wp2_with fail;go_ret2
   exact⟨rfl,y3.out⟩
 .rw[Q0 he];have q1:(E != 0)=true:=by simpa using he
  clear he h3;go_enter Tryz.func56,Tryz.ntmps56;go_wp2_with fail;refine H.out.mono ?_;rintro e w3 ⟨rfl,hb3⟩;have y3:=hid hb3;clear hb3;go_wp2_with fail;go_ret2
  exact⟨rfl,y3.out⟩
def g0O (w:World)(v:Value)(c:List Int)(hv:Row w v (zs c)):
 Calls Tryz.prog 45 #[v] w fun e w'=>e=.returned (.int .i64 (zE c))/\Below w.heap.size w w':=by
 obtain⟨s,cp,rfl,q1,q2,q3⟩:=hv.openZ;obtain⟨n,hn⟩:=gn (c.length);unfold zE;rw[hn]at q1 |-;by_cases h1:256<n
 .have t1:decide ((256:Int)<(n:Int))=true:=I8 (by omega);rw[U0 h1];clear hv q3 hn h1;go_enter Tryz.func45,Tryz.ntmps45;go_wp2_with fail;go_ret
  exact⟨rfl,J3 _ _⟩
 have t1:decide ((256:Int)<(n:Int))=false:=I7 (by omega);rw[Q0 h1];obtain⟨X,hX⟩:∃ X:Int,(if c.any e0Z=true then (2:Int) else 0)=X:=⟨_,rfl⟩;have HX1:Hid (c.any e0Z=true->X=2):=fun h=>by rw[<- hX,U0 h]
 have HX0:Hid ((∀ x∈c,e0Z x=false)->X=0):=fun h=>by
  rw[<- hX,Q0 (fun k=>by
   obtain⟨x,hx,hp⟩:=Gm.1 k;rw[h x hx]at hp;cases hp)]
 rw[hX];obtain⟨Q3,HN⟩:=zg q3 hn;clear hv q3 hn hX;go_enter Tryz.func45,Tryz.ntmps45;go_wp2_with fail
 go_loop [3] (fun ii=>∃ i:Nat,ii=.int .i64 i/\i<=n/\Hid (∀ j x,j<i->c[j]?=some x->e0Z x=false)) (fun ii=>n-(intOf ii).toNat)
 case atStart=>exact⟨0,rfl,J5 _,fun j x hj=>absurd hj (by omega)⟩
 case round=>
  obtain⟨i,rfl,hi,hI⟩:=hrel;by_cases hlt:i<n
  .obtain⟨x,hx⟩:∃ x,c[i]?=some x:=⟨_,J0 (by rw[HN.out];exact hlt)⟩;obtain⟨g,o,rfl,hg,hc⟩:=Q3.out i x hx;have HX:=hid hx;have b1:(0:Int)<=(i:Int):=by omega
   have b2:(i:Int)<(n:Int):=by omega
   have wi:IntKind.i64.wrap ((i:Int)+1)=((i+1:Nat):Int):=by rw[O0 _ ⟨by omega,by omega⟩];omega
   have hz:e0Z x=(decide (x < -1125899906842624) || decide (1125899906842624<x)):=rfl;obtain⟨p,hp⟩:=gn (decide (x < -1125899906842624));obtain⟨q,hq⟩:=gn (decide (1125899906842624<x));rw[hp,hq]at hz;have HZ:=hid hz;have HA:Hid (e0Z x=true->X=2):=fun h=>HX1.out (Gm.2 ⟨x,E7 hx,h⟩)
   clear hx hz;cases p
   .cases q
    .go_wp2_with fail;go_round
     case rel=>exact⟨i+1,by go_num,by omega,fun j y hj hy=>by
      rcases Cz j i with h | h
      .exact hI.out j y h hy
      .obtain rfl:j=i:=by omega
       rw[HX.out]at hy;cases hy;exact HZ.out⟩
     case measure=>simp[intOf]<;>omega
    .have HE:=hid (HA.out HZ.out);go_wp2_with fail;go_ret
     exact⟨by rw[HE.out];rfl,J3 _ _⟩
   .have HE:=hid (HA.out HZ.out);clear hq;go_wp2_with fail;go_ret
    exact⟨by rw[HE.out];rfl,J3 _ _⟩
  .obtain rfl:i=n:=by omega
   have HE:=hid (HX0.out (fun x hx=>by
    obtain⟨j,hj⟩:=Da hx;exact hI.out j x (by rw[<- HN.out];exact (O4.1 hj).1) hj))
   clear hlt;go_wp2_with fail;go_ret
   exact⟨by rw[HE.out];rfl,J3 _ _⟩
def l0o (w:World)(v:Value)(l:List ByteArray)(m:Int)(h:Row w v (e0p l))(hsz:∀ b∈l,b.size<=100000000):
 Calls Tryz.prog 47 #[v,.int .i64 m] w fun e w'=>e=.returned (.int .i64 (wdE l m))/\Below w.heap.size w w':=by
 obtain⟨a,c,rfl,h1,h2,h3⟩:=h.openS;obtain⟨n,hn⟩:=gn (l.length);unfold wdE;rw[hn]at h1 |-;by_cases hm:(n:Int)=m
 .rw[U0 hm];obtain⟨H3,HN,HSZ⟩:=zc h3 hn hsz;have q0:((n:Int)==m)=true:=by rw[Ei];exact hm
  obtain⟨X,hX⟩:∃ X:Int,bsE l=X:=⟨_,rfl⟩;have HX:=hid hX;rw[hX];subst hm;clear h h3 hn hX hsz q0;go_enter Tryz.func47,Tryz.ntmps47;go_wp2_with fail
  go_loop [5] (fun ii=>∃ i:Nat,ii=.int .i64 i/\i<=n/\Hid (∀ (j:Nat) (b:ByteArray),j<i->l[j]?=some b->c0t b=0)) (fun ii=>n-(intOf ii).toNat)
  case atStart=>exact⟨0,rfl,J5 _,fun j b hj=>absurd hj (by omega)⟩
  case round=>
   obtain⟨i,rfl,hi,hI⟩:=hrel;by_cases hlt:i<n
   .obtain⟨x,hx⟩:∃ x,l[i]?=some x:=⟨_,J0 (by rw[HN.out];exact hlt)⟩;obtain⟨g,o,rfl,hg,hc⟩:=H3.out i x hx;have b1:(0:Int)<=(i:Int):=by omega
    have b2:(i:Int)<(n:Int):=by omega
    have wi:IntKind.i64.wrap ((i:Int)+1)=(i:Int)+1:=by rw[O0 _ ⟨by omega,by omega⟩]
    have PN:=fun W=>hid (t0s W x (HSZ.out x (E7 hx)))
    have HXX:=hid hx;have hdrop:l.drop i=x::l.drop (i+1):=by
     have hil:i<l.length:=by rw[HN.out];exact hlt
     rw[J9 hil];have:=J0 hil;rw[hx]at this;rw[K9 this]
    have HD:=hid hdrop;obtain⟨y,hy⟩:=gn (c0t x);rw[hy]at PN;have HY:=hid hy;clear hx hdrop hy;by_cases hy0:y=0
    .subst hy0;go_wp2_with fail;refine (PN _).out.mono ?_;rintro e w1 ⟨rfl,rfl⟩;go_wp2_with fail;go_round
     case rel=>exact⟨i+1,rfl,by omega,fun j b hj hjb=>by
      by_cases e:j=i
      .subst e;rw[HXX.out]at hjb;cases hjb;exact HY.out
      .exact hI.out j b (by omega) hjb⟩
     case measure=>simp[intOf]<;>omega
    .have q3:(y==0)=false:=by rw[U4];exact hy0
     have HE:Hid (X=y):=by
      show X=y
      rw[<- HX.out,i0p hI.out,HD.out,bsE,HY.out,U0 hy0]
     clear hy0;go_wp2_with fail;refine zx (PN _) ?_;go_wp2_with fail;go_ret
     exact⟨by rw[HE.out];rfl,J3 _ _⟩
   .obtain rfl:i=n:=by omega
    have HE:Hid (X=0):=by
     show X=0
     have hd:l.drop i = []:=Gl (by rw[HN.out];exact Z3 _);rw[<- HX.out,i0p hI.out,hd];rfl
    go_wp2_with fail;go_ret
    exact⟨by rw[HE.out];rfl,J3 _ _⟩
 .rw[Q0 hm];have q0:((n:Int)==m)=false:=by rw[U4];exact hm
  clear h h3 hn hsz hm;go_enter Tryz.func47,Tryz.ntmps47;go_wp2_with fail;go_ret
  exact⟨rfl,J3 _ _⟩
def w0S (w:World)(s:ByteArray)(n:Nat)(hs:s.size<=1000000)(hq:qE s=0)(h0:0<(vQ s).num)(hn1:1<=n)(hn:n<=1000000000):
 Calls Tryz.prog 58 #[.string s,.int .i64 (-(n:Int))] w fun e w'=>e=.returned (.tuple #[.string (t0G n s),.int .i64 (t0F n s)])/\Below w.heap.size w w':=by
 have e1:t0G n s=c0u ((vQ s)⁻¹ ^ n):=U0 hq;have e2:t0F n s=c0J ((vQ s)⁻¹ ^ n):=U0 hq;rw[e1,e2];clear e1 e2;have R1:=hid (c0I w s hs);have hne:vQ s≠0:=fun e=>by rw[e]at h0;exact absurd h0 (by decide)
 obtain⟨i1,i2,i3⟩:=h0h hne;have fits:=e0a hq;have m0:decide ((vQ s).num<0)=false:=I7 (by omega);have g0:0<=((vQ s)⁻¹).num:=by rw[m0]at i1;simpa using i1
 have RO:=fun V v h=>hid (w0U V v (vQ s) h hne)
 have l0:(limbs (vQ s).num.natAbs).length≠0:=fun e=>by rw[f0i]at e;omega
 obtain⟨q,hqq⟩:=gn (vQ s);obtain⟨p,hp⟩:=gn ((vQ s)⁻¹);rw[hp]at RO i2 i3 g0 |-;rw[hp]at i1;obtain⟨p1,p2,p3⟩:=v0r g0 n;have P1:=fun V v h=>hid (f0Z V v p.num.natAbs n h (by rw[i2];unfold ovQ at fits;omega) (by omega))
 have P2:=fun V v h=>hid (f0Z V v p.den n h (by rw[i3];unfold ovQ at fits;omega) (by omega))
 have PW:=fun V v h (h1:nDigits (p.num.natAbs ^ n)<=4000) (h2:nDigits (p.den ^ n)<=4000)=>hid (d0F V v (p ^ n) h (by rw[p1];exact E0 (a0l h1) (by omega)) (by rw[p2];exact E0 (a0l h2) (by omega)))
 have OV:=hid (fun (h:4000<nDigits (p.num.natAbs ^ n)\/4000<nDigits (p.den ^ n))=>(show c0u (p ^ n)=⟨#[]⟩/\c0J (p ^ n)=5 from by
  have:ovQ (p ^ n):=by unfold ovQ;rw[p1,p2];exact h
  exact⟨U0 this,U0 this⟩))
 obtain⟨z,hz⟩:∃ z:Int,-(n:Int)=z:=⟨_,rfl⟩;have t1:decide (z<0)=true:=I8 (by omega);have t2:(z == -9223372036854775808)=false:=by rw[U4];omega
 have wz:IntKind.i64.wrap (-z)=(n:Int):=by rw[O0 _ ⟨by omega,by omega⟩];omega
 have m1:decide (p.num<0)=false:=I7 (by omega);rw[hz];obtain⟨HQ,HP1,HP2,HP3,HM0,HM1,L0⟩:=kq hq p1 p2 p3 m0 m1 l0;clear hs hq p1 p2 p3 h0 m0 fits hne i1 i2 i3 g0 l0 hp hqq hz m1 hn hn1;go_enter Tryz.func58,Tryz.ntmps58;go_wp2_with fail;refine R1.out.mono ?_;rintro e w1 ⟨⟨v,rfl,hv,-⟩,hb1⟩;have HV:=hid (hv HQ.out);obtain⟨N,D,rfl,hN,hD⟩:=(hv HQ.out).ex;obtain⟨a1,c1,rfl,-⟩:=hN.openI;obtain⟨a2,c2,rfl,-⟩:=hD.openI;rw[HM0.out]at HV;rw[HM0.out,HQ.out];have hl1:=L0.out;obtain⟨k1,hk1⟩:=gn ((limbs (vQ s).num.natAbs).length);obtain⟨k2,hk2⟩:=gn ((limbs (vQ s).den).length);rw[hk1]at hl1;rw[hk1,hk2]at HV;rw[hk1,hk2];have t3:((k1:Int)==0)=false:=by rw[U4];omega
 obtain⟨y1,X1,A1⟩:=zc hb1 (Blk.new w1 #[.bool false,.slice a1 k1 c1,.slice a2 k2 c2] 81) ((J3 w1.heap.size w1).alloc nr (.cells #[.bool false,.slice a1 k1 c1,.slice a2 k2 c2] 81));have HV1:=hid (HV.out.call A1.out);have f0:=X1.out.cell 0;have f1:=X1.out.cell 1;have f2:=X1.out.cell 2;simp at f0 f1 f2;clear hb1 hv hN hD hk1 hk2 hl1;go_wp2_with fail;refine (RO _ _ HV1.out).out.mono ?_;rintro e w2 ⟨⟨v2,rfl,hv2⟩,hb2⟩;obtain⟨N2,D2,rfl,hN2,hD2⟩:=hv2.ex;obtain⟨a3,c3,rfl,-⟩:=hN2.openI;obtain⟨a4,c4,rfl,-⟩:=hD2.openI;rw[HM1.out];obtain⟨k3,hk3⟩:=gn ((limbs p.num.natAbs).length);obtain⟨k4,hk4⟩:=gn ((limbs p.den).length);rw[hk3]at hN2 |-;rw[hk4]at hD2 |-;obtain⟨X2,y2⟩:=zg (X1.out.call hb2) (a0a (a0a y1.out A1.out) hb2);clear f0 f1 f2;have d0:=X2.out.cell 0;have d1:=X2.out.cell 1;have d2:=X2.out.cell 2;have e0:=X2.out.free 0;have e1:=X2.out.free 1;have e2:=X2.out.free 2;simp at d0 d1 d2;obtain⟨s1,s2⟩:=d0k X2.out false a3 a4 k3 c3 k4 c4;have g0:=s2.cell 0;have g1:=s2.cell 1;have g2:=s2.cell 2;simp at g0 g1 g2;obtain⟨HN,HD,X3⟩:=zc (s1 _ _ _ hN2) (s1 _ _ _ hD2) s2;clear hb2 hv2 hN2 hD2 hk3 hk4 s1 s2;have Y3:=hid (((y2.out.setCell (p:=⟨w1.heap.size,0,none⟩) y1.out.size (.bool false)).setCell (p:=⟨w1.heap.size,1,none⟩) y1.out.size (.slice a3 k3 c3)).setCell (p:=⟨w1.heap.size,2,none⟩) y1.out.size (.slice a4 k4 c4));go_wp2_with fail;obtain⟨gx,hgx⟩:=gn (w1.heap.size);rw[hgx]at X3 HN HD Y3 |-;obtain⟨w3,hw3⟩:=gn (((w2.setCell ⟨gx,0,none⟩ (.bool false)).setCell ⟨gx,1,none⟩ (.slice a3 k3 c3)).setCell ⟨gx,2,none⟩ (.slice a4 k4 c4));rw[hw3]at X3 HN HD Y3 |-;clear d0 d1 d2 e0 e1 e2 g0 g1 g2 hw3 hgx;refine (P1 _ _ HN.out).out.mono ?_;rintro e w4 ⟨h,hb4⟩;obtain⟨X4,y4,D4⟩:=zc (X3.out.call hb4) (a0a Y3.out hb4) (HD.out.call hb4);have r2:=X4.out.cell 2;simp at r2;rcases h with ⟨d1,v3,rfl,hv3⟩ | ⟨d1,rfl⟩
 .obtain⟨N4,DD1⟩:=zg hv3 d1;obtain⟨a5,c5,rfl,-⟩:=hv3.openI;obtain⟨k5,hk5⟩:=gn ((limbs (p.num.natAbs ^ n)).length);rw[hk5]at N4 |-;clear hb4 hv3 d1 hk5;go_wp2_with fail;refine (P2 _ _ D4.out).out.mono ?_;rintro e w5 ⟨h,hb5⟩;obtain⟨y5,N5⟩:=zg (a0a y4.out hb5) (N4.out.call hb5);rcases h with ⟨d2,v4,rfl,hv4⟩ | ⟨d2,rfl⟩
  .obtain⟨D5,DD2⟩:=zg hv4 d2;obtain⟨a6,c6,rfl,-⟩:=hv4.openI;obtain⟨k6,hk6⟩:=gn ((limbs (p.den ^ n)).length);rw[hk6]at D5 |-;have iq:IsQ .i64 w5 (.agg #[.bool false,.slice a5 k5 c5,.slice a6 k6 c6]) (p ^ n):=⟨.slice a5 k5 c5,.slice a6 k6 c6,by rw[HP3.out],by rw[HP1.out];exact N5.out,by rw[HP2.out];exact D5.out⟩;have IQ:=hid iq;clear hb5 hv4 d2 hk6 iq;go_wp2_with fail;refine (PW _ _ IQ.out DD1.out DD2.out).out.mono ?_;rintro e w6 ⟨rfl,hb6⟩;have y6:=hid (a0a y5.out hb6);clear hb6;go_wp2_with fail;go_ret2
   exact⟨rfl,y6.out⟩
  .obtain⟨o1,o2⟩:=OV.out (.inr d2);obtain⟨O1,O2⟩:=zg o1 o2;clear hb5 d2 o1 o2;go_wp2_with fail;go_ret2
   exact⟨by rw[O1.out,O2.out];rfl,y5.out⟩
 .obtain⟨o1,o2⟩:=OV.out (.inl d1);obtain⟨O1,O2⟩:=zg o1 o2;clear hb4 d1 o1 o2;go_wp2_with fail;refine (P2 _ _ D4.out).out.mono ?_;rintro e w5 ⟨h,hb5⟩;have y5:=hid (a0a y4.out hb5);rcases h with ⟨-,v4,rfl,hv4⟩ | ⟨-,rfl⟩
  all_goals
   try obtain⟨a6,c6,rfl,-⟩:=hv4.openI
   try clear hv4
   clear hb5;go_wp2_with fail;go_ret2
   exact⟨by rw[O1.out,O2.out];rfl,y5.out⟩
def Ni:=@Rat.pow_zero
def w0T (w:World)(s:ByteArray)(n:Nat)(z:Int)(hs:s.size<=1000000)(hq:qE s=0)(h0:0<(vQ s).num)(hn:n<=1000000000)(hz:z = -(n:Int)):
 Calls Tryz.prog 58 #[.string s,.int .i64 z] w fun e w'=>e=.returned (.tuple #[.string (t0G n s),.int .i64 (t0F n s)])/\Below w.heap.size w w':=by
 subst hz;by_cases h:n=0
 .subst h;have e1:t0G 0 s=c0u (vQ s ^ 0):=by
   unfold t0G z0S;rw[U0 hq];show c0u ((vQ s)⁻¹ ^ 0)=_
   rw[Ni,Ni]
  have e2:t0F 0 s=c0J (vQ s ^ 0):=by
   unfold t0F z0R;rw[U0 hq];show c0J ((vQ s)⁻¹ ^ 0)=_
   rw[Ni,Ni]
  rw[e1,e2];exact n0Z w s 0 hs hq (by omega) (by omega)
 .exact w0S w s n hs hq h0 (by omega) hn
def m0L (w:World)(N m:Nat)(h1:1<=N)(h2:N<=1000)(h3:m<=1000):
 Calls Tryz.prog 69 #[.int .i64 (N:Nat),.int .i64 (m:Nat)] w fun e w'=>e=.returned (.bool (decide (5000<N ^ m)))/\w=w':=by
 obtain⟨X,hX⟩:=gn (decide (5000<N ^ m));obtain⟨HX,H1,H2,H3⟩:=zd hX h1 h2 h3;rw[hX];clear hX h1 h2 h3;go_enter Tryz.func69,Tryz.ntmps69;go_wp2_with fail
 go_loop [1,5] (fun mm kk=>∃ i k r:Nat,mm=.int .i64 (r:Nat)/\kk=.int .i64 (k:Nat)/\i+r=m/\k<=5000/\Hid (k=N ^ i)) (fun mm kk=>(intOf mm).toNat)
 case atStart=>exact⟨0,1,m,rfl,rfl,by omega,by omega,(Db N).symm⟩
 case round=>
  obtain⟨i,k,r,rfl,rfl,hi,hk,hK⟩:=hrel;have h2:=H2.out;have h3:=H3.out;by_cases hlt:0<r
  .obtain⟨q,hq⟩:=gn (k*N);have hq5:q<=5000000:=by rw[<- hq];exact E0 (Aw hk h2) (by omega)
   have wq:IntKind.i64.wrap ((k:Int)*(N:Int))=(q:Int):=by
    rw[<- Dl,hq,O0 _ ⟨by omega,by omega⟩]
   have wi:IntKind.i64.wrap ((r:Int)-1)=((r-1:Nat):Int):=by rw[O0 _ ⟨by omega,by omega⟩];omega
   have b2:(0:Int)<(r:Int):=by omega
   have HQ:Hid (q=N ^ (i+1)):=by show q=_;rw[M7,<- hK.out,hq]
   have hle:N ^ (i+1)<=N ^ m:=Z4 H1.out (by omega);obtain⟨HLE,HLT,HIR⟩:=zc hle hlt hi;obtain⟨r',hr'⟩:=gn (r-1);rw[hr']at wi;have HR':=hid hr';clear hq hle hlt hi hk hK h2 h3 hr';by_cases hb:5000<q
   .have HE:Hid (X=true):=by show X=true;rw[<- HX.out];exact I8 (by have:=HQ.out;have:=HLE.out;omega)
    have t1:(5000:Int)<(q:Int):=by omega
    clear hb hq5;go_wp2_with fail;go_ret
    exact⟨by rw[HE.out];rfl,rfl⟩
   .have t1:¬ (5000:Int)<(q:Int):=by omega
    have HB:=hid hb;by_cases hn:N=1
    .have HE:Hid (X=false):=by show X=false;rw[<- HX.out,hn,Nat.one_pow];rfl
     have t2:((N:Int)==1)=true:=by rw[Ei];omega
     clear hb hq5 hn;go_wp2_with fail;go_ret
     exact⟨by rw[HE.out];rfl,rfl⟩
    .have t2:((N:Int)==1)=false:=by rw[U4];omega
     clear hb hq5 hn;go_wp2_with fail;go_round
     case rel=>exact⟨i+1,q,r',rfl,rfl,by have:=HLT.out;have:=HIR.out;have:=HR'.out;omega,by have:=HB.out;omega,HQ⟩
     case measure=>simp[intOf]<;>(have:=HLT.out;have:=HR'.out;omega)
  .obtain rfl:r=0:=by omega
   obtain rfl:i=m:=by omega
   have HE:Hid (X=false):=by show X=false;rw[<- HX.out];exact I7 (by rw[<- hK.out];omega)
   clear hlt hi hk hK h2 h3;go_wp2_with fail;go_ret
   exact⟨by rw[HE.out];rfl,rfl⟩
def t0z (w:World)(a:ByteArray)(n many:Int)(ha:a.size<=100000):
 Calls Tryz.prog 12 #[.string a,.int .i64 n,.int .i64 many] w fun e w'=>e=.returned (.tuple #[.string (ntB a n many),.int .i64 (ntE a n many)])/\Below w.heap.size w w':=by
 have HO:=hid (o0L w a n ha);unfold ntB ntE;by_cases h0:ntX a n many=0
 .rw[Q0 (by rw[h0];simp),Q0 (by rw[h0];simp)];have h0':=h0;unfold ntX at h0'
  split at h0'
  .rename_i h1;exact absurd h0' h1
  rename_i h1
  have h1:glE a n 256=0:=J8 h1
  split at h0'
  .cases h0'
  rename_i h2
  rw[h1]at HO;obtain⟨m,rfl⟩:∃ m:Nat,many=(m:Nat):=⟨many.toNat,by omega⟩;have HI:=fun V=>hid (k0h V m (by omega))
  have HT:=fun V=>hid (z0C V (glB a n true) (a0g m) (E0 (n0g _ _ _) (by omega)) (by rw[a0t];have:=a0j (n:=m) (k:=3) (by omega) (by omega);omega))
  have HM:=fun V=>hid (z0D V (f0y (· * ·) (glB a n true) (a0g m)) ⟨#[49]⟩ (E0 (r0H _ _ _) (by omega)) (by show 1<=1000000;omega))
  unfold ntT;rw[An];obtain⟨G,hG⟩:=gn (glB a n true);obtain⟨I,hI⟩:=gn (a0g m);rw[hG]at HO HT HM |-;rw[hI]at HI HT HM |-;obtain⟨T,hT⟩:=gn (f0y (· * ·) G I);obtain⟨TE,hTE⟩:=gn (h0z (· * ·) G I);rw[hT]at HT HM |-;rw[hTE]at HT;obtain⟨B,hB⟩:=gn (mnB T ⟨#[49]⟩);obtain⟨E,hE⟩:=gn (cmE T ⟨#[49]⟩);rw[hB,hE]at HM |-;obtain⟨M,hMM⟩:∃ M:Int,((m:Nat):Int)=M:=⟨_,rfl⟩;rw[hMM]at h2 HI |-;have t3:decide (M<0)=false:=I7 (by omega);have t4:decide (256<M)=false:=I7 (by omega);clear ha h0 h0' h1 h2 hG hI hT hTE hB hE hMM;go_enter Tryz.func12,Tryz.ntmps12;go_wp2_with fail;refine HO.out.mono ?_;rintro e w2 ⟨rfl,hb2⟩;have y2:=hid hb2;clear hb2;go_wp2_with fail;refine zx (HI _) ?_;go_wp2_with fail;refine (HT _).out.mono ?_;rintro e w4 ⟨rfl,hb4⟩;have y4:=hid (a0a y2.out hb4);clear hb4;go_wp2_with fail;refine (HM _).out.mono ?_;rintro e w5 ⟨rfl,hb5⟩;have y5:=hid (a0a y4.out hb5);clear hb5;go_wp2_with fail;go_ret2
  exact⟨rfl,y5.out⟩
 .rw[U0 h0,U0 h0];unfold ntX at h0 |-;obtain⟨z,hz⟩:=gn (glE a n 256);obtain⟨G,hG⟩:=gn (glB a n true);rw[hz,hG]at HO;rw[hz]at h0 |-;by_cases c0:z=0
  case' neg=>
   rw[U0 c0];have t0:(z==0)=false:=by rw[U4];exact c0
   clear hz hG h0 c0 ha
  rotate_left
  subst c0;rw[Q0 (by simp)]at h0 |-;by_cases c1:many<0\/256<many
  focus
   rw[U0 c1];obtain⟨p1,h1⟩:=gn (decide (many<0));obtain⟨p2,h2⟩:=gn (decide (256<many));have hpq:(p1 || p2)=true:=by rw[<- h1,<- h2];simpa using c1
   clear hz hG h0 c1 ha;cases p1
   case' true=>
    clear hpq h2
   rotate_left
   obtain rfl:p2=true:=by simpa using hpq
   clear hpq
  rotate_left 2
  .rw[Q0 c1]at h0;exact absurd rfl h0
  all_goals
   go_enter Tryz.func12,Tryz.ntmps12;go_wp2_with fail;refine HO.out.mono ?_;rintro e w0 ⟨rfl,hb0⟩;go_wp2_with fail;go_ret2
   exact⟨rfl,hb0⟩
def o0c (w:World)(a:ByteArray)(reach:Int)(ha:a.size<=100000):
 Calls Tryz.prog 14 #[.string a,.int .i64 reach] w fun e w'=>e=.returned (.tuple #[.string (ffB a reach true),.int .i64 (ffE a reach true)])/\Below w.heap.size w w':=by
 have HR:=hid (c0o w a (by omega));unfold ffB ffE;by_cases h0:ffX a reach=0
 .rw[Q0 (by rw[h0];simp),Q0 (by rw[h0];simp)];have h0':=h0;unfold ffX at h0'
  split at h0'
  .rename_i h1;exact absurd h0' h1
  rename_i h1
  have h1:p0f a=0:=J8 h1
  split at h0'
  .cases h0'
  rename_i h2
  obtain⟨g1,g2⟩:=h0g h1;rw[g1]at HR;obtain⟨hq,hnum⟩:=r0l h1;obtain⟨r,rfl⟩:∃ r:Nat,reach=(r:Nat):=⟨reach.toNat,by omega⟩;have HP:=fun V=>hid (w0T V a (ffM (r:Nat) true) (-((ffM (r:Nat) true:Nat):Int)) (by omega) hq hnum (by unfold ffM;split<;>simp<;>omega) rfl)
  have hM:ffM (r:Nat) true=r:=by unfold ffM;rw[U0 rfl,An]
  obtain⟨B,hB⟩:=gn (t0G (ffM (r:Nat) true) a);obtain⟨E,hE⟩:=gn (t0F (ffM (r:Nat) true) a);rw[hB,hE]at HP |-;rw[hM]at HP;have t0:(a.toList == [48])=false:=a0I g2;have hneg:IntKind.i64.wrap (-(r:Int)) = -(r:Int):=by rw[O0 _ ⟨by omega,by omega⟩]
  obtain⟨R,hR⟩:∃ R:Int,((r:Nat):Int)=R:=⟨_,rfl⟩;rw[hR]at HP hneg h2 |-;have t1:decide (R<0)=false:=I7 (by omega);have t2:decide (10000<R)=false:=I7 (by omega);clear ha h0 h0' h1 h2 g1 g2 hq hnum hM hB hE hR;go_enter Tryz.func14,Tryz.ntmps14;go_wp2_with fail;refine HR.out.mono ?_;rintro e w1 ⟨rfl,hb1⟩;have y1:=hid hb1;clear hb1;go_wp2_with fail;refine (HP _).out.mono ?_;rintro e w2 ⟨rfl,hb2⟩;have y2:=hid (a0a y1.out hb2);clear hb2;go_wp2_with fail;go_ret2
  exact⟨rfl,y2.out⟩
 .rw[U0 h0,U0 h0];unfold ffX at h0 |-;by_cases hiv:p0f a=0
  focus
   rw[Q0 (by rw[hiv];simp)]at h0 |-;obtain⟨g1,g2⟩:=h0g hiv;rw[g1]at HR;have ta:(a.toList == [48])=false:=a0I g2;by_cases c1:reach<0\/10000<reach
   focus
    rw[U0 c1];obtain⟨p1,h1⟩:=gn (decide (reach<0));obtain⟨p2,h2⟩:=gn (decide (10000<reach));have hpq:(p1 || p2)=true:=by rw[<- h1,<- h2];simpa using c1
    clear h0 c1 ha g1 g2 hiv;cases p1
    case' true=>
     clear hpq h2
    rotate_left
    obtain rfl:p2=true:=by simpa using hpq
    clear hpq
   rotate_left 2
   .rw[Q0 c1]at h0;exact absurd rfl h0
  rotate_left 2
  focus
   rw[U0 hiv];unfold p0f at hiv |-;obtain⟨z,hz⟩:=gn (gPE a);rw[hz]at HR hiv |-;by_cases c0:z=0
   case' neg=>
    rw[U0 c0];have t0:(z==0)=false:=by rw[U4];exact c0
    clear hz h0 c0 ha hiv
   rotate_left
   subst c0;rw[Q0 (by simp)]at hiv |-;by_cases ca:a=⟨#[48]⟩
   focus
    subst ca;rw[U0 rfl];clear hz h0 ha hiv
   rotate_left
   .rw[Q0 ca]at hiv;exact absurd rfl hiv
  all_goals
   go_enter Tryz.func14,Tryz.ntmps14;go_wp2_with fail;refine HR.out.mono ?_;rintro e w0 ⟨rfl,hb0⟩;go_wp2_with fail;go_ret2
   exact⟨rfl,hb0⟩
end
section
open Go.RowKit
open Go.Lib (decDigits nDigits)
def naO (c:List Int)(a:ByteArray)(l:List ByteArray):Option (List Int):=if naE c a l=0 then nzO true a c l else none
def q0Q {c:List Int}{a:ByteArray}{l:List ByteArray}{r:Option (List Int)}(h:naE c a l=0)(h2:nzO true a c l=r):naO c a l=r:=(U0 h).trans h2
def q0R {c:List Int}{a:ByteArray}{l:List ByteArray}(h:naE c a l≠0):naO c a l=none:=Q0 h
structure NaOk (c:List Int)(a:ByteArray)(l:List ByteArray):Prop where
 z:zE c=0
 le:c.length<=256
 rng:∀ x∈c,-1125899906842624<=x/\x<=1125899906842624
 g:gPE a=0
 len:l.length=c.length
 b:∀ x∈l,c0t x=0
def d0Y {c:List Int}(h:zE c=0):c.length<=256/\∀ x∈c,-1125899906842624<=x/\x<=1125899906842624:=by
 unfold zE at h
 split at h
 .cases h
 .rename_i h1
  split at h
  .cases h
  .rename_i h2
   refine⟨by omega,fun x hx=>?_⟩;have h3:e0Z x=false:=by
    rw[Bool.not_eq_true,List.any_eq_false]at h2;exact Kj.2 (h2 x hx)
   unfold e0Z at h3;rw[Ie]at h3;have h4:=Es h3.1;have h5:=Es h3.2;omega
def v0B {c:List Int}{a:ByteArray}{l:List ByteArray}(h:naE c a l=0):NaOk c a l:=by
 unfold naE at h
 split at h
 .rename_i h1;exact absurd h h1
 .rename_i h1
  have h1:=J8 h1
  split at h
  .rename_i h2;exact absurd h h2
  .rename_i h2
   unfold wdE at h
   split at h
   .rename_i h3
    exact⟨h1,(d0Y h1).1,(d0Y h1).2,J8 h2,by omega,n0B.1 h⟩
   .cases h
structure NdT (a:ByteArray)(c:List Int)(bs:List ByteArray)(k:Nat)(ys:List Int):Prop where
 len:ys.length=k
 at_:∀ (j:Nat) (x:Int) (y:ByteArray),j<k->c[j]?=some x->bs[j]?=some y->nz1 true a x y=ys[j]?
theorem NdT.zero (a:ByteArray)(c:List Int)(bs:List ByteArray):NdT a c bs 0 []:=⟨rfl,fun j x y hj=>absurd hj (Nat.not_lt_zero _)⟩
theorem NdT.next {a:ByteArray}{c:List Int}{bs:List ByteArray}{k:Nat}{ys:List Int}(h:NdT a c bs k ys){x:Int}{b:ByteArray}{v:Int}(hx:c[k]?=some x)(hb:bs[k]?=some b)(hv:nz1 true a x b=some v):NdT a c bs (k+1) (ys ++ [v]):=
 ⟨by rw[J4,h.len];rfl,fun j u y hj hu hy=>by
  by_cases e:j=k
  .subst e;rw[hx]at hu;rw[hb]at hy;cases hu;cases hy
   rw[hv,M6 (by rw[h.len];exact Z3 _),h.len,Bh];rfl
  .rw[h.at_ j u y (by omega) hu hy,D9 (by rw[h.len];omega)]⟩
theorem NdT.all {a:ByteArray}{c:List Int}{bs:List ByteArray}{ys:List Int}(h:NdT a c bs c.length ys)(hl:bs.length=c.length):nzO true a c bs=some ys:=
 q0F hl.symm h.len fun k x y hx hy=>h.at_ k x y ((O4.1 hx).1) hx hy
def m0i (a b:ByteArray)(hb:b.size<=256) : -256<=(wT a b).2.1/\(wT a b).2.1<=256:=by
 unfold wT
 split
 .rename_i h
  have he:gPE a=0:=by
   unfold gE at h
   split at h
   .rename_i h2;exact absurd h h2
   .rename_i h2;exact J8 h2
  have hl:b.data.toList.length=b.size:=a0z b;obtain⟨u,_,h2⟩:=a1M (b0S he).2 true b.data.toList;have e:y0Y (bN (cW a)) (bN (qD a)) b.data.toList=drT (bN (cW a)) (bN (qD a)) true b.data.toList:=rfl;rw[e];rcases h2 with ⟨-,h2⟩ | ⟨v,h3,h4,-,h2⟩
  .rw[h2];simp
  .rw[h2];simp;omega
 .simp
def v0e (N D K T:Nat)(v:Nat)(b:Bool):Prop:=(decide (b0e (N*T) (K*D)<=0)=true/\v=0/\b=true)\/(decide (b0e (N*T) (K*D)<=0)=false/\v=1/\b=decide (b0e (K*D+D) (N*T)<=0))
def v0s (a b:Nat):decide (b0e a b<=0)=decide (a<=b):=by
 unfold b0e
 split
 .rw[Fr];omega
 .split<;>(rw[Fr];omega)
def a1O (N D K T:Nat):v0e N D K T (sdV N D K T) (sdB N D K T):=by
 unfold v0e sdV sdB;rw[v0s,v0s];by_cases h:N*T<=K*D
 .exact .inl ⟨by simpa using h,U0 h,by simp[h]⟩
 .exact .inr ⟨by simpa using h,Q0 h,by simp[h]⟩
def l0m (w:World)(m:Bool)(N D:Value)(n d v:Nat)(b:Bool)(s:ByteArray)(hs:s.size<=100000)(hN:IsN .i64 w N n)(hD:IsN .i64 w D d)
 (l1:(limbs n).length<=100000) (l2:(limbs d).length<=100000) (key:v0e n d (bv s.data.toList) (2 ^ s.size) v b):
 Calls Tryz.prog 272 #[.agg #[.bool m,N,D],.string s] w fun e w'=>e=.returned (.tuple #[.int .i64 v,.bool b])/\Below w.heap.size w w':=by
 have RV:=fun V=>hid (t0t V s hs)
 have RT:=fun V=>hid (m0E V s.size hs)
 have hsl:s.data.toList.length=s.size:=by simp
 have bl:=y0Q (l:=s.data.toList) s.data.toList.length nr;rw[Bq,hsl]at bl;obtain⟨K,hK⟩:=gn (bv s.data.toList);obtain⟨T,hT⟩:=gn (2 ^ s.size);have lK:(limbs K).length<=100000:=by rw[<- hK];exact E0 (c0Q bl) hs
 have lT:(limbs T).length<=100001:=by rw[<- hT];exact E0 (c0Q (k:=s.size+1) (Hb (by omega) (by omega))) (by omega)
 rw[hK]at RV key;rw[hT]at RT key;obtain⟨L1,L2,L3,L4,L5⟩:=zf (E0 l1 (show 100000<=1000000 by omega)) (E0 l2 (show 100000<=1000000 by omega)) (E0 lK (show 100000<=1000000 by omega)) (E0 lT (show 100001<=1000000 by omega)) (E0 (a0G lK l2) (show 100000+100000<=1000000 by omega));clear hsl bl hK hT lK lT l1 l2 hs;obtain⟨HN,HD⟩:=zg hN hD;obtain⟨a1,c1,rfl,_⟩:=hN.openI;obtain⟨a2,c2,rfl,_⟩:=hD.openI;obtain⟨k1,hk1⟩:=gn ((limbs n).length);obtain⟨k2,hk2⟩:=gn ((limbs d).length);rw[hk1]at HN |-;rw[hk2]at HD |-;clear hN hD hk1 hk2;unfold v0e at key;obtain⟨t,ht⟩:=gn (b0e (n*T) (K*d));obtain⟨u,hu⟩:=gn (b0e (K*d+d) (n*T));rw[ht,hu]at key;obtain⟨HT,HU⟩:=zg ht hu;clear ht hu;obtain⟨W,hW⟩:=gn (w.alloc (.cells #[.bool m,.slice a1 k1 c1,.slice a2 k2 c2] 81));have X0:Below w.heap.size w W:=by rw[<- hW];exact br0.alloc nr _
 have Y0:Blk W w.heap.size #[.bool m,.slice a1 k1 c1,.slice a2 k2 c2] 81:=by rw[<- hW];exact Blk.new w _ _
 obtain⟨HX0,HY0,XN,XD,HW⟩:=zf X0 Y0 (HN.out.call X0) (HD.out.call X0) hW;clear X0 Y0 hW HN HD;rcases key with ⟨key,rfl,rfl⟩ | ⟨key,rfl,rfl⟩
 .go_enter Tryz.func272,Tryz.ntmps272;go_wp2_with fail;rw[HW.out];refine (RV _).out.mono ?_;rintro e w1 ⟨⟨v1,rfl,hv1⟩,hb1⟩;obtain⟨bb1,V1⟩:=zg hb1 hv1;have g1:=(HY0.out.call hb1).cell 1;simp at g1;clear hv1 hb1;go_wp2_with fail;have K1:Hid (∀ w',Below w1.heap.size w1 w'->w'.cell? ⟨w.heap.size,1,none⟩=some (.slice a1 k1 c1)):=fun w' hb=>by
   have:=(HY0.out.call (a0a bb1.out hb)).cell 1;simpa using this
  go_region_held3 (fun w'=>w'.cell? ⟨w.heap.size,1,none⟩=some (.slice a1 k1 c1))
   (first
    | exact K1.out _ br0.drew
    | exact K1.out _ cc3.out
    | exact K1.out _ cc2.out)
   (first
    | (go_at_call 221;refine (RT _).out.mono ?_;rintro e w2 ⟨⟨v2,rfl,hv2⟩,hb2⟩;have cc2:=hid (a0a br0.drew hb2);have V2:=hid hv2)
    | (go_at_call 176;refine (b0n _ _ _ n T (XN.out.call (a0a bb1.out cc2.out)) V2.out L1.out L4.out).mono ?_;rintro e w3 ⟨⟨v3,rfl,hv3⟩,hb3⟩;have cc3:=hid (a0a cc2.out hb3);have V2':=hid hv3))
  obtain⟨bb3,V1'⟩:=zg (a0a bb1.out cc3.out) (V1.out.call cc3.out);have g3:=(HY0.out.call bb3.out).cell 2;simp at g3;clear hv2 hb2 hv3 hb3 V2 V1 cc2 cc3 K1 g1;go_wp2_with fail;refine (b0n _ _ _ K d V1'.out (XD.out.call bb3.out) L3.out L2.out).mono ?_;rintro e w4 ⟨⟨v4,rfl,hv4⟩,hb4⟩;obtain⟨bb4,V3,V2q⟩:=zc (a0a bb3.out hb4) hv4 (V2'.out.call hb4);clear hv4 hb4 g3 V2';have V2':=V2q;clear V2q;go_wp2_with fail;refine (b0j _ _ _ _ _ V2'.out V3.out).mono ?_;rintro e w5 ⟨rfl,hb5⟩;have bb5:=hid (a0a bb4.out hb5);rw[HT.out];go_wp2_with fail;go_ret2
  exact⟨rfl,a0a HX0.out bb5.out⟩
 .go_enter Tryz.func272,Tryz.ntmps272;go_wp2_with fail;rw[HW.out];refine (RV _).out.mono ?_;rintro e w1 ⟨⟨v1,rfl,hv1⟩,hb1⟩;obtain⟨bb1,V1⟩:=zg hb1 hv1;have g1:=(HY0.out.call hb1).cell 1;simp at g1;clear hv1 hb1;go_wp2_with fail;have K1:Hid (∀ w',Below w1.heap.size w1 w'->w'.cell? ⟨w.heap.size,1,none⟩=some (.slice a1 k1 c1)):=fun w' hb=>by
   have:=(HY0.out.call (a0a bb1.out hb)).cell 1;simpa using this
  go_region_held3 (fun w'=>w'.cell? ⟨w.heap.size,1,none⟩=some (.slice a1 k1 c1))
   (first
    | exact K1.out _ br0.drew
    | exact K1.out _ cc3.out
    | exact K1.out _ cc2.out)
   (first
    | (go_at_call 221;refine (RT _).out.mono ?_;rintro e w2 ⟨⟨v2,rfl,hv2⟩,hb2⟩;have cc2:=hid (a0a br0.drew hb2);have V2:=hid hv2)
    | (go_at_call 176;refine (b0n _ _ _ n T (XN.out.call (a0a bb1.out cc2.out)) V2.out L1.out L4.out).mono ?_;rintro e w3 ⟨⟨v3,rfl,hv3⟩,hb3⟩;have cc3:=hid (a0a cc2.out hb3);have V2':=hid hv3))
  obtain⟨bb3,V1'⟩:=zg (a0a bb1.out cc3.out) (V1.out.call cc3.out);have g3:=(HY0.out.call bb3.out).cell 2;simp at g3;clear hv2 hb2 hv3 hb3 V2 V1 cc2 cc3 K1 g1;go_wp2_with fail;refine (b0n _ _ _ K d V1'.out (XD.out.call bb3.out) L3.out L2.out).mono ?_;rintro e w4 ⟨⟨v4,rfl,hv4⟩,hb4⟩;obtain⟨bb4,V3,V2q⟩:=zc (a0a bb3.out hb4) hv4 (V2'.out.call hb4);clear hv4 hb4 g3 V2';have V2':=V2q;clear V2q;go_wp2_with fail;refine (b0j _ _ _ _ _ V2'.out V3.out).mono ?_;rintro e w5 ⟨rfl,hb5⟩;have bb5:=hid (a0a bb4.out hb5);rw[HT.out];have g5:=(HY0.out.call bb5.out).cell 2;simp at g5;obtain⟨V2'',V3''⟩:=zg (V2'.out.call hb5) (V3.out.call hb5);clear hb5;go_wp2_with fail;refine (d0a _ _ _ _ _ V3''.out (XD.out.call bb5.out) L5.out L2.out).mono ?_;rintro e w6 ⟨⟨v6,rfl,hv6⟩,hb6⟩;obtain⟨bb6,V6,W2⟩:=zc (a0a bb5.out hb6) hv6 (V2''.out.call hb6);clear hv6 hb6;go_wp2_with fail;refine (b0j _ _ _ _ _ V6.out W2.out).mono ?_;rintro e w7 ⟨rfl,hb7⟩;have bb7:=hid (a0a bb6.out hb7);clear hb7;rw[HU.out];go_wp2_with fail;go_ret2
  exact⟨rfl,a0a HX0.out bb7.out⟩
def n0Y (w:World)(v:Value)(q:Rat)(s:ByteArray)(hs:s.size<=100000)(h:IsQ .i64 w v q)(l1:(limbs q.num.natAbs).length<=100000)(l2:(limbs q.den).length<=100000):
 Calls Tryz.prog 272 #[v,.string s] w fun e w'=>e=.returned (.tuple #[.int .i64 (sdV q.num.natAbs q.den (bv s.data.toList) (2 ^ s.size):Nat),.bool (sdB q.num.natAbs q.den (bv s.data.toList) (2 ^ s.size))])/\Below w.heap.size w w':=by
 obtain⟨N,D,rfl,hN,hD⟩:=h.ex;exact l0m w _ N D _ _ _ _ s hs hN hD l1 l2 (a1O _ _ _ _)
structure TsI (N D:Nat)(L:List UInt8)(i:Nat):Prop where
 le:i<=L.length+1
 eq:i<=L.length->b0t N D L (bv (L.take i)) (2 ^ i) i=b0t N D L 0 1 0
 last:i=L.length+1->b0t N D L 0 1 0=(false,0,L.length)
theorem TsI.start (N D:Nat)(L:List UInt8):TsI N D L 0:=⟨by omega,fun _=>by simp[bv],fun h=>by omega⟩
theorem TsI.next {N D:Nat}{L:List UInt8}{i:Nat}(h:TsI N D L i)(hi:i<=L.length)(hn:sdB N D (bv (L.take i)) (2 ^ i)=false):TsI N D L (i+1):=by
 refine⟨by omega,fun hlt=>?_,fun he=>?_⟩
 .have:=h.eq hi;rw[g0v hn (by omega)]at this;rw[<- this,m0d (l:=L) (i:=i) (b:=L[i]) (J0 (by omega)),M7,Nat.mul_two]
 .have:=h.eq hi;obtain rfl:i=L.length:=by omega
  rw[g0w hn]at this;exact this.symm
theorem TsI.done {N D:Nat}{L:List UInt8}{i:Nat}(h:TsI N D L i)(hi:i<=L.length)(hn:sdB N D (bv (L.take i)) (2 ^ i)=true):b0t N D L 0 1 0=(true,sdV N D (bv (L.take i)) (2 ^ i),i):=by
 rw[<- h.eq hi,g0x hn]
theorem IsQ.keep2 {k:IntKind}{w w':World}{v:Value}{q:Rat}(h:IsQ k w v q)(hb:Below w.heap.size w w'):IsQ k w' v q:=h.call hb
def a1Q (x:Bool×Nat×Nat):Value:=.agg #[.bool x.1,.int .i64 (x.2.1:Nat),.int .i64 (x.2.2:Nat)]
def m0p (s:ByteArray){i:Nat}(h:i<=s.size):(s.extract 0 i).data.toList=s.data.toList.take i/\(s.extract 0 i).size=i:=by
 refine⟨by rw[a0J];simp,by simp;omega⟩
def w0P (w:World)(v:Value)(q:Rat)(s:ByteArray)(hs:s.size<=100000)(h:IsQ .i64 w v q)(l1:(limbs q.num.natAbs).length<=100000)(l2:(limbs q.den).length<=100000):
 Calls Tryz.prog 208 #[v,.string s] w fun e w'=>e=.returned (a1Q (b0t q.num.natAbs q.den s.data.toList 0 1 0))/\Below w.heap.size w w':=by
 obtain⟨m,a,n,c,a',n',c',rfl⟩:=h.qv;have RE:=fun V i (hi:i<=s.size) (hV:IsQ .i64 V (.agg #[.bool m,.slice a n c,.slice a' n' c']) q)=>hid (n0Y V (.agg #[.bool m,.slice a n c,.slice a' n' c']) q (s.extract 0 i) (by rw[(m0p s hi).2];omega) hV l1 l2)
 obtain⟨N,hN⟩:=gn (q.num.natAbs);obtain⟨D,hD⟩:=gn (q.den);obtain⟨L,hL⟩:=gn (s.data.toList);obtain⟨hlen,hx⟩:=zg (show L.length=s.size from by rw[<- hL];simp) (fun i (hi:i<=s.size)=>m0p s hi);rw[hL]at hx;simp only[hN,hD]at RE;rw[hN,hD,hL];have HQ:=hid h;clear h l1 l2 hN hD hL;obtain⟨x0,x1,b1⟩:=zc ((Blk.new w #[.bool m,.slice a n c,.slice a' n' c'] 81).alloc (.cells #[.bool false,.int .i64 0,.int .i64 0] 62)) (Blk.made (w.alloc (.cells #[.bool m,.slice a n c,.slice a' n' c'] 81)) #[.bool false,.int .i64 0,.int .i64 0] 62 (n:=w.heap.size+1) (by simp)) (((J3 w.heap.size w).alloc nr (.cells #[.bool m,.slice a n c,.slice a' n' c'] 81)).alloc (by simp) (.cells #[.bool false,.int .i64 0,.int .i64 0] 62));go_enter Tryz.func208,Tryz.ntmps208;go_wp2_with fail
 go_loopw [5] (fun ii wr=>∃ i:Nat,ii=.int .i64 i/\Hid (TsI N D L i)/\i<=s.size+1/\Hid (Blk wr w.heap.size #[.bool m,.slice a n c,.slice a' n' c'] 81)/\Hid (Blk wr (w.heap.size+1) #[.bool false,.int .i64 0,.int .i64 0] 62)/\Hid (Below w.heap.size w wr)) (fun ii wr=>s.size+1-(intOf ii).toNat)
 case atStart=>exact⟨0,rfl,TsI.start _ _ _,by omega,x0,x1,b1⟩
 case round=>
  obtain⟨i,rfl,hI,hi,k0,k1,hB⟩:=hrel;by_cases hle:i<=s.size
  .have RI:=fun V hV=>RE V i hle hV
   obtain⟨ex1,ex2⟩:=hx.out i hle;simp only[ex1,ex2]at RI;obtain⟨vv,hvv⟩:=gn (sdV N D (bv (L.take i)) (2 ^ i));obtain⟨bb,hbb⟩:=gn (sdB N D (bv (L.take i)) (2 ^ i));simp only[hvv,hbb]at RI;obtain⟨HVV,HBB⟩:=zg hvv hbb;have iq:Hid (IsQ .i64 wr (.agg #[.bool m,.slice a n c,.slice a' n' c']) q):=HQ.out.keep2 hB.out;have d0:=k0.out.cell 0;have d1:=k0.out.cell 1;have d2:=k0.out.cell 2;simp at d0 d1 d2;clear ex1 ex2 hvv hbb;have KK:Hid (∀ w',Below wr.heap.size wr w'->w'.cell? ⟨w.heap.size,0,none⟩=some (.bool m)/\w'.cell? ⟨w.heap.size,1,none⟩=some (.slice a n c)/\w'.cell? ⟨w.heap.size,2,none⟩=some (.slice a' n' c')):=fun w' hb=>by
    have y:=k0.out.call hb;exact⟨y.cell 0,y.cell 1,y.cell 2⟩
   go_wp2_with fail
   go_region_held3 (fun w'=>w'.cell? ⟨w.heap.size,0,none⟩=some (.bool m)/\w'.cell? ⟨w.heap.size,1,none⟩=some (.slice a n c)/\w'.cell? ⟨w.heap.size,2,none⟩=some (.slice a' n' c'))
    (first
     | exact KK.out _ br0.drew
     | exact KK.out _ cc2.out)
    (first
     | (go_at_call 272;refine (RI _ (iq.out.call br0.drew)).out.mono ?_;rintro e w2 ⟨rfl,hb2⟩;have cc2:=hid (a0a br0.drew hb2)))
   obtain⟨B2,k02,k12⟩:=zc (a0a hB.out cc2.out) (k0.out.call cc2.out) (k1.out.call cc2.out);clear hb2 cc2 KK d0 d1 d2 RI iq;cases bb
   .have NX:=hid (hI.out.next (by rw[hlen.out];exact hle) HBB.out);go_wp2_with fail;go_roundw
    case rel=>exact⟨i+1,by go_num,NX,by omega,k02,k12,B2⟩
    case measure=>simp[intOf]<;>omega
   .have DN:=hid (hI.out.done (by rw[hlen.out];exact hle) HBB.out);rw[HVV.out]at DN;have r0:=k12.out.cell 0;have r1:=k12.out.cell 1;have r2:=k12.out.cell 2;have f0:=k12.out.free 0;have f1:=k12.out.free 1;have f2:=k12.out.free 2;simp at r0 r1 r2;go_wp2_with fail;have s3:=((k12.out.set 0 (.bool true)).set 1 (.int .i64 (vv:Nat))).set 2 (.int .i64 (i:Nat));have z0:=s3.cell 0;have z1:=s3.cell 1;have z2:=s3.cell 2;simp at z0 z1 z2;refine J6 (v:=.agg #[.bool true,.int .i64 (vv:Nat),.int .i64 (i:Nat)]) (by simp[results,Tryz.results208,go_sem,z0,z1,z2]) rfl ⟨by rw[DN.out];rfl,?_⟩;exact ((B2.out.setCell (Fs _) _).setCell (Fs _) _).setCell (Fs _) _
  .obtain rfl:i=s.size+1:=by omega
   have LS:=hid (hI.out.last (by rw[hlen.out]));have r0:=k1.out.cell 0;have r1:=k1.out.cell 1;have r2:=k1.out.cell 2;have f0:=k1.out.free 0;have f1:=k1.out.free 1;have f2:=k1.out.free 2;simp at r0 r1 r2;go_wp2_with fail;have s3:=((k1.out.set 0 (.bool false)).set 1 (.int .i64 0)).set 2 (.int .i64 (s.size:Nat));have z0:=s3.cell 0;have z1:=s3.cell 1;have z2:=s3.cell 2;simp at z0 z1 z2;refine J6 (v:=.agg #[.bool false,.int .i64 0,.int .i64 (s.size:Nat)]) (by simp[results,Tryz.results208,go_sem,z0,z1,z2]) rfl ⟨by rw[LS.out,hlen.out];rfl,?_⟩;exact ((hB.out.setCell (Fs _) _).setCell (Fs _) _).setCell (Fs _) _
open Go.Shelf
def w0K {N D:Nat}{l:List UInt8}{p n:Nat}(hd:(a0A N D l p).1=false):s1 N D l p n=none:=by
 unfold s1;rw[b0u (Z3 1) hd]
def w0J {N D:Nat}(h:N<D){l:List UInt8}{p n:Nat}(hp:p<=l.length)(hd:(a0A N D l p).1=true)(hv:(a0A N D l p).2.1=1):s1 N D l p n=s1 N D l (p+(a0A N D l p).2.2) (n+1):=by
 unfold s1;rw[d0U h (Z3 1) hp hd hv]
def w0I {N D:Nat}{l:List UInt8}{p n:Nat}(hd:(a0A N D l p).1=true)(hv:¬ (a0A N D l p).2.1=1):s1 N D l p n=some (n,p+(a0A N D l p).2.2):=by
 unfold s1;rw[b0G hd hv];rfl
end
section
open Go.RowKit
open Go.Lib (decDigits nDigits)
def b1k (o:Option (Nat×Nat)):Value:=match o with
 | none=>.tuple #[.int .i64 0,.int .i64 0,.bool false]
 | some (n,p)=>.tuple #[.int .i64 (n:Nat),.int .i64 (p:Nat),.bool true]
def o0U (N D:Nat)(l:List UInt8)(p:Nat):b0t N D (l.drop p) 0 1 0=a0A N D l p:=by
 unfold a0A b0t;simp
def s0k (N D:Nat)(l:List UInt8)(p:Nat):(a0A N D l p).2.1<=1:=by
 rw[g0n];exact m0n _ _ _ _ _
def g0M (w:World)(v:Value)(q:Rat)(s:ByteArray)(hs:s.size<=100000)(h:IsQ .i64 w v q)(l1:(limbs q.num.natAbs).length<=100000)(l2:(limbs q.den).length<=100000)(hlt:q.num.natAbs<q.den):
 Calls Tryz.prog 141 #[v,.string s] w fun e w'=>e=.returned (b1k (s1 q.num.natAbs q.den s.data.toList 0 0))/\Below w.heap.size w w':=by
 obtain⟨m,a,n,c,a',n',c',rfl⟩:=h.qv;have RT:=fun V p (hV:IsQ .i64 V (.agg #[.bool m,.slice a n c,.slice a' n' c']) q)=>hid (w0P V (.agg #[.bool m,.slice a n c,.slice a' n' c']) q (s.extract p s.size) (by simp;omega) hV l1 l2)
 obtain⟨N,hN⟩:=gn (q.num.natAbs);obtain⟨D,hD⟩:=gn (q.den);have hx:∀ p,(s.extract p s.size).data.toList=s.data.toList.drop p:=fun p=>by
  rw[a0J];refine Z6 ?_;rw[S9];simp
 obtain⟨L,hL⟩:=gn (s.data.toList);have hlen:=hid (show L.length=s.size from by rw[<- hL];simp);simp only[hN,hD,hx,hL,o0U]at RT;rw[hN,hD]at hlt;rw[hN,hD,hL];obtain⟨HQ,HS,HLT⟩:=zc h hs hlt;clear h l1 l2 hN hD hL hx hlt;obtain⟨x0,b1⟩:=zg (Blk.new w #[.bool m,.slice a n c,.slice a' n' c'] 81) ((J3 w.heap.size w).alloc nr (.cells #[.bool m,.slice a n c,.slice a' n' c'] 81));go_enter Tryz.func141,Tryz.ntmps141;go_wp2_with fail
 go_loopw [7,8] (fun nn pp wr=>∃ n0 p:Nat,nn=.int .i64 n0/\pp=.int .i64 p/\n0<=p/\p<=s.size/\Hid (s1 N D L p n0=s1 N D L 0 0)/\Hid (Blk wr w.heap.size #[.bool m,.slice a n c,.slice a' n' c'] 81)/\Hid (Below w.heap.size w wr)) (fun nn pp wr=>s.size-(intOf pp).toNat)
 case atStart=>exact⟨0,0,rfl,rfl,Z3 _,J5 _,rfl,x0,b1⟩
 case round=>
  obtain⟨n0,p,rfl,rfl,hnp,hp,hS,k0,hB⟩:=hrel;have RI:=fun V hV=>RT V p hV
  obtain⟨x,hx⟩:=gn (a0A N D L p);have HX:=hid hx;have hle:=a0Y (N:=N) (D:=D) (l:=L) (p:=p) (by rw[hlen.out];exact hp);rw[hx,hlen.out]at hle;simp only[hx]at RI;obtain⟨d,vv,u⟩:=x;simp only[a1Q]at RI;have iq:Hid (IsQ .i64 wr (.agg #[.bool m,.slice a n c,.slice a' n' c']) q):=HQ.out.keep2 hB.out;have HLE:=hid hle;simp only at hle;have d0:=k0.out.cell 0;have d1:=k0.out.cell 1;have d2:=k0.out.cell 2;simp at d0 d1 d2;clear hx;have h0:(0:Int)<=(p:Int):=by omega
  have h1:(p:Int)<=(s.size:Int):=by omega
  go_upto_region 3 with fail
  go_cut [9] (fun s9 wx=>∃ g:Nat,s9=.pointer (some ⟨g,0,none⟩)/\Blk wx g #[.bool d,.int .i64 (vv:Nat),.int .i64 (u:Nat)] 62/\Below wr.heap.size wr wx)
  case first=>
   have KK:Hid (∀ w',Below wr.heap.size wr w'->w'.cell? ⟨w.heap.size,0,none⟩=some (.bool m)/\w'.cell? ⟨w.heap.size,1,none⟩=some (.slice a n c)/\w'.cell? ⟨w.heap.size,2,none⟩=some (.slice a' n' c')):=fun w' hb=>by
    have y:=k0.out.call hb;exact⟨y.cell 0,y.cell 1,y.cell 2⟩
   refine a0k [0,1,2,3] 3 (fun w'=>w'.cell? ⟨w.heap.size,0,none⟩=some (.bool m)/\w'.cell? ⟨w.heap.size,1,none⟩=some (.slice a n c)/\w'.cell? ⟨w.heap.size,2,none⟩=some (.slice a' n' c')) (by kernel_rfl) (by kernel_rfl) (by kernel_rfl) (by kernel_rfl) (KK.out _ br0.drew) ?_
   iterate 4
    refine⟨_,rfl,?_⟩;apply Exists.intro
    refine⟨.inl ⟨by rfl,?_⟩,?_⟩
    .rintro W' ⟨q1,q2,q3⟩;go_simp;try with_reducible rfl
    go_frame
   refine d0N (i:=4) (j:=5) (by kernel_rfl) (by rfl) (by rfl) (by rfl) (by rfl) ?_ ?_
   .go_wp2_with fail;refine (RI _ (iq.out.call br0.drew)).out.mono ?_;rintro e w2 ⟨rfl,hb2⟩;have y2:=hid (show Below wr.heap.size wr w2 from br0.drew.trans hb2);clear hb2;go_wp2_with fail;refine⟨KK.out _ y2.out,?_⟩;refine a0c (i:=5) (by kernel_rfl) rfl rfl ?_;go_wp2_with fail;refine⟨KK.out _ (y2.out.alloc y2.out.size _),?_⟩;refine a0c (i:=6) (by kernel_rfl) rfl rfl ?_;go_wp2_with fail;refine⟨KK.out _ (y2.out.alloc y2.out.size _),?_⟩;refine Z7 (by kernel_rfl) ?_ _;simp only[a0Z];go_wp2_with fail
    go_meet
    exact⟨w2.heap.size,rfl,Blk.new w2 _ _,y2.out.alloc y2.out.size _⟩
   .go_wp2_with fail;obtain⟨A0,b0⟩:=zg (show Below wr.heap.size wr (wr.alloc (.cells #[.bool false,.int .i64 0,.int .i64 0] 62)).drew from (br0.alloc nr _).drew) (show Blk (wr.alloc (.cells #[.bool false,.int .i64 0,.int .i64 0] 62)).drew wr.heap.size #[.bool false,.int .i64 0,.int .i64 0] 62 from Blk.new wr _ _);refine⟨KK.out _ A0.out,?_⟩;refine a0c (i:=4) (by kernel_rfl) rfl rfl ?_;go_wp2_with fail;refine (RI _ (iq.out.call A0.out)).out.mono ?_;rintro e w2 ⟨rfl,hb2⟩;obtain⟨y2,BK⟩:=zg (A0.out.trans (hb2.mono A0.out.size)) (b0.out.call hb2);have r0:=BK.out.cell 0;have r1:=BK.out.cell 1;have r2:=BK.out.cell 2;have f0:=BK.out.free 0;have f1:=BK.out.free 1;have f2:=BK.out.free 2;simp at r0 r1 r2;clear hb2 A0 b0;go_wp2_with fail;refine⟨KK.out _ y2.out,?_⟩;refine a0c (i:=6) (by kernel_rfl) rfl rfl ?_;go_wp2_with fail;refine⟨KK.out _ (((y2.out.setCell nr _).setCell nr _).setCell nr _),?_⟩;refine Z7 (by kernel_rfl) ?_ _;simp only[a0Z];have bk:=((BK.out.set 0 (.bool d)).set 1 (.int .i64 (vv:Nat))).set 2 (.int .i64 (u:Nat));simp at bk;have bkk:=hid bk;clear bk r0 r1 r2 f0 f1 f2;go_wp2_with fail
    go_meet
    exact⟨wr.heap.size,rfl,bkk.out,((y2.out.setCell nr _).setCell nr _).setCell nr _⟩
  case rest=>
   obtain⟨g,rfl,hg,hb⟩:=hcut;obtain⟨B2,k2⟩:=zg (a0a hB.out hb) (k0.out.call hb);have r0:=hg.cell 0;have r1:=hg.cell 1;have r2:=hg.cell 2;simp at r0 r1 r2;clear hg hb d0 d1 d2 RI RT iq;cases d
   .have E:=hid (w0K (N:=N) (D:=D) (l:=L) (p:=p) (n:=n0) (by rw[HX.out]));go_wp2_with fail;refine J6 (v:=.tuple #[.int .i64 0,.int .i64 0,.bool false]) (by simp[results,Tryz.results141,go_sem]) rfl ⟨by rw[<- hS.out,E.out];rfl,B2.out⟩
   .have hv:=s0k N D L p;rw[HX.out]at hv;simp only at hv;have w1:IntKind.i64.wrap ((p:Int)+(u:Nat))=((p+u:Nat):Int):=by
     have:=HS.out;rw[O0 _ ⟨by omega,by omega⟩];omega
    have w2:IntKind.i64.wrap ((n0:Int)+1)=((n0+1:Nat):Int):=by
     have:=HS.out;rw[O0 _ ⟨by omega,by omega⟩];omega
    by_cases h0:vv=0
    .subst h0;have E:=hid (w0I (N:=N) (D:=D) (l:=L) (p:=p) (n:=n0) (by rw[HX.out]) (by rw[HX.out];simp));rw[HX.out]at E;go_wp2_with fail;refine J6 (v:=.tuple #[.int .i64 (n0:Nat),.int .i64 ((p+u:Nat):Int),.bool true]) (by simp[results,Tryz.results141,go_sem]) rfl ⟨by rw[<- hS.out,E.out];rfl,B2.out⟩
    .obtain rfl:vv=1:=by omega
     have hge:=b0g (N:=N) (D:=D) (l:=L) (p:=p) HLT.out (by rw[HX.out]) (by rw[HX.out]);rw[HX.out]at hge;simp only at hge;have E:=hid (w0J (n:=n0) HLT.out (by rw[hlen.out];exact hp) (by rw[HX.out]) (by rw[HX.out]));rw[HX.out]at E;have E2:Hid (s1 N D L (p+u) (n0+1)=s1 N D L 0 0):=by rw[<- hS.out];exact E.out.symm
     go_wp2_with fail;go_roundw
     case rel=>exact⟨n0+1,p+u,rfl,rfl,by omega,hle,E2,k2,B2⟩
     case measure=>simp[intOf]<;>omega
end
end Go.Proofs.YtfkpfpobmobnbaaGreatDoor
