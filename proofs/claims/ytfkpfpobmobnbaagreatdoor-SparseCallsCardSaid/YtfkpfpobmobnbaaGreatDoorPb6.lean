import Derived.Test.YtfkpfpobmobnbaaGreatDoorPb5
import Derived.Deep.LoopGhost
import Derived.Laws.IdiomStrings
set_option linter.all false
set_option maxRecDepth 100000
set_option maxHeartbeats 8000000
namespace Go.Proofs.YtfkpfpobmobnbaaGreatDoor
open Go.Proofs.Tryz Go.RowKit
open Go.Lib (decDigits nDigits)
section
open Go.Shelf
attribute [local go_sem] Oper.semAt_some
def d0u {b:ByteArray}(h:c0D b=0)(p:Nat):c0D (b.extract p b.size)=0/\(b.extract p b.size).data.toList=b.data.toList.drop p/\(b.extract p b.size).size<=256:=by
 have hl:b.data.toList.length=b.size:=a0A b;have e:(b.extract p b.size).data.toList=b.data.toList.drop p:=by
  rw[a0J,E7 (by rw[Af];omega)]
 unfold c0D at h
 split at h
 .rename_i hb
  split at h
  .cases h
  .rename_i h2
   have hs:(b.extract p b.size).size<=256:=by
    have:=a0A (b.extract p b.size);rw[e,Af]at this;omega
   refine⟨?_,e,hs⟩;have hb2:o0C (b.extract p b.size)=true:=by
    unfold o0C at hb |-;rw[e];rw[Bz]at hb |-;exact fun x hx=>hb x (Lx hx)
   rw[c0D,J3 hb2,J2 (by omega)]
 .cases h
def m0Q {Kp:World->World->Prop}(M n:Nat)(hn:1<=n)(w:World)(ba bb:Nat)(a b:ByteArray)(hKr:∀ W,Kp W W)(hKt:∀ {A B C:World},Kp A B->Kp B C->Kp A C)(ha:a.size<=100000)(hc:c0D b=0)(he:cPE a=0)
 (hread:∀ W1 W2,Below w.heap.size w W1->Kp W1 W2->W2.cell? ⟨ba,0,none⟩=some (.string a)/\W2.cell? ⟨bb,0,none⟩=some (.string b)/\Lay W2) (hKb:∀ W1 W2,Below W1.heap.size W1 W2->Kp W1 W2):
 c1s M n prog 320 #[.pointer (some ⟨ba,0,none⟩),.pointer (some ⟨bb,0,none⟩)] (fun x:Nat×Nat=>#[.int .i64 (x.1:Int),.int .i64 (x.2:Int)]) Kp
  (fun pre x=>(a0B (bN (cW a)) (bN (qD a)) b.data.toList (e0y pre)).1=true/\x=(e0y pre+(a0B (bN (cW a)) (bN (qD a)) b.data.toList (e0y pre)).2.2,(a0B (bN (cW a)) (bN (qD a)) b.data.toList (e0y pre)).2.1))
  (fun xs=>(a0B (bN (cW a)) (bN (qD a)) b.data.toList (e0y xs)).1=false) (fun _=>True) w:=by
 intro l J Jx W hW hJ hJx hY hM h0;obtain⟨HR,HY,HW,HJ,HM,HKr⟩:=zf hread hY hW hJ hM hKr;have HKt:Hid (∀ A B C:World,Kp A B->Kp B C->Kp A C):=fun A B C h k=>hKt h k
 obtain⟨HKb,HC,HE,HA⟩:=zc hKb hc he ha;clear hread hY hW hJ hJx hKr hKt hM hKb hc he ha;refine callsIn_of_wp func320 rfl trivial ?_ rfl;simp only[ntmps320,An,E8,Ce,Nat.reduceAdd,Nat.reduceSub,Bu,Cl,Da,Cx,Dq,Cm]
 gi_wp2
 obtain⟨RR,hRR⟩:∃ RR:Nat->Value->World->Prop,RR=fun k i wr=>∃ pre:List (Nat×Nat),i=.int .i64 (e0y pre:Nat)/\e0y pre<=b.size/\k+pre.length=M/\J pre wr/\Kp W wr:=⟨_,rfl⟩
 have HRR:=hid hRR;clear hRR
 gi_loopw [4,5,6] (fun i x5 x6 wr=>∃ k,RR k i wr) (fun i x5 x6 wr=>leastOf (fun k=>RR k i wr))
 case atStart=>exact⟨M,by rw[HRR.out];exact⟨[],rfl,K5 _,by simp,h0,HKr.out W⟩⟩
 case round=>
  obtain⟨hk,hmin⟩:=leastOf_spec hrel;obtain⟨k,hkk⟩:=gn (leastOf (fun k=>RR k u4 wr));rw[hkk]at hk hmin;rw[HRR.out]at hk;obtain⟨pre,rfl,hp,hlen,hJ,hK⟩:=hk;obtain⟨c0,c1,hLay⟩:=HR.out W wr HW.out hK;obtain⟨p,hpp⟩:=gn (e0y pre);obtain⟨q1,q2,q3⟩:=d0u HC.out p;have q4:=fun V hV=>hid (t0t V a (b.extract p b.size) HA.out q3 q1 HE.out hV)
  rw[q2]at q4;obtain⟨x,hx⟩:=gn (b0u (bN (cW a)) (bN (qD a)) (b.data.toList.drop p) 0 1 0);rw[hx]at q4;have hxc:a0B (bN (cW a)) (bN (qD a)) b.data.toList p=x:=hx;have hle:=a0Z (N:=bN (cW a)) (D:=bN (qD a)) (l:=b.data.toList) (p:=p) (by rw[a0A,<- hpp];exact hp);rw[hxc,a0A]at hle;obtain⟨HX,HLE,HP,HLEN,HJw,HK,HLay,HREL,HKK⟩:=kw hxc hle hpp hlen hJ hK hLay hrel hkk;rw[hpp]at hp |- HREL;have h0:=qw p
  have h1:(p:Int)<=(b.size:Int):=by omega
  clear hx hxc hle hpp hlen hJ hK hLay q1 q2 q3 hmin hrel hkk hp;obtain⟨d,v,u⟩:=x;simp only[b1U]at q4
  gi_wp2_with fail
  refine wpIn_wide.2 ?_;refine a0j [0,1,2,3] 7 (fun W'=>W'.cell? ⟨ba,0,none⟩=some (.string a)/\W'.cell? ⟨bb,0,none⟩=some (.string b)) (by kernel_rfl) (by kernel_rfl) (by kernel_rfl) (by kernel_rfl) ⟨c0,c1⟩ ?_
  iterate 4
   refine⟨_,rfl,?_⟩;apply Exists.intro
   refine⟨.inl ⟨by rfl,?_⟩,?_⟩
   ·(intro W' hW'
     obtain⟨q1,q2⟩:=hW'
     go_simp
     try (with_reducible rfl))
   go_frame
  refine c0M (i:=4) (j:=8) (by kernel_rfl) (by rfl) (by rfl) (by rfl) (by rfl) ?_ ?_
  focus
   go_wp2_with fail;refine ny (q4 _ (HLay.out.call br0.drew)) fun w1 hb1=>?_;have y1:=hid (show Below wr.heap.size wr w1 from br0.drew.trans hb1);have s0:=(y1.out.cell (a0e c0)).trans c0;have s1:=(y1.out.cell (a0e c1)).trans c1;clear hb1;go_wp2_with fail;refine⟨⟨s0,s1⟩,?_⟩;refine a0V (is:=[5,6,7]) (g:=3) (by kernel_rfl) rfl ⟨s0,s1⟩ (by kernel_rfl) ?_
   iterate 3
    refine⟨_,rfl,?_⟩;apply Exists.intro
    refine⟨.inl ⟨by rfl,?_⟩,?_⟩
    ·(intro W' hW'
      clear hW'
      go_simp
      try (with_reducible rfl))
    go_frame
   refine a0c (i:=8) (by kernel_rfl) rfl rfl ?_;go_wp2_with fail;have s2:=((J4 w1.heap.size w1).alloc nr (.cells #[.bool false,.int .i64 0,.int .i64 0] 62));have s3:=(s2.cell (a0e s0)).trans s0;have s4:=(s2.cell (a0e s1)).trans s1;refine⟨⟨s3,s4⟩,?_⟩;refine a0c (i:=9) (by kernel_rfl) rfl rfl ?_;have bk:=Blk.new w1 #[.bool false,.int .i64 0,.int .i64 0] 62;have r0:(w1.alloc (.cells #[.bool false,.int .i64 0,.int .i64 0] 62)).cell? ⟨w1.heap.size,0,none⟩=some (.bool false):=bk.cell 0;have r1:(w1.alloc (.cells #[.bool false,.int .i64 0,.int .i64 0] 62)).cell? ⟨w1.heap.size,1,none⟩=some (.int .i64 0):=bk.cell 1;have r2:(w1.alloc (.cells #[.bool false,.int .i64 0,.int .i64 0] 62)).cell? ⟨w1.heap.size,2,none⟩=some (.int .i64 0):=bk.cell 2;obtain⟨f0,f1,f2⟩:=qq bk;obtain⟨dB,hdB⟩:=gn (w1.heap.size);obtain⟨HDB,LT0,LT1⟩:=zg hdB (a0e s0) (a0e s1);obtain⟨w2,hw2⟩:=gn (w1.alloc (.cells #[.bool false,.int .i64 0,.int .i64 0] 62));rw[hw2]at s3 s4 bk r0 r1 r2 f0 f1 f2 |-;rw[hw2]at s2;rw[hdB]at bk r0 r1 r2 f0 f1 f2 s2 LT0 LT1 |-;obtain⟨BK,y2⟩:=zu bk (y1.out.trans (s2.mono (by have:=y1.out.size;omega)));clear s0 s1 s2 hdB hw2 bk;go_wp2_with fail;have bk3:Blk (((w2.setCell ⟨dB,0,none⟩ (.bool d)).setCell ⟨dB,1,none⟩ (.int .i64 (v:Nat))).setCell ⟨dB,2,none⟩ (.int .i64 (u:Nat))) dB #[.bool d,.int .i64 (v:Nat),.int .i64 (u:Nat)] 62:=by
    have:=((BK.out.set 0 (.bool d)).set 1 (.int .i64 (v:Nat))).set 2 (.int .i64 (u:Nat));simpa using this
   have y3:Below wr.heap.size wr (((w2.setCell ⟨dB,0,none⟩ (.bool d)).setCell ⟨dB,1,none⟩ (.int .i64 (v:Nat))).setCell ⟨dB,2,none⟩ (.int .i64 (u:Nat))):=
    have hge:wr.heap.size<=dB:=by rw[<- HDB.out];exact y1.out.size
    ((y2.out.setCell hge _).setCell hge _).setCell hge _
  rotate_left
  focus
   go_wp2_with fail;have b0:Blk (wr.alloc (.cells #[.bool false,.int .i64 0,.int .i64 0] 62)).drew wr.heap.size #[.bool false,.int .i64 0,.int .i64 0] 62:=Blk.new wr #[.bool false,.int .i64 0,.int .i64 0] 62;have a0:Below wr.heap.size wr (wr.alloc (.cells #[.bool false,.int .i64 0,.int .i64 0] 62)).drew:=(br0.alloc nr _).drew;obtain⟨dB,hdB⟩:=gn (wr.heap.size);have HDB:=hid hdB;obtain⟨w1,hw1⟩:=gn ((wr.alloc (.cells #[.bool false,.int .i64 0,.int .i64 0] 62)).drew);rw[hw1]at b0 a0 |-;rw[hdB]at b0 |-;obtain⟨A0,BB0⟩:=zu a0 b0;have s0:=(a0.cell (a0e c0)).trans c0;have s1:=(a0.cell (a0e c1)).trans c1;clear hw1 hdB a0 b0;refine⟨⟨s0,s1⟩,?_⟩;refine a0c (i:=4) (by kernel_rfl) rfl rfl ?_;go_wp2_with fail;refine ny (q4 _ (HLay.out.call A0.out)) fun w2 hb2=>?_;obtain⟨y2,BK⟩:=zu (A0.out.trans (hb2.mono A0.out.size)) (BB0.out.call hb2);have s3:=(y2.out.cell (a0e c0)).trans c0;have s4:=(y2.out.cell (a0e c1)).trans c1;clear hb2 s0 s1;go_wp2_with fail;refine⟨⟨s3,s4⟩,?_⟩;refine a0V (is:=[5,6,7]) (g:=2) (by kernel_rfl) rfl ⟨s3,s4⟩ (by kernel_rfl) ?_
   iterate 3
    refine⟨_,rfl,?_⟩;apply Exists.intro
    refine⟨.inl ⟨by rfl,?_⟩,?_⟩
    ·(intro W' hW'
      clear hW'
      go_simp
      try (with_reducible rfl))
    go_frame
   have r0:w2.cell? ⟨dB,0,none⟩=some (.bool false):=BK.out.cell 0;have r1:w2.cell? ⟨dB,1,none⟩=some (.int .i64 0):=BK.out.cell 1;have r2:w2.cell? ⟨dB,2,none⟩=some (.int .i64 0):=BK.out.cell 2;obtain⟨f0,f1,f2⟩:=qq BK.out;refine a0c (i:=9) (by kernel_rfl) rfl rfl ?_;go_wp2_with fail;have bk3:Blk (((w2.setCell ⟨dB,0,none⟩ (.bool d)).setCell ⟨dB,1,none⟩ (.int .i64 (v:Nat))).setCell ⟨dB,2,none⟩ (.int .i64 (u:Nat))) dB #[.bool d,.int .i64 (v:Nat),.int .i64 (u:Nat)] 62:=by
    have:=((BK.out.set 0 (.bool d)).set 1 (.int .i64 (v:Nat))).set 2 (.int .i64 (u:Nat));simpa using this
   have y3:Below wr.heap.size wr (((w2.setCell ⟨dB,0,none⟩ (.bool d)).setCell ⟨dB,1,none⟩ (.int .i64 (v:Nat))).setCell ⟨dB,2,none⟩ (.int .i64 (u:Nat))):=
    have hge:wr.heap.size<=dB:=by rw[<- HDB.out];exact O4 _
    ((y2.out.setCell hge _).setCell hge _).setCell hge _
  all_goals
   obtain⟨V,hV⟩:=gn (((w2.setCell ⟨dB,0,none⟩ (.bool d)).setCell ⟨dB,1,none⟩ (.int .i64 (v:Nat))).setCell ⟨dB,2,none⟩ (.int .i64 (u:Nat)));rw[hV]at bk3 y3 |-;have s5:=(y3.cell (a0e c0)).trans c0;have s6:=(y3.cell (a0e c1)).trans c1;obtain⟨BV,YV⟩:=zu bk3 y3;clear hV bk3 y3 r0 r1 r2 f0 f1 f2 s3 s4;refine⟨⟨s5,s6⟩,?_⟩;refine a0c (i:=10) (by kernel_rfl) rfl rfl ?_;go_wp2_with fail;refine⟨⟨s5,s6⟩,?_⟩;refine J8 (by kernel_rfl) ?_ _;simp only[b0b];have e0:V.cell? ⟨dB,0,none⟩=some (.bool d):=BV.out.cell 0;have e1:V.cell? ⟨dB,1,none⟩=some (.int .i64 (v:Nat)):=BV.out.cell 1;have e2:V.cell? ⟨dB,2,none⟩=some (.int .i64 (u:Nat)):=BV.out.cell 2;have ew:IntKind.i64.wrap ((p:Int)+(u:Nat))=((p+u:Nat):Int):=by
    have h2:=HLE.out;have h3:=(d0u HC.out 0).2.2;have h4:b.size<=256:=by
     have h5:=(d0u HC.out 0).2.1;have h6:=a0A (b.extract 0 b.size);rw[h5,K9,a0A]at h6;omega
    rw[U0 _ ⟨by omega,by omega⟩];omega
   clear s5 s6;have hJV:J pre V:=HJ.out pre wr V none HJw.out ⟨YV.out.os,YV.out.tape,YV.out.output,YV.out.size,fun k hk _=>YV.out.block k hk⟩ (fun r e=>by cases e);have hKV:Kp W V:=HKt.out _ _ _ HK.out (HKb.out _ _ YV.out);obtain⟨HJV,HKV⟩:=zu hJV hKV;clear hJV hKV;cases d
   .gi_wp2_with fail
    refine⟨fun f hf=>(by cases hf),?_⟩
    gi_wp2_with fail
    refine C7 (Nk rfl _ _ _) rfl ?_;exact⟨⟨_,rfl⟩,.inl ⟨pre,by rw[HP.out,HX.out],HJV.out⟩⟩
   .obtain⟨fn,tmps,assign,body,hy,hR⟩:=HY.out pre (p+u,v) V ⟨by rw[HP.out,HX.out],by rw[HP.out,HX.out]⟩ HJV.out;dsimp only at hy;rw[Int.natCast_add]at hy;have HYR:=hid hR
    gi_wp2_with fail
    refine HYR.out.mono ?_;rintro e W3 (⟨rfl,hJ3,hk3⟩ | ⟨rfl,hJx3⟩)
    .have hM3:=HM.out _ _ hJ3;rw[J5,U8]at hM3
     have RN:=hid (show RR (k-1) (.int .i64 ((p:Int)+(u:Nat))) W3 from by
      rw[HRR.out];refine⟨pre ++ [(p+u,v)],by rw[b0P,Ee],by rw[b0P];exact HLE.out,?_,hJ3,HKt.out _ _ _ HKV.out hk3⟩;rw[J5,U8];have:=HLEN.out;omega)
     have HK1:=hid (show 1<=k from by have:=HLEN.out;omega);clear hJ3 hk3 hM3 hy hR
     gi_wp2_with fail
     go_roundw
     case rel=>exact⟨_,RN.out⟩
     case measure=>
      have h1:=(leastOf_spec (p:=fun k=>RR k (.int .i64 ((p:Int)+(u:Nat))) W3) ⟨_,RN.out⟩).2 _ RN.out;have h2:=HKK.out;rw[HP.out]at h2;have h3:=HK1.out;show leastOf (fun k=>RR k (.int .i64 ((p:Int)+(u:Nat))) W3)<leastOf (fun k=>RR k (.int .i64 (p:Nat)) wr)
      rw[h2];omega
    .clear hy hR
     gi_wp2_with fail
     refine C7 (Nk rfl _ _ _) rfl ?_;exact⟨⟨_,rfl⟩,.inr ⟨_,trivial,hJx3⟩⟩
attribute [local go_sem] Oper.semAt_some
structure KpS (n0 b1 b2:Nat)(W W':World):Prop where
 size:W.heap.size<=W'.heap.size
 rest:n0<=W.heap.size->b1<W.heap.size->b2<W.heap.size->Below n0 W W'/\W'.heap[b1]?=W.heap[b1]? /\ W'.heap[b2]?=W.heap[b2]?
theorem KpS.refl (n0 b1 b2:Nat)(W:World):KpS n0 b1 b2 W W:=⟨O4 _,fun _ _ _=>⟨J4 _ _,rfl,rfl⟩⟩
theorem KpS.trans {n0 b1 b2:Nat}{A B C:World}(h:KpS n0 b1 b2 A B)(k:KpS n0 b1 b2 B C):KpS n0 b1 b2 A C:=
 ⟨J0 h.size k.size,fun h1 h2 h3=>by
  obtain⟨x,y,z⟩:=h.rest h1 h2 h3;obtain⟨x',y',z'⟩:=k.rest (J0 h1 h.size) (J7 h2 h.size) (J7 h3 h.size);exact⟨x.trans x',y'.trans y,z'.trans z⟩⟩
theorem KpS.of_below {n0 b1 b2:Nat}{W W':World}(h:Below W.heap.size W W'):KpS n0 b1 b2 W W':=⟨h.size,fun h1 h2 h3=>⟨h.mono h1,h.block _ h2,h.block _ h3⟩⟩
theorem KpS.put {n0 b1 b2:Nat}{w:World}(h1:n0<=w.heap.size)(h2:b1<w.heap.size)(h3:b2<w.heap.size)(W:World)(l:Nat)(o o':Obj)(hl:w.heap.size<=l)(h:W.heap[l]?=some o)(hc:o.isCells=false)(hw:o.isWalk=false):KpS n0 b1 b2 W (W.putObj l o'):=by
 have hs:W.heap.size<=(W.putObj l o').heap.size:=by simp[World.putObj]
 refine⟨hs,fun _ _ _=>⟨?_,?_,?_⟩⟩
 .exact⟨rfl,rfl,rfl,hs,fun k hk=>Ea (by omega)⟩
 .exact Ea (by omega)
 .exact Ea (by omega)
def SerI (B many N D:Nat)(l:List UInt8)(pre:List (Nat×Nat))(W:World):Prop:=∃ m vs n v,1<=m/\vs.length+m=many/\sr N D l many 0 [] 0=sr N D l m (e0y pre) vs n/\e0y pre<=l.length /\
 pre.length+(l.length-e0y pre+m)<=l.length+many/\n<=pre.length/\Boxed W (B+1) 22 v/\W.ownsRow B 3 1 v (vs.length+1) (b0p .i64 (vs ++ [n]))
theorem SerI.own {B C many N D:Nat}{l:List UInt8}:OwnFrom C (SerI B many N D l):=by
 rintro s X Y row ⟨m,vs,n,v,h1,h2,h3,h4,h5,h6,hv,hr⟩ hg hrow;refine⟨m,vs,n,v,h1,h2,h3,h4,h5,h6,hv.kept hg (fun e'=>?_),hr.kept hg ?_⟩
 .obtain⟨-,o,ho,hc⟩:=hrow _ e'.symm;rw[show X.heap[B+1]? = _ from hv]at ho;cases ho;cases hc
 .rcases hr.2 with ⟨rfl,_⟩ | ⟨g,cap,cur,rfl,_,hgb,_⟩
  .exact .inl rfl
  .refine .inr fun e'=>?_
   obtain⟨-,o,ho,hc⟩:=hrow g (by simpa[Value.ownBlock]using e'.symm);rw[hgb]at ho;cases ho;cases hc
def SerX (A B many N D:Nat)(l:List UInt8)(W:World):Prop:=∃ vs x v,sr N D l many 0 [] 0=some (vs,x)/\vs.length=many/\Blk W (A+1) #[v] 22/\Blk W (A+1+1) #[.int .i64 (x:Nat)] 3/\Blk W (A+1+1+1) #[.bool true] 4/\W.ownsRow B 3 1 v vs.length (b0p .i64 vs)
theorem SerX.keptX {A B many N D:Nat}{l:List UInt8}{X Y:World}{row:Option Nat}(h:SerX A B many N D l X)(hg:X.grownBy Y row)(hrow:∀ r,row=some r->∃ o:Obj,X.heap[r]?=some o/\o.isCells=false):SerX A B many N D l Y:=by
 obtain⟨vs,x,v,h1,h2,h3,h4,h5,hr⟩:=h;refine⟨vs,x,v,h1,h2,h3.kept hg hrow,h4.kept hg hrow,h5.kept hg hrow,hr.kept hg ?_⟩;rcases hr.2 with ⟨rfl,_⟩ | ⟨g,cap,cur,rfl,_,hgb,_⟩
 .exact .inl rfl
 .refine .inr fun e'=>?_
  obtain⟨o,ho,hc⟩:=hrow g (by simpa[Value.ownBlock]using e'.symm);rw[hgb]at ho;cases ho;cases hc
def o0J (r:Option (List Nat×Nat))(e:Ending)(w':World):Prop:=match r with
 | none=>e=.returned (.tuple #[.slice none 0 0,.int .i64 0,.bool false])
 | some (vs,x)=>∃ v,e=.returned (.tuple #[v,.int .i64 (x:Nat),.bool true])/\Row w' v (b0p .i64 vs)
def Nu:=@Go.ownsRow_succ
def Bb:=@Go.RowKit.ownsRow_setCell_below
def Le:=@Go.Proofs.Tryz.underlying22
def Fm:=@Nat.le_succ
def j0L (w:World)(a b:ByteArray)(many:Nat)(h1:1<=many)(h2:many<=1000)(ha:a.size<=100000)(hc:c0D b=0)(he:cPE a=0)(hND:bN (cW a)<bN (qD a))(hL:Lay w):
 Calls prog 206 #[.string a,.string b,.int .i64 (many:Nat)] w fun e w'=>o0J (sr (bN (cW a)) (bN (qD a)) b.data.toList many 0 [] 0) e w'/\Below w.heap.size w w':=by
 obtain⟨HL,HC,HE,HND,H1,H2,HA⟩:=kx hL hc he hND h1 h2 ha;have hbs:b.size<=256:=by
  have h5:=(d0u hc 0).2.1;have h6:=a0A (b.extract 0 b.size);have h7:=(d0u hc 0).2.2;rw[h5,K9,a0A]at h6;omega
 have HBS:=hid hbs;clear hL hc he hND ha hbs;obtain⟨N,hN⟩:=gn (bN (cW a));obtain⟨D,hD⟩:=gn (bN (qD a));obtain⟨HN,HD⟩:=zu hN hD;rw[hN,hD]at HND |-;clear hN hD;obtain⟨L,hL⟩:=gn (b.data.toList);obtain⟨HLL,HLQ⟩:=zu (show L.length=b.size from by rw[<- hL];exact a0A b) hL;rw[hL];clear hL;refine (Ah (n:=9)).1 ?_;refine Fj func206 rfl trivial ?_ rfl;simp only[ntmps206,An,E8,Ce,Nat.reduceAdd,Nat.reduceSub,Bu,Cl,Da,Cx,Dq,Cm]
 gi_wp2_with fail
 refine o0M ?_
 gi_wp2_with fail
 refine wpIn_label ?_
 gi_wp2_with (refine⟨trivial,?_⟩;gi_at_call 271;refine (Ah.2 (y0T _ _ _)).mono ?_;rintro e w' ⟨rfl,rfl⟩)
 obtain⟨i0,hi,hz0,hz1,hz2⟩:=Dx v0o
 obtain⟨W0,hW0⟩:∃ W0,(((((((w.alloc (.cells #[.int .i64 (many:Nat)] 3)).alloc (.cells #[.slice none 0 0] 22)).alloc (.cells #[.int .i64 0] 3)).alloc (.cells #[.bool false] 4)).alloc (.cells #[.int .i64 0] 3)).alloc
  (.cells #[.slice (some ⟨w.heap.size+1+1+1+1,0,none⟩) 1 1] 22)).alloc (.cells #[.string a] 23)).alloc (.cells #[.string b] 26)=W0:=⟨_,rfl⟩
 have y0:Blk W0 w.heap.size #[.int .i64 (many:Nat)] 3:=by rw[<- hW0];exact (((((((Blk.new w _ _).alloc _).alloc _).alloc _).alloc _).alloc _).alloc _).alloc _
 have y1:Blk W0 (w.heap.size+1) #[.slice none 0 0] 22:=by rw[<- hW0];exact ((((((Blk.made _ _ _ (by simp)).alloc _).alloc _).alloc _).alloc _).alloc _).alloc _
 have y2:Blk W0 (w.heap.size+1+1) #[.int .i64 0] 3:=by rw[<- hW0];exact (((((Blk.made _ _ _ (by simp)).alloc _).alloc _).alloc _).alloc _).alloc _
 have y3:Blk W0 (w.heap.size+1+1+1) #[.bool false] 4:=by rw[<- hW0];exact ((((Blk.made _ _ _ (by simp)).alloc _).alloc _).alloc _).alloc _
 have y4:Blk W0 (w.heap.size+1+1+1+1) #[.int .i64 0] 3:=by rw[<- hW0];exact (((Blk.made _ _ _ (by simp)).alloc _).alloc _).alloc _
 have y5:Blk W0 (w.heap.size+1+1+1+1+1) #[.slice (some ⟨w.heap.size+1+1+1+1,0,none⟩) 1 1] 22:=by rw[<- hW0];exact ((Blk.made _ _ _ (by simp)).alloc _).alloc _
 have y6:Blk W0 (w.heap.size+1+1+1+1+1+1) #[.string a] 23:=by rw[<- hW0];exact (Blk.made _ _ _ (by simp)).alloc _
 have y7:Blk W0 (w.heap.size+1+1+1+1+1+1+1) #[.string b] 26:=by rw[<- hW0];exact Blk.made _ _ _ (by simp)
 have b0:Below w.heap.size w W0:=by
  rw[<- hW0];exact (((((((br0.alloc nr _).alloc (by simp) _).alloc (by simp<;>omega) _).alloc (by simp<;>omega) _).alloc (by simp<;>omega) _).alloc (by simp<;>omega) _).alloc (by simp<;>omega) _).alloc (by simp<;>omega) _
 have z0:W0.heap.size=w.heap.size+1+1+1+1+1+1+1+1:=by rw[<- hW0];simp
 rw[hW0];obtain⟨Y0,Y1,Y2,Y3,Y4,Y5,Y6,Y7,HB0,Z0⟩:=ky y0 y1 y2 y3 y4 y5 y6 y7 b0 z0;clear y0 y1 y2 y3 y4 y5 y6 y7 b0 z0 hW0;obtain⟨B,hB⟩:=gn (w.heap.size+1+1+1+1);rw[hB]at Y4 Y5 Y6 Y7 Z0 |-;have HBB:=hid hB;clear hB;have hread:∀ W1 W2,Below W0.heap.size W0 W1->KpS B (B+1+1) (B+1+1+1) W1 W2->W2.cell? ⟨B+1+1,0,none⟩=some (.string a)/\W2.cell? ⟨B+1+1+1,0,none⟩=some (.string b)/\Lay W2:=fun W1 W2 b1 b2=>by
  have hs:=b1.size;have hz:=Z0.out;obtain⟨r1,r2,r3⟩:=b2.rest (by omega) (by omega) (by omega);have g1:Blk W2 (B+1+1) #[.string a] 23:=r2.trans (Y6.out.call b1);have g2:Blk W2 (B+1+1+1) #[.string b] 26:=r3.trans (Y7.out.call b1);refine⟨g1.cell 0,g2.cell 0,HL.out.call ?_⟩;have hb:=HBB.out;exact (HB0.out.trans (b1.mono (by omega))).trans (r1.mono (by omega))
 refine c0T (by omega) (gf:=320) (lb:=#[.pointer (some ⟨B+1+1,0,none⟩),.pointer (some ⟨B+1+1+1,0,none⟩)]) rfl (Cw func320 (by kernel_rfl) rfl)
  (m0Q (Kp:=KpS B (B+1+1) (B+1+1+1)) (L.length+many) 8 (by omega) W0 _ _ a b (KpS.refl _ _ _) KpS.trans HA.out HC.out HE.out hread (fun _ _=>KpS.of_below)) KpS.trans (KpS.put (by have:=Z0.out;omega) (by have:=Z0.out;omega) (by have:=Z0.out;omega)) br0 (fun _=>rfl)
  (fun pre W=>(SerI B many N D L pre W/\Blk W (B+1+1) #[.string a] 23/\Blk W (B+1+1+1) #[.string b] 26)/\Below B W0 W)
  (fun c pre W=>(c=.ret/\SerX w.heap.size B many N D L W)/\Below w.heap.size w W)
  (Jl (fun s X Y row hs hg hr=>⟨SerI.own s X Y row hs.1 hg hr,hs.2.1.kept hg (fun r e=>(hr r e).2),hs.2.2.kept hg (fun r e=>(hr r e).2)⟩) (Hm (by have:=Z0.out;omega) (by have:=Z0.out;omega)))
  (fun c=>Jl (fun s X Y row hs hg hr=>⟨hs.1,hs.2.keptX hg (fun r e=>(hr r e).2)⟩) (Hm nr (by have:=Z0.out;have:=HBB.out;omega)))
  ⟨⟨⟨many,[],0,_,H1.out,by simp,rfl,K5 _,by simp[r0v],K5 _,Y5.out,u0P Y4.out⟩,Y6.out,Y7.out⟩,J4 _ _⟩
  (fun pre W h=>by obtain⟨m,vs,n,v,_,_,_,_,h5,_⟩:=h.1.1;omega) ?act ?assign ?body ?done ?stop
 case assign=>
  intro l x W K hK
  gi_wp2
  exact hK
 case body=>
  rintro l pre ⟨q,val⟩ W ⟨hd,hx⟩ ⟨⟨⟨m,vs,n,v,i1,i2,i3,i4,i5,i6,hv,hr⟩,ha6,hb7⟩,hB⟩;rw[HN.out,HD.out,HLQ.out]at hd hx;obtain⟨p,hp⟩:=gn (e0y pre);rw[hp]at hd hx i3 i4 i5;have hle:=a0Z (N:=N) (D:=D) i4;simp only[Ki]at hx;obtain⟨hq,hvv⟩:=hx;obtain⟨g,cap,rfl⟩:=Nu hr;obtain⟨k,hk⟩:=gn (vs.length);rw[hk]at hr i2 hv;obtain⟨o1,o2,o3,o4,o5,o6,o7⟩:=e0c hr;have c0:W.cell? ⟨g,k,none⟩=some (.int .i64 (n:Nat)):=o4 k _ (by rw[e0D,G8 (by rw[ints_length];omega),ints_length,hk,Bq];rfl);have c1:W.cell? ⟨B+1,0,none⟩=some (.slice (some ⟨g,0,none⟩) (k+1) cap):=Blk.cell hv 0;have c3:W.cell? ⟨w.heap.size,0,none⟩=some (.int .i64 (many:Nat)):=(Y0.out.below hB (by have:=HBB.out;omega)).cell 0;have r1:=Y1.out.below hB (by have:=HBB.out;omega);have r2:=Y2.out.below hB (by have:=HBB.out;omega);have r3:=Y3.out.below hB (by have:=HBB.out;omega);have c4:=r1.cell 0;have c5:=r2.cell 0;have c6:=r3.cell 0;have c7:=r1.free 0;have c8:=r2.free 0;have c9:=r3.free 0;have d0:=o3 k;simp at c4 c5 c6;have hkm:k<1000:=by have:=H2.out;omega
  have hn:n<3000:=by have h2:=H2.out;have h3:=HBS.out;have h4:=HLL.out;omega
  have w1:IntKind.i64.wrap (((k+1:Nat):Int)-1)=(k:Int):=by rw[U0 _ ⟨by omega,by omega⟩];omega
  have w2:IntKind.i64.wrap ((n:Int)+1)=(n:Int)+1:=by rw[U0 _ ⟨by omega,by omega⟩]
  obtain⟨I1,I2,I3,I4,I5,I6,HV,HR,HBW,HD1,HLE,HQ⟩:=ku i1 i2 i3 i4 i5 i6 hv hr hB hd hle hq;obtain⟨HVV,HKK,A6,A7,N6,N7,N5⟩:=kx hvv hk ha6 hb7 (o7 _ _ _ (by decide) ha6) (o7 _ _ _ (by decide) hb7) (o7 _ _ _ (by decide) hv);clear ha6 hb7;obtain⟨R1,R2,R3,HC0,HC1,HO7⟩:=zf r1 r2 r3 o1 o2 o7;clear i1 i2 i3 i4 i5 i6 hv hr hB hp hd hle hq hvv hk r1 r2 r3 o1 o2 o3 o4 o7;by_cases h1:val=1
  .have q0:((val:Int)==1)=true:=by rw[h1];rfl
   have HV1:=hid h1;clear h1
   gi_wp2_with fail
   have e1:((n:Int)+1)=((n+1:Nat):Int):=rfl;have hu:=b0i HND.out HD1.out (HVV.out.symm.trans HV1.out);have hser:=e0o (vs:=vs) (n:=n) HND.out I1.out I4.out HD1.out (HVV.out.symm.trans HV1.out);have hq:=HQ.out;have h5:=I5.out;have h6:=I6.out;have hle:=HLE.out;refine⟨(Ai _ _ _).from _,⟨by simp[World.setCell],fun _ _ _=>⟨br0.setCell HC0.out _,Bc _ _ _ _ (fun e=>N6.out e),Bc _ _ _ _ (fun e=>N7.out e)⟩⟩,⟨⟨m,vs,n+1,_,I1.out,by rw[HKK.out];exact I2.out,?_,?_,?_,?_,Blk.other HV.out (fun e=>N5.out e.symm) _,?_⟩,Blk.other A6.out (fun e=>N6.out e.symm) _,Blk.other A7.out (fun e=>N7.out e.symm) _⟩,HBW.out.setCell HC0.out _⟩
   .rw[b0P,I3.out,hser,hq]
   .rw[b0P];show q<=_;omega
   .rw[b0P,J5,U8];show pre.length+1+(L.length-q+m)<=_;omega
   .rw[J5,U8];omega
   .rw[HKK.out];have h7:=m0p HR.out k (.int .i64 ((n+1:Nat):Int));rw[f0s,List.set_append_right _ _ (Nat.le_of_eq HKK.out),HKK.out,Bq]at h7;exact h7
  .have q0:((val:Int)==1)=false:=by rw[M5];omega
   have hnv:=hid (show ¬ (a0B N D L p).2.1=1 from by rw[<- HVV.out];exact h1);clear h1;by_cases h2:k+1=many
   .have q1:(((k:Int)+1)==(many:Int))=true:=by rw[Fi];omega
    have HM:=hid h2;clear h2
    gi_wp2_with fail
    have hm1:m=1:=by have:=I2.out;have:=HM.out;omega
    have h8:=HBB.out;have h9:=HC0.out;have hstop:=b0M (vs:=vs) (n:=n) HD1.out hnv.out;refine⟨(((Ai _ _ _).trans (Ai _ _ _)).trans (Ai _ _ _)).from _,⟨rfl,vs ++ [n],q,.slice (some ⟨g,0,none⟩) (k+1) cap,?_,?_,?_,?_,?_,?_⟩,?_⟩
    .rw[I3.out,hm1,hstop,HQ.out]
    .rw[J5,HKK.out];exact HM.out
    .exact (((R1.out.set 0 _).other (by simp) _).other (by simp<;>omega) _)
    .exact ((R2.out.other (by simp) _).set 0 _).other (by simp) _
    .exact ((R3.out.other (by simp<;>omega) _).other (by simp) _).set 0 _
    .rw[J5,HKK.out];exact ((Bb (Bb (Bb HR.out (by simp<;>omega) _) (by simp<;>omega) _) (by simp<;>omega) _))
    .exact (((HB0.out.trans (HBW.out.mono (by omega))).setCell (by simp<;>omega) _).setCell (by simp<;>omega) _).setCell (by simp<;>omega) _
   .have q1:(((k:Int)+1)==(many:Int))=false:=by rw[M5];omega
    have HM:=hid h2;clear h2
    gi_wp2_with (gi_at_builtin;refine wpListIn_append_own _ rfl _ _ 22 rfl B 3 i0 (.int .i64 0) 1 8 Le hi hz0 hz1 hz2 rfl (by decide) _ (k+1) _ rfl (HR.out.alloc _) ⟨W.heap.size,0,none⟩ 1 1 [.int .i64 0] rfl rfl (Eu W (.int .i64 0) 3) (by simp[Value.oneCell']) (by unfold maxLen;omega) (by omega) (by have:=HC0.out;have:=HC1.out;simp;omega) ?_;intro v' w3 hown3 hgrow3 _
                 obtain⟨g2,cap2,rfl⟩:=Nu hown3;obtain⟨e1,e2,e3,e4,e5⟩:=Boxed.appended (B:=B+1) HV.out (by decide) HR.out (by have:=HC0.out;have:=HC1.out;omega) (Fm B) hown3 hgrow3;have k0:=e1.cell;have k1:=e1.frozen;obtain⟨E1,E2,E3,E4,E5,HG3⟩:=zf e1 e2 e3 e4 e5 hgrow3;clear e1 e2 e3 e4 e5 hown3 hgrow3)
    have hm2:2<=m:=by have:=I1.out;have:=I2.out;have:=HM.out;omega
    have hser:=l0U (vs:=vs) (n:=n) HND.out hm2 I4.out HD1.out hnv.out;have hq:=HQ.out;have h5:=I5.out;have h6:=I6.out;have hle:=HLE.out;have hg:(W.alloc (.cells #[.int .i64 0] 3)).grownBy w3 (some g):=HG3.out;have A6':=(((A6.out.alloc (.cells #[.int .i64 0] 3)).grown hg (fun e=>N6.out (by cases e;rfl))).other (a:=⟨B+1,0,none⟩) (by simp) (.slice (some ⟨g2,0,none⟩) (k+1+1) cap2));have A7':=(((A7.out.alloc (.cells #[.int .i64 0] 3)).grown hg (fun e=>N7.out (by cases e;rfl))).other (a:=⟨B+1,0,none⟩) (by simp<;>omega) (.slice (some ⟨g2,0,none⟩) (k+1+1) cap2));refine⟨E4.out.from _,⟨E5.out.size,fun _ _ _=>⟨E5.out,A6'.trans (Eq.symm A6.out),A7'.trans (Eq.symm A7.out)⟩⟩,⟨⟨m-1,vs ++ [n],0,_,by omega,by rw[J5,HKK.out];have:=I2.out;simp<;>omega,?_,?_,?_,K5 _,E2.out,?_⟩,A6',A7'⟩,HBW.out.trans E5.out⟩
    .rw[b0P,I3.out,hser,hq]
    .rw[b0P];show q<=_;omega
    .rw[b0P,J5,U8];show pre.length+1+(L.length-q+(m-1))<=_;omega
    .have h7:=E3.out;rw[J5,U8,HKK.out,e0D];exact h7
 case done=>
  rintro D' xs W hD hS ⟨⟨⟨m,vs,n,v,i1,i2,i3,i4,i5,i6,hv,hr⟩,ha6,hb7⟩,hB⟩ hK;rw[HN.out,HD.out,HLQ.out]at hS;have hsn:=hid (i3.trans (b0w i1 hS));have r1:=Y1.out.below hB (by have:=HBB.out;omega);have r2:=Y2.out.below hB (by have:=HBB.out;omega);have r3:=Y3.out.below hB (by have:=HBB.out;omega);have c4:=r1.cell 0;have c5:=r2.cell 0;have c6:=r3.cell 0;have c7:=r1.free 0;have c8:=r2.free 0;have c9:=r3.free 0;simp at c4 c5 c6;obtain⟨R1,R2,R3,HBW,HK,HDD⟩:=zf r1 r2 r3 hB hK hD;clear i1 i2 i3 i4 i5 i6 hv hr ha6 hb7 hB hK hS r1 r2 r3 hD
  gi_wp2_with fail
  have q1:=((R1.out.set 0 (.slice none 0 0)).other (a:=⟨w.heap.size+1+1,0,none⟩) (by simp) (.int .i64 0)).other (a:=⟨w.heap.size+1+1+1,0,none⟩) (by simp<;>omega) (.bool false);have q2:=((R2.out.other (a:=⟨w.heap.size+1,0,none⟩) (by simp) (.slice none 0 0)).set 0 (.int .i64 0)).other (a:=⟨w.heap.size+1+1+1,0,none⟩) (by simp) (.bool false);have q3:=((R3.out.other (a:=⟨w.heap.size+1,0,none⟩) (by simp<;>omega) (.slice none 0 0)).other (a:=⟨w.heap.size+1+1,0,none⟩) (by simp) (.int .i64 0)).set 0 (.bool false);have hk3:=((((Ai W ⟨w.heap.size+1,0,none⟩ (.slice none 0 0)).trans (Ai _ ⟨w.heap.size+1+1,0,none⟩ (.int .i64 0))).trans (Ai _ ⟨w.heap.size+1+1+1,0,none⟩ (.bool false)))).same D' _ HK.out rfl;have p1:=(q1.put hk3 (.deferred none)).cell 0;have p2:=(q2.put hk3 (.deferred none)).cell 0;have p3:=(q3.put hk3 (.deferred none)).cell 0;simp at p1 p2 p3;have h8:=HBB.out;have h9:=HDD.out;have hz:=Z0.out;refine b0X hk3 (v:=.tuple #[.slice none 0 0,.int .i64 0,.bool false]) (by simp[results,results206,go_sem,p1,p2,p3]) ⟨by rw[hsn.out];first | done | rfl,?_⟩;exact ((((HB0.out.trans (HBW.out.mono (by omega))).setCell (by simp<;>omega) _).setCell (by simp<;>omega) _).setCell (by simp<;>omega) _).trans (Lj (w:=w) nr _ D' _ _ (by omega) hk3 rfl rfl)
 case stop=>
  rintro D' c pre W hD-⟨⟨rfl,vs,x,v,h1,h2,h3,h4,h5,hr⟩,hB⟩ hK;have p1:=(h3.put hK (.deferred none)).cell 0;have p2:=(h4.put hK (.deferred none)).cell 0;have p3:=(h5.put hK (.deferred none)).cell 0;have hrow:Row (W.putObj D' (.deferred none)) v (b0p .i64 vs):=Row.put (Row.of_owns hr) hK _;simp at p1 p2 p3;obtain⟨H1',HROW,HB',HK,HDD⟩:=zd h1 hrow hB hK hD;obtain⟨a3,c3,rfl⟩:=b0l hr;clear h1 h3 h4 h5 hr hrow hB hD
  gi_wp2_with fail
  have h8:=HBB.out;have h9:=HDD.out;have hz:=Z0.out;refine b0X hK (v:=.tuple #[.slice a3 vs.length c3,.int .i64 (x:Nat),.bool true]) (by simp[results,results206,go_sem,p1,p2,p3]) ⟨?_,?_⟩
  .rw[H1'.out];exact⟨_,rfl,HROW.out⟩
  .exact HB'.out.trans (Lj (w:=w) nr _ D' _ _ (by omega) hK rfl rfl)
def b0R {p:ByteArray}(h:gPE p=0):cPE p=0/\bN (cW p)<bN (qD p):=by
 unfold gPE at h
 split at h
 .rename_i he
  exact absurd h he
 .rename_i he
  have he':qE p=0:=Ip.1 he
  split at h
  .cases h
  .rename_i h2
   split at h
   .cases h
   .rename_i h3
    obtain⟨a,b,c,d,e1,e2⟩:=g0E he' (fun h=>h2 (.inl h)) h3;have h4:¬ 0<=l0z (cW p).data.toList (qD p).data.toList:=fun h=>h2 (.inr h)
    refine⟨?_,?_⟩
    .rw[cPE,J2 he,J2 (fun h=>?_),J2 h3];rcases h with h | h
     .exact h2 (.inl h)
     .exact h4 (by omega)
    .rw[l0z,J3 ⟨e1,e2⟩,b0g]at h4;show dv _<dv _
     split at h4
     .assumption
     .split at h4<;>simp at h4
def d0A {a b:ByteArray}(h:gE a b=0):gPE a=0/\c0D b=0:=by
 unfold gE at h
 split at h
 .rename_i h1;exact absurd h h1
 .rename_i h1;exact⟨Ip.1 h1,h⟩
def Mv:=@Go.Proofs.Tryz.results136
def e0E (w:World)(a b:ByteArray)(many:Nat)(h1:1<=many)(h2:many<=1000)(ha:a.size<=100000)(hb:b.size<=100000)(he:gE a b=0)(hL:Lay w)
 (hr:sr (bN (cW a)) (bN (qD a)) b.data.toList many 0 [] 0=none):
 qb 136 #[.string a,.string b,.int .i64 (many:Nat)] w (.tuple #[.agg #[.bool false,.int .i64 0,.int .i64 (b.size:Nat)],.int .i64 0]):=by
 have HC:=fun V hV=>hid (j0N V a b ha hb hV)
 have HS:=fun V hV=>hid (j0L V a b many h1 h2 ha (d0A he).2 (b0R (d0A he).1).1 (b0R (d0A he).1).2 hV)
 rw[he]at HC;rw[hr]at HS;simp only[o0J]at HS;obtain⟨HL,b0,x0⟩:=zg hL ((J4 w.heap.size w).alloc nr (.cells #[.bool false,.int .i64 0,.int .i64 0] 62)) (Blk.new w #[.bool false,.int .i64 0,.int .i64 0] 62);clear h1 h2 ha hb he hL hr;go_enter func136,ntmps136;go_wp2_with fail;refine ny (HC _ (HL.out.call b0.out)) fun w1 hb1=>?_;have b1:=qx b0 hb1;have x1:=hid (x0.out.call hb1);clear hb1;go_wp2_with fail;refine ny (HS _ (HL.out.call b1.out)) fun w2 hb2=>?_;have b2:=qx b1 hb2;have x2:=hid (x1.out.call hb2);have r0:w2.cell? ⟨w.heap.size,0,none⟩=some (.bool false):=x2.out.cell 0;have r1:w2.cell? ⟨w.heap.size,1,none⟩=some (.int .i64 0):=x2.out.cell 1;have r2:w2.cell? ⟨w.heap.size,2,none⟩=some (.int .i64 0):=x2.out.cell 2;obtain⟨f0,f1,f2⟩:=qq x2.out;clear hb2;go_wp2_with fail;have s3:=((x2.out.set 0 (.bool false)).set 1 (.int .i64 0)).set 2 (.int .i64 (b.size:Nat));obtain⟨k0,k1,k2⟩:=qz s3;refine C7 (v:=.tuple #[.agg #[.bool false,.int .i64 0,.int .i64 (b.size:Nat)],.int .i64 0]) (by simp[results,Mv,go_sem,k0,k1,k2]) rfl ⟨rfl,?_⟩;exact ((b2.out.setCell nr _).setCell nr _).setCell nr _
def i0E (w:World)(a b:ByteArray)(many:Nat)(ha:a.size<=100000)(hb:b.size<=100000)(he:gE a b≠0)(hL:Lay w):
 qb 136 #[.string a,.string b,.int .i64 (many:Nat)] w (.tuple #[.agg #[.bool false,.int .i64 0,.int .i64 0],.int .i64 (gE a b)]):=by
 have HC:=fun V hV=>hid (j0N V a b ha hb hV)
 obtain⟨x,hx⟩:=gn (gE a b);rw[hx]at HC he |-;have q1:(x != 0)=true:=by simpa using he
 obtain⟨HL,b0,x0⟩:=zg hL ((J4 w.heap.size w).alloc nr (.cells #[.bool false,.int .i64 0,.int .i64 0] 62)) (Blk.new w #[.bool false,.int .i64 0,.int .i64 0] 62);clear ha hb he hL hx;go_enter func136,ntmps136;go_wp2_with fail;refine ny (HC _ (HL.out.call b0.out)) fun w2 hb2=>?_;have b2:=qx b0 hb2;have x2:=hid (x0.out.call hb2);have r0:w2.cell? ⟨w.heap.size,0,none⟩=some (.bool false):=x2.out.cell 0;have r1:w2.cell? ⟨w.heap.size,1,none⟩=some (.int .i64 0):=x2.out.cell 1;have r2:w2.cell? ⟨w.heap.size,2,none⟩=some (.int .i64 0):=x2.out.cell 2;obtain⟨f0,f1,f2⟩:=qq x2.out;clear hb2;go_wp2_with fail;have s3:=((x2.out.set 0 (.bool false)).set 1 (.int .i64 0)).set 2 (.int .i64 0);obtain⟨k0,k1,k2⟩:=qz s3;refine C7 (v:=.tuple #[.agg #[.bool false,.int .i64 0,.int .i64 0],.int .i64 x]) (by simp[results,Mv,go_sem,k0,k1,k2]) rfl ⟨rfl,?_⟩;exact ((b2.out.setCell nr _).setCell nr _).setCell nr _
def p0H (w:World)(a b:ByteArray)(x p:Nat)(hx:x<=100000)(hp:p<=100000)(ha:a.size<=100000)(hb:b.size<=100000)(he:gE a b=0)(hL:Lay w)
 (hr:sr (bN (cW a)) (bN (qD a)) b.data.toList 1 0 [] 0=some ([x],p)):
 qb 136 #[.string a,.string b,.int .i64 1] w (.tuple #[.agg #[.bool true,.int .i64 (x:Nat),.int .i64 (p:Nat)],.int .i64 0]):=by
 have HC:=fun V hV=>hid (j0N V a b ha hb hV)
 have HS:=fun V hV=>hid (j0L V a b 1 (by omega) (by omega) ha (d0A he).2 (b0R (d0A he).1).1 (b0R (d0A he).1).2 hV)
 rw[he]at HC;rw[hr]at HS;simp only[o0J]at HS;obtain⟨HL,b0,x0⟩:=zg hL ((J4 w.heap.size w).alloc nr (.cells #[.bool false,.int .i64 0,.int .i64 0] 62)) (Blk.new w #[.bool false,.int .i64 0,.int .i64 0] 62);clear ha hb he hL hr;go_enter func136,ntmps136;go_wp2_with fail;refine ny (HC _ (HL.out.call b0.out)) fun w1 hb1=>?_;have b1:=qx b0 hb1;have x1:=hid (x0.out.call hb1);clear hb1;go_wp2_with fail;refine nu (HS _ (HL.out.call b1.out)) fun v w2 hv hb2=>?_;have b2:=qx b1 hb2;have x2:=hid (x1.out.call hb2);obtain⟨a3,c3,rfl,h3,h4,h5⟩:=hv.openI;obtain⟨g,o,rfl,-,hc⟩:=h5 0 x rfl;rw[At]at hc;have r0:w2.cell? ⟨w.heap.size,0,none⟩=some (.bool false):=x2.out.cell 0;have r1:w2.cell? ⟨w.heap.size,1,none⟩=some (.int .i64 0):=x2.out.cell 1;have r2:w2.cell? ⟨w.heap.size,2,none⟩=some (.int .i64 0):=x2.out.cell 2;obtain⟨f0,f1,f2⟩:=qq x2.out;clear hb2 hv h5;simp only[U8]at h3 |-;go_wp2_with fail
 all_goals
  go_loop [12,41] (fun v i=>v=.int .i64 (x:Nat)/\i=.int .i64 0) (fun _ _=>0)
  case atStart=>exact⟨rfl,rfl⟩
  case round=>
   obtain⟨rfl,rfl⟩:=hrel;go_wp2_with fail;have s3:=((x2.out.set 0 (.bool true)).set 1 (.int .i64 (x:Nat))).set 2 (.int .i64 (p:Nat));obtain⟨k0,k1,k2⟩:=qz s3;refine C7 (v:=.tuple #[.agg #[.bool true,.int .i64 (x:Nat),.int .i64 (p:Nat)],.int .i64 0]) (by simp[results,Mv,go_sem,k0,k1,k2]) rfl ⟨rfl,?_⟩;exact ((b2.out.setCell nr _).setCell nr _).setCell nr _
def p0G (w:World)(a b:ByteArray)(x y p:Nat)(hx:x<=100000)(hy:y<=100000)(hp:p<=100000)(ha:a.size<=100000)(hb:b.size<=100000)(he:gE a b=0)(hL:Lay w)
 (hr:sr (bN (cW a)) (bN (qD a)) b.data.toList 2 0 [] 0=some ([x,y],p)):
 qb 136 #[.string a,.string b,.int .i64 2] w (.tuple #[.agg #[.bool true,.int .i64 ((x:Int)-(y:Int)),.int .i64 (p:Nat)],.int .i64 0]):=by
 have HC:=fun V hV=>hid (j0N V a b ha hb hV)
 have HS:=fun V hV=>hid (j0L V a b 2 (by omega) (by omega) ha (d0A he).2 (b0R (d0A he).1).1 (b0R (d0A he).1).2 hV)
 rw[he]at HC;rw[hr]at HS;simp only[o0J]at HS;obtain⟨HL,b0,x0⟩:=zg hL ((J4 w.heap.size w).alloc nr (.cells #[.bool false,.int .i64 0,.int .i64 0] 62)) (Blk.new w #[.bool false,.int .i64 0,.int .i64 0] 62);clear ha hb he hL hr;go_enter func136,ntmps136;go_wp2_with fail;refine ny (HC _ (HL.out.call b0.out)) fun w1 hb1=>?_;have b1:=qx b0 hb1;have x1:=hid (x0.out.call hb1);clear hb1;go_wp2_with fail;refine nu (HS _ (HL.out.call b1.out)) fun v w2 hv hb2=>?_;have b2:=qx b1 hb2;have x2:=hid (x1.out.call hb2);obtain⟨a3,c3,rfl,h3,h4,h5⟩:=hv.openI;obtain⟨g,o,rfl,-,hc⟩:=h5 0 x rfl;obtain⟨g',o',hgo,-,hd⟩:=h5 1 y rfl;simp at hgo;obtain⟨rfl,rfl⟩:=hgo;rw[At]at hc;have r0:w2.cell? ⟨w.heap.size,0,none⟩=some (.bool false):=x2.out.cell 0;have r1:w2.cell? ⟨w.heap.size,1,none⟩=some (.int .i64 0):=x2.out.cell 1;have r2:w2.cell? ⟨w.heap.size,2,none⟩=some (.int .i64 0):=x2.out.cell 2;obtain⟨f0,f1,f2⟩:=qq x2.out;clear hb2 hv h5;simp only[E8,Ce,F9,Nat.reduceAdd]at h3 |-;have w1:IntKind.i64.wrap ((x:Int)-(y:Int))=(x:Int)-(y:Int):=by rw[U0 _ ⟨by omega,by omega⟩]
 go_wp2_with fail
 all_goals
  go_loop [12,41] (fun v i=>(v=.int .i64 (x:Nat)/\i=.int .i64 0)\/(v=.int .i64 ((x:Int)-(y:Int))/\i=.int .i64 1)) (fun _ i=>1-(intOf i).toNat)
  case atStart=>exact .inl ⟨rfl,rfl⟩
  case round=>
   rcases hrel with ⟨rfl,rfl⟩ | ⟨rfl,rfl⟩
   .go_wp2_with fail;go_round
    case rel=>exact .inr ⟨rfl,rfl⟩
    case measure=>simp[intOf]
   .go_wp2_with fail;have s3:=((x2.out.set 0 (.bool true)).set 1 (.int .i64 ((x:Int)-(y:Int)))).set 2 (.int .i64 (p:Nat));obtain⟨k0,k1,k2⟩:=qz s3;refine C7 (v:=.tuple #[.agg #[.bool true,.int .i64 ((x:Int)-(y:Int)),.int .i64 (p:Nat)],.int .i64 0]) (by simp[results,Mv,go_sem,k0,k1,k2]) rfl ⟨rfl,?_⟩;exact ((b2.out.setCell nr _).setCell nr _).setCell nr _
def d3 (t:Bool×Int×Int):Value:=.agg #[.bool t.1,.int .i64 t.2.1,.int .i64 t.2.2]
def c1B (N D:Nat)(l:List UInt8):Bool×Int×Int:=match s1 N D l 0 0 with
 | none=>(false,0,(l.length:Nat))
 | some (x,p)=>(true,(x:Nat),(p:Nat))
def z0T (N D:Nat)(l:List UInt8):Bool×Int×Int:=match s1 N D l 0 0 with
 | none=>(false,0,(l.length:Nat))
 | some (x,p)=>match s1 N D l p 0 with
  | none=>(false,0,(l.length:Nat))
  | some (y,q)=>(true,(x:Int)-(y:Int),(q:Nat))
def oT (a b:ByteArray):Bool×Int×Int:=if gE a b=0 then c1B (bN (cW a)) (bN (qD a)) b.data.toList else (false,0,0)
def wT (a b:ByteArray):Bool×Int×Int:=if gE a b=0 then z0T (bN (cW a)) (bN (qD a)) b.data.toList else (false,0,0)
def c0N {b:ByteArray}(h:c0D b=0):b.size<=256:=by
 have h5:=(d0u h 0).2.1;have h6:=a0A (b.extract 0 b.size);have h7:=(d0u h 0).2.2;rw[h5,K9,a0A]at h6;omega
def y0S (w:World)(a b:ByteArray)(ha:a.size<=100000)(hb:b.size<=100000)(hL:Lay w):
 qb 136 #[.string a,.string b,.int .i64 1] w (.tuple #[d3 (oT a b),.int .i64 (gE a b)]):=by
 by_cases he:gE a b=0
 .have hs:=c0N (d0A he).2;have hND:=(b0R (d0A he).1).2;have hl:b.data.toList.length=b.size:=a0A b;have h1:=k0y hND (l:=b.data.toList) b.data.toList.length 0 [] 0 (K5 _) (by omega);rw[oT,J3 he,c1B,he];cases hS:s1 (bN (cW a)) (bN (qD a)) b.data.toList 0 0 with
  | none=>
   rw[hS]at h1;refine (e0E w a b 1 (by omega) (by omega) ha hb he hL h1).mono fun e w' h=>?_
   rw[h.1];exact⟨by rw[hl];rfl,h.2⟩
  | some y=>
   obtain⟨x,p⟩:=y;rw[hS]at h1;have h2:=o0Z hND b.data.toList.length 0 0 x p (K5 _) (by omega) hS;exact p0H w a b x p (by omega) (by omega) ha hb he hL h1
 .rw[oT,J2 he];exact i0E w a b 1 ha hb he hL
def y0R (w:World)(a b:ByteArray)(ha:a.size<=100000)(hb:b.size<=100000)(hL:Lay w):
 qb 136 #[.string a,.string b,.int .i64 2] w (.tuple #[d3 (wT a b),.int .i64 (gE a b)]):=by
 by_cases he:gE a b=0
 .have hs:=c0N (d0A he).2;have hND:=(b0R (d0A he).1).2;have hl:b.data.toList.length=b.size:=a0A b;have h1:=a1p hND (l:=b.data.toList) b.data.toList.length 0 [] 0 (K5 _) (by omega);rw[wT,J3 he,z0T,he];cases hS:s1 (bN (cW a)) (bN (qD a)) b.data.toList 0 0 with
  | none=>
   rw[hS]at h1;refine (e0E w a b 2 (by omega) (by omega) ha hb he hL h1).mono fun e w' h=>?_
   rw[h.1];exact⟨by rw[hl];rfl,h.2⟩
  | some y=>
   obtain⟨x,p⟩:=y;rw[hS]at h1;have h2:=o0Z hND b.data.toList.length 0 0 x p (Nat.zero_le _) (by omega) hS;have h3:=k0y hND (l:=b.data.toList) b.data.toList.length p ([] ++ [x]) 0 h2.2.1 (by omega);dsimp only at h1 |-;rw[h3]at h1;cases hT:s1 (bN (cW a)) (bN (qD a)) b.data.toList p 0 with
   | none=>
    rw[hT]at h1;refine (e0E w a b 2 (by omega) (by omega) ha hb he hL h1).mono fun e w' h=>?_
    rw[h.1];exact⟨by rw[hl];rfl,h.2⟩
   | some z=>
    obtain⟨y,q⟩:=z;rw[hT]at h1;have h4:=o0Z hND b.data.toList.length p 0 y q h2.2.1 (by omega) hT;exact p0G w a b x y q (by omega) (by omega) (by omega) ha hb he hL h1
 .rw[wT,J2 he];exact i0E w a b 2 ha hb he hL
def c1U (w:World)(a b:ByteArray)(ha:a.size<=100000)(hb:b.size<=100000)(hL:Lay w):
 qb 133 #[.string a,.string b] w (.tuple #[d3 (oT a b),.int .i64 (gE a b)]):=by
 have HC:=fun V hV=>hid (y0S V a b ha hb hV)
 obtain⟨t,ht⟩:=gn (oT a b);obtain⟨x,hx⟩:=gn (gE a b);rw[ht,hx]at HC;rw[ht,hx];obtain⟨d,v,u⟩:=t;simp only[d3]at HC;obtain⟨HL,b0,x0⟩:=zg hL ((J4 w.heap.size w).alloc nr (.cells #[.bool false,.int .i64 0,.int .i64 0] 62)) (Blk.new w #[.bool false,.int .i64 0,.int .i64 0] 62);clear ha hb hL hx ht;go_enter func133,ntmps133;go_wp2_with fail;refine ny (HC _ (HL.out.call b0.out)) fun w2 hb2=>?_;have b2:=qx b0 hb2;have x2:=hid (x0.out.call hb2);have r0:w2.cell? ⟨w.heap.size,0,none⟩=some (.bool false):=x2.out.cell 0;have r1:w2.cell? ⟨w.heap.size,1,none⟩=some (.int .i64 0):=x2.out.cell 1;have r2:w2.cell? ⟨w.heap.size,2,none⟩=some (.int .i64 0):=x2.out.cell 2;obtain⟨f0,f1,f2⟩:=qq x2.out;clear hb2;go_wp2_with fail;have s3:=((x2.out.set 0 (.bool d)).set 1 (.int .i64 v)).set 2 (.int .i64 u);obtain⟨k0,k1,k2⟩:=qz s3;refine C7 (v:=.tuple #[.agg #[.bool d,.int .i64 v,.int .i64 u],.int .i64 x]) (by simp[results,results133,go_sem,k0,k1,k2]) rfl ⟨rfl,?_⟩;exact ((b2.out.setCell nr _).setCell nr _).setCell nr _
def b1D (w:World)(a b:ByteArray)(ha:a.size<=100000)(hb:b.size<=100000)(hL:Lay w):
 qb 44 #[.string a,.string b] w (.tuple #[d3 (wT a b),.int .i64 (gE a b)]):=by
 have HC:=fun V hV=>hid (y0R V a b ha hb hV)
 obtain⟨t,ht⟩:=gn (wT a b);obtain⟨x,hx⟩:=gn (gE a b);rw[ht,hx]at HC;rw[ht,hx];obtain⟨d,v,u⟩:=t;simp only[d3]at HC;obtain⟨HL,b0,x0⟩:=zg hL ((J4 w.heap.size w).alloc nr (.cells #[.bool false,.int .i64 0,.int .i64 0] 62)) (Blk.new w #[.bool false,.int .i64 0,.int .i64 0] 62);clear ha hb hL hx ht;go_enter func44,ntmps44;go_wp2_with fail;refine ny (HC _ (HL.out.call b0.out)) fun w2 hb2=>?_;have b2:=qx b0 hb2;have x2:=hid (x0.out.call hb2);have r0:w2.cell? ⟨w.heap.size,0,none⟩=some (.bool false):=x2.out.cell 0;have r1:w2.cell? ⟨w.heap.size,1,none⟩=some (.int .i64 0):=x2.out.cell 1;have r2:w2.cell? ⟨w.heap.size,2,none⟩=some (.int .i64 0):=x2.out.cell 2;obtain⟨f0,f1,f2⟩:=qq x2.out;clear hb2;go_wp2_with fail;have s3:=((x2.out.set 0 (.bool d)).set 1 (.int .i64 v)).set 2 (.int .i64 u);obtain⟨k0,k1,k2⟩:=qz s3;refine C7 (v:=.tuple #[.agg #[.bool d,.int .i64 v,.int .i64 u],.int .i64 x]) (by simp[results,results44,go_sem,k0,k1,k2]) rfl ⟨rfl,?_⟩;exact ((b2.out.setCell nr _).setCell nr _).setCell nr _
end
def p0x (n:Nat)(hn:n<=100000000)(W:World):(Instr.makeSlice 210 (.int .i64 (n:Int)) (.int .i64 (n:Int))).run prog W=.ok (.slice (some ⟨W.heap.size,0,none⟩) n n) (W.alloc (.cells (madeCells #[.int .u8 0] n) 5)):=
 Mf (P:=prog) 210 5 (.int .u8 0) 1 Dl (by kernel_rfl) rfl .i64 .i64 n (by omega) (by omega) W
def j0o (w:World)(v:Value)(h:IsN .i64 w v 0):qb 154 #[v] w (t0K 0):=by
 obtain⟨a,c,rfl,_⟩:=h.openI;have hl:(limbs 0).length=0:=by rw[limbs_zero];rfl
 rw[hl];have e:t0K 0=.string ⟨#[48]⟩:=by rw[t0K,c0f]
 have E:=hid e;clear h hl e;go_enter func154,ntmps154;go_wp2_with fail;go_ret
 exact⟨by rw[E.out];rfl,J4 _ _⟩
def k0S (w:World)(v:Value)(n:Nat)(h:IsN .i64 w v n)(h0:0<n)(hl:(limbs n).length<=1000000):qb 154 #[v] w (t0K n):=by
 obtain⟨a,c,rfl,h1,h2,h3⟩:=h.openI;have H3:=hid h3;clear h3 h;obtain⟨L,hL⟩:=gn ((limbs n).length);have hLp:0<L:=by rw[<- hL];exact Gp.2 (fun e=>by have:=b0Y.1 e;omega)
 rw[hL]at h1 hl |-;have HL:=hid hL;clear hL;have q0:((L:Int)==0)=false:=by simp;omega
 have hmk:∀ W:World,(Instr.makeSlice 210 (.int .i64 (9*(L:Int))) (.int .i64 (9*(L:Int)))).run prog W=.ok (.slice (some ⟨W.heap.size,0,none⟩) (9*L) (9*L)) (W.alloc (.cells (madeCells #[.int .u8 0] (9*L)) 5)):=fun W=>by
  have:=p0x (9*L) (by omega) W;rwa[Bp]at this
 go_enter func154,ntmps154;go_wp2_with fail;clear hmk q0
 go_loopw [4,5,6] (fun ii nn kk wr=>∃ (i:Nat) (bs:List UInt8),ii=.int .i64 i/\i<=L/\Hid (WrI n i bs)/\Hid (BArr 5 wr w.heap.size bs)/\Hid (Below w.heap.size w wr)) (fun ii _ _ _=>L-(intOf ii).toNat)
 case atStart=>exact⟨0,_,rfl,K5 _,WrI.start n,by rw[HL.out];exact BArr.made w 5 (9*L),br0.alloc nr _⟩
 case round=>
  obtain⟨i,bs,rfl,hi,hW,hO,hB⟩:=hrel;by_cases hlt:i<L
  .obtain⟨x,hx⟩:∃ x,(limbs n)[L-1-i]?=some x:=⟨_,Q0 (by rw[HL.out];omega)⟩;obtain⟨g,o,rfl,hg,hc⟩:=H3.out _ x hx;have d1:=(hB.out.cell (p:=⟨g,o+(L-1-i),none⟩) hg).trans hc;have hxl:=(a0o n).get hx;have HX:=hid hx;clear hx hc;go_wp2_with fail
   go_loopw [5,6] (fun nn kk wq=>∃ (k y:Nat) (t:Int) (bs:List UInt8),nn=.int .i64 y/\kk=.int .i64 t/\t=(k:Int)-1/\k<=9/\y<1000000000/\Hid (WrJ n i x k y bs)/\Hid (BArr 5 wq w.heap.size bs)/\Hid (Below w.heap.size w wq)) (fun _ kk _=>(intOf kk+1).toNat)
   case atStart=>exact⟨9,x,_,bs,rfl,rfl,by omega,by omega,hxl,hW.out.enter,hO,hB⟩
   case round=>
    obtain⟨k,y,t,bs2,rfl,rfl,ht,hk,hy,hJ,hO2,hB2⟩:=hrel;have hbl:=hid (show bs2.length=9*L from by rw[hJ.out.len,HL.out]);cases k with
    | zero=>
     obtain rfl:t = -1:=by omega
     clear ht;have HN:=hid (hJ.out.leave (by rw[HL.out];exact HX.out) (by rw[HL.out];exact hlt));go_wp2_with fail;go_roundw
     case rel=>exact⟨i+1,bs2,by go_num,by omega,HN,hO2,hB2⟩
     case measure=>simp[intOf]<;>omega
    | succ k=>
     obtain rfl:t=(k:Int):=by omega
     clear ht;have HN:=hid (hJ.out.next (by omega) (by rw[HL.out];exact hlt));obtain⟨z,hz⟩:∃ z,bs2[9*i+k]?=some z:=⟨_,Q0 (by rw[hbl.out];omega)⟩;have d3:=hO2.out.cell hz;have d4:=hO2.out.free (9*i+k);clear hz;go_wp2_with fail;go_roundw
     case rel=>
      refine⟨k,y / 10,_,bs2.set (9*i+k) (UInt8.ofNat (48+y%10)),by go_num,rfl,by omega,by omega,by omega,HN,?_,a0X hB2.out nr _⟩;have hz:(48+(y:Int)%10)=((UInt8.ofNat (48+y%10)).toNat:Int):=by rw[b0z (by omega)];omega
      rw[hz];exact hO2.out.set _ _
     case measure=>simp[intOf]<;>omega
  .obtain rfl:i=L:=by omega
   obtain⟨hdig,hval⟩:=WrI.done (by have:=hW.out;rw[<- HL.out]at this;exact this);obtain⟨HD,HV,hbl⟩:=zg hdig hval (show bs.length=9*i from by rw[hW.out.len,HL.out]);clear hdig hval;go_wp2_with fail
   go_loop [3] (fun b=>∃ r:Nat,r+1<=9*i/\b=.slice (some ⟨w.heap.size,r,none⟩) (9*i-r) (9*i-r)/\Hid (dv (bs.drop r)=n)) (fun b=>match b with | .slice _ m _=>m | _=>0)
   case atStart=>exact⟨0,by omega,rfl,by rw[Hid,K9];exact HV.out⟩
   case round=>
    obtain⟨r,hr,rfl,hv⟩:=hrel;obtain⟨z,hz⟩:∃ z,bs[r]?=some z:=⟨_,Q0 (by rw[hbl.out];omega)⟩;have d3:=hO.out.cell hz;obtain⟨m,hm⟩:∃ m,m=9*i-r:=⟨_,rfl⟩;rw[<- hm];have hm1:1<=m:=by omega
    have hm9:m<=9000000:=by omega
    have HM:=hid hm;by_cases hgo:1<m/\z=48
    .obtain⟨g1,rfl⟩:=hgo;have q1:decide ((1:Int)<(m:Int))=true:=by simp;omega
     have HN:=hid (l0v hz);clear hz hm;go_wp2_with fail;go_round
     case rel=>exact⟨r+1,by have:=HM.out;omega,by rw[show 9*i-(r+1)=m-1 by have:=HM.out;omega],by rw[Hid,HN.out];exact hv.out⟩
     case measure=>simp;omega
    .have hfin:=hid (o0Q HD.out hv.out (by rw[hbl.out];omega) (by
      rw[hbl.out];by_cases h1:1<m
      .right
       rw[hz];intro e;injection e with e
       exact hgo ⟨h1,e⟩
      .left;omega))
     have hcv:(convert 210 9 (.slice (some ⟨w.heap.size,r,none⟩) m m)).run prog wr=.ok (t0K n) wr:=by
      have hlen:(bs.drop r).length=m:=by rw[Af,hbl.out,hm]
      have:=Go.run_convert_bytes_back (P:=prog) wr 210 9 5 ⟨w.heap.size,r,none⟩ m (bs.drop r) Dl Bx Ax (fun j hj=>by
       rw[Addr.add_lit];refine hO.out.cell ?_;have h2:r+j<bs.length:=by rw[hlen]at hj;rw[hbl.out];omega
       rw[Q0 h2,List.getElem_drop])
      rw[hlen,hfin.out]at this;exact this
     by_cases h1:1<m
     .have q1:decide ((1:Int)<(m:Int))=true:=by simp;omega
      have q2:((z.toNat:Int)==48)=false:=by
       rw[M5];intro e;refine hgo ⟨h1,?_⟩;have:z.toNat=(48:UInt8).toNat:=by simp;omega
       exact Fa.1 this
      clear hz hm hgo h1;go_wp2_with fail;go_ret
      exact⟨rfl,hB.out⟩
     .obtain rfl:m=1:=by omega
      clear hz hm hgo h1;go_wp2_with fail;go_ret
      exact⟨rfl,hB.out⟩
def Lp:=@Go.ByteArray.toList_eq
def g0D (w:World)(s:ByteArray)(hs:s.size<=9223372036854775807):Calls prog 243 #[.string s] w fun e w'=>e=.returned (.int .i64 (c0i s.data.toList))/\w=w':=by
 have hsl:=hid (show s.data.toList.length=s.size from by simp);by_cases h0:s.size=0
 .have hnil:s.data.toList = []:=Aw (by rw[hsl.out,h0]);obtain rfl:s=⟨#[]⟩:=by
   cases s with
   | mk d=>simp at hnil;rw[hnil]
  clear hsl h0 hnil hs;go_enter func243,ntmps243;go_wp2_with fail;go_ret
  exact⟨a0R (by rw[f0v];exact fun h=>h.1 rfl),rfl⟩
 .have hpos:0<s.size:=by omega
  have hne:s.data.toList.isEmpty=false:=by
   rw[List.isEmpty_eq_false_iff];intro e;have:=hsl.out;rw[e]at this;simp at this;omega
  have hn2:s.toList.isEmpty=false:=by rw[Lp];exact hne
  have hb0:=hid (c0O hpos);clear hne;by_cases hz:s[0]=48/\1<s.size
  .have q1:((s[0].toNat:Int)==48)=true:=by rw[hz.1];rfl
   have q2:decide ((1:Int)<(s.size:Int))=true:=by simp;omega
   have hbad:=hid (show ¬ d0c s.data.toList from fun h=>by
    rcases h.2.1 with h1 | h1
    .have:=congrArg List.length h1;rw[hsl.out]at this;simp at this;omega
    .rw[List.head?_eq_getElem?,hb0.out,hz.1]at h1;exact h1 rfl)
   clear hz;go_enter func243,ntmps243;go_wp2_with fail;go_ret
   exact⟨a0R (by rw[f0v hbad.out]),rfl⟩
  .have hform:allDig s.data.toList->d0c s.data.toList:=fun hd=>by
    refine⟨fun e=>by have:=hsl.out;rw[e]at this;simp at this;omega,?_,hd⟩;by_cases h48:s[0]=48
    .left
     have h1:s.data.toList.length=1:=by
      have:¬ 1<s.size:=fun h=>hz ⟨h48,h⟩
      rw[hsl.out];omega
     match hm:s.data.toList,h1 with
     | [c],_=>
      have:=hb0.out;rw[hm]at this;simp at this;rw[this,h48]
    .right
     rw[List.head?_eq_getElem?,hb0.out];simpa using h48
   have HF:=hid hform;have hI:(((s[0].toNat:Int)==48)=false/\decide ((1:Int)<(s.size:Int))=decide ((1:Int)<(s.size:Int)))\/(((s[0].toNat:Int)==48)=true/\decide ((1:Int)<(s.size:Int))=false):=by
    by_cases h48:s[0]=48
    .right
     have:¬ 1<s.size:=fun h=>hz ⟨h48,h⟩
     refine⟨by rw[h48];rfl,by simp;omega⟩
    .left
     refine⟨?_,rfl⟩;rw[M5];intro e;refine h48 ?_;have:s[0].toNat=(48:UInt8).toNat:=by simp;omega
     exact Fa.1 this
   clear hform hz;rcases hI with ⟨q1,-⟩ | ⟨q1,q2⟩
   all_goals
    go_enter func243,ntmps243;go_wp2_with fail;clear q1
    go_loop [3] (fun ii=>∃ i:Nat,ii=.int .i64 i/\i<=s.size/\Hid (∀ (j:Nat) (b:UInt8),j<i->s.data.toList[j]?=some b->i0c b=true)) (fun ii=>s.size-(intOf ii).toNat)
    case atStart=>exact⟨0,rfl,K5 _,fun j b hj=>absurd hj (by omega)⟩
    case round=>
     obtain⟨i,rfl,hi,hI⟩:=hrel;by_cases hlt:i<s.size
     .have hb:=hid (c0O hlt);have hbad:¬ i0c s[i]=true->¬ d0c s.data.toList:=fun h hf=>h (hf.2.2 _ (U7 hb.out))
      by_cases c1:s[i].toNat<48
      .have q1:decide ((s[i].toNat:Int)<48)=true:=by simp;omega
       have hB:=hid (hbad (fun e=>by have:=a0U.1 e;omega));clear hbad c1;go_wp2_with fail;go_ret
       exact⟨a0R (by rw[f0v hB.out]),rfl⟩
      .by_cases c2:57<s[i].toNat
       .have q1:decide ((s[i].toNat:Int)<48)=false:=by simp;omega
        have q2:decide ((57:Int)<(s[i].toNat:Int))=true:=by simp;omega
        have hB:=hid (hbad (fun e=>by have:=a0U.1 e;omega));clear hbad c1 c2;go_wp2_with fail;go_ret
        exact⟨a0R (by rw[f0v hB.out]),rfl⟩
       .have q1:decide ((s[i].toNat:Int)<48)=false:=by simp;omega
        have q2:decide ((57:Int)<(s[i].toNat:Int))=false:=by simp;omega
        have hD:=hid (a0U.2 (show 48<=s[i].toNat/\s[i].toNat<=57 by omega));clear hbad c1 c2;go_wp2_with fail;go_round
        case rel=>exact⟨i+1,by go_num,by omega,fun j b hj hjb=>by
         by_cases e:j=i
         .subst e;have:=hb.out;rw[hjb]at this;cases this;exact hD.out
         .exact hI.out j b (by omega) hjb⟩
        case measure=>simp[intOf]<;>omega
     .obtain rfl:i=s.size:=by omega
      have hF:=hid (HF.out fun b hb=>by
       obtain⟨j,hj⟩:=Bi hb;exact hI.out j b (by have:=(U4.1 hj).1;rw[hsl.out]at this;exact this) hj)
      by_cases hlong:4000<s.size
      .have q3:decide ((4000:Int)<(s.size:Int))=true:=by simp;omega
       have HL:=hid hlong;clear hlong;go_wp2_with fail;go_ret
       exact⟨a0R (by rw[l0q hF.out (by rw[hsl.out];exact HL.out)]),rfl⟩
      .have q3:decide ((4000:Int)<(s.size:Int))=false:=by simp;omega
       have HL:=hid hlong;clear hlong;go_wp2_with fail;go_ret
       exact⟨a0R (by rw[f0V hF.out (by rw[hsl.out];exact HL.out)]),rfl⟩
def f0e (w:World)(s:ByteArray)(hs:s.size<=9223372036854775807):Calls prog 173 #[.string s] w fun e w'=>
 e=.returned (.bool (d0e s.data.toList))/\w=w':=by
 by_cases hf:d0e s.data.toList=true
 .by_cases hl:4000<s.data.toList.length
  .have H5:=hid (show c0i s.data.toList=5 from by rw[c0i,J3 hf,J3 hl]);rw[hf];clear hf hl;go_enter func173,ntmps173;go_wp2_with fail;refine (g0D _ s hs).mono ?_;rintro e w1 ⟨rfl,rfl⟩;rw[H5.out];go_wp2_with fail;go_ret
   exact⟨rfl,rfl⟩
  .have H5:=hid (show c0i s.data.toList=0 from by rw[c0i,J3 hf,J2 hl]);rw[hf];clear hf hl;go_enter func173,ntmps173;go_wp2_with fail;refine (g0D _ s hs).mono ?_;rintro e w1 ⟨rfl,rfl⟩;rw[H5.out];go_wp2_with fail;go_ret
   exact⟨rfl,rfl⟩
 .have H5:=hid (show c0i s.data.toList=3 from by rw[c0i,J2 hf]);have hf':d0e s.data.toList=false:=by simpa using hf
  rw[hf'];clear hf hf';go_enter func173,ntmps173;go_wp2_with fail;refine zv (g0D _ s hs) ?_;rw[H5.out];go_wp2_with fail;go_ret
  exact⟨rfl,rfl⟩
def j0G (l:List UInt8)(k:Nat):Prop:=k<=l.length/\(∀ (j:Nat) (b:UInt8),j<k->l[j]?=some b->b≠47)/\(k<l.length->l[k]?=some 47)
def u0A (w:World)(s:ByteArray)(hs:s.size<=9223372036854775807):Calls prog 171 #[.string s] w fun e w'=>
 (∃ k:Nat,e=.returned (.int .i64 k)/\j0G s.data.toList k)/\w=w':=by
 have hsl:=hid (show s.data.toList.length=s.size from by simp);go_enter func171,ntmps171;go_wp2_with fail
 go_loop [3] (fun ii=>∃ i:Nat,ii=.int .i64 i/\i<=s.size/\Hid (∀ (j:Nat) (b:UInt8),j<i->s.data.toList[j]?=some b->b≠47)) (fun ii=>s.size-(intOf ii).toNat)
 case atStart=>exact⟨0,rfl,K5 _,fun j b hj=>absurd hj (by omega)⟩
 case round=>
  obtain⟨i,rfl,hi,hI⟩:=hrel;by_cases hlt:i<s.size
  .have hb:=hid (c0O hlt);by_cases c1:s[i]=47
   .have q1:((s[i].toNat:Int)==47)=true:=by rw[c1];rfl
    have hB:=hid c1;clear c1;go_wp2_with fail;go_ret
    exact⟨⟨i,rfl,by rw[hsl.out];omega,hI.out,fun _=>by rw[hb.out,hB.out]⟩,rfl⟩
   .have q1:((s[i].toNat:Int)==47)=false:=by
     rw[M5];intro e;refine c1 ?_;have:s[i].toNat=(47:UInt8).toNat:=by simp;omega
     exact Fa.1 this
    have hB:=hid c1;clear c1;go_wp2_with fail;go_round
    case rel=>exact⟨i+1,by go_num,by omega,fun j b hj hjb=>by
     by_cases e:j=i
     .subst e;rw[hb.out]at hjb;cases hjb;exact hB.out
     .exact hI.out j b (by omega) hjb⟩
    case measure=>simp[intOf]<;>omega
  .have e1:i=s.size:=by omega
   subst e1;go_wp2_with fail;go_ret
   exact⟨⟨s.size,rfl,by rw[hsl.out];omega,hI.out,fun h=>by rw[hsl.out]at h;omega⟩,rfl⟩
def Mw:=@Go.Proofs.Tryz.results172
def g0s (w:World)(s:ByteArray)(hs:s.size<=9223372036854775807)(h0:0<s.size)(h1:s[0]=45):Calls prog 172 #[.string s] w fun e w'=>
 e=.returned (.tuple #[.bool true,.string (s.extract 1 s.size),.bool (d0e (s.extract 1 s.size).data.toList && !decide ((s.extract 1 s.size).data.toList = [48]))])/\w=w':=by
 have q1:((s[0].toNat:Int)==45)=true:=by rw[h1];rfl
 clear h1;have hts:(s.extract 1 s.size).size<=9223372036854775807:=by simp;omega
 obtain⟨t,ht⟩:=gn (s.extract 1 s.size);rw[ht]at hts |-;have HT:=hid ht;obtain⟨f,hf⟩:=gn (d0e t.data.toList);rw[hf];have HF:=hid hf;clear ht hf;go_enter func172,ntmps172;go_wp2_with fail;rw[HT.out];refine zv (f0e _ t hts) ?_;rw[HF.out];cases f
 .go_wp2_with fail;exact C7 (v:=.tuple #[.bool true,.string t,.bool false]) (by simp[results,Mw,go_sem]) rfl ⟨by simp,rfl⟩
 .go_wp2_with fail;refine C7 (v:=.tuple #[.bool true,.string t,.bool (!(t.toList == [48]))]) (by simp[results,Mw,go_sem]) rfl ⟨?_,rfl⟩;rw[Lp];simp;exact Bk.2 (by simp)
def g0r (w:World)(s:ByteArray)(hs:s.size<=9223372036854775807)(h1:∀ h:0<s.size,s[0]≠45):Calls prog 172 #[.string s] w fun e w'=>
 e=.returned (.tuple #[.bool false,.string s,.bool (d0e s.data.toList)])/\w=w':=by
 obtain⟨f,hf⟩:=gn (d0e s.data.toList);rw[hf];have HF:=hid hf;clear hf;by_cases h0:0<s.size
 .have q1:((s[0].toNat:Int)==45)=false:=by
   rw[M5];intro e;refine h1 h0 ?_;have:s[0].toNat=(45:UInt8).toNat:=by simp;omega
   exact Fa.1 this
  clear h1;go_enter func172,ntmps172;go_wp2_with fail;refine (f0e _ s hs).mono ?_;rintro e w1 ⟨rfl,rfl⟩;rw[HF.out];cases f
  all_goals
   go_wp2_with fail;exact C7 (v:=.tuple #[.bool false,.string s,.bool _]) (by simp[results,Mw,go_sem]) rfl ⟨rfl,rfl⟩
 .obtain rfl:s=⟨#[]⟩:=by
   apply Kc
   exact Array.eq_empty_of_size_eq_zero (by have:s.data.size=s.size:=rfl;omega)
  clear h1 h0 hs;go_enter func172,ntmps172;go_wp2_with fail;refine zv (f0e _ ⟨#[]⟩ (K5 _)) ?_;rw[HF.out];cases f
  all_goals
   go_wp2_with fail;exact C7 (v:=.tuple #[.bool false,.string ⟨#[]⟩,.bool _]) (by simp[results,Mw,go_sem]) rfl ⟨rfl,rfl⟩
def m0Y {a b:ByteArray}:a.data.toList=b.data.toList↔a=b:=⟨b0f,fun e=>by rw[e]⟩
def i0r (w:World)(s:ByteArray)(hs:s.size<=9223372036854775807):Calls prog 172 #[.string s] w fun e w'=>
 e=.returned (.tuple #[.bool (iM s),.string (iD s),.bool (iB s)])/\w=w':=by
 have hl:s.data.toList.length=s.size:=by simp
 by_cases h:∃ h0:0<s.size,s[0]=45
 .obtain⟨h0,h1⟩:=h;have hg:=c0O h0;rw[h1]at hg;obtain⟨t,ht⟩:∃ t,s.data.toList=45::t:=by
   cases hc:s.data.toList with
   | nil=>rw[hc]at hg;simp at hg
   | cons b t=>rw[hc]at hg;simp at hg;exact⟨t,by rw[hg]⟩
  have hM:iM s=true:=by unfold iM Lib.hasPrefix;rw[ht];simp[List.isPrefixOf]
  have hD:iD s=s.extract 1 s.size:=by
   apply b0f
   rw[a0J,ht];unfold iD Lib.trimPrefix;rw[show Lib.hasPrefix s.data.toList [45]=true from hM,ht];have:s.size=t.length+1:=by rw[<- hl,ht];simp
   simp[this]
  have H:=g0s w s hs h0 h1;rw[<- hD]at H;have e:iB s=(d0e (iD s).data.toList && !decide ((iD s).data.toList = [48])):=by
   unfold iB fB;rw[hM,Dn];have:decide (iD s=⟨#[48]⟩)=decide ((iD s).data.toList = [48]):=Gc.2 (by rw[<- m0Y]);rw[this]
  rw[hM,e];exact H
 .have h1:∀ h:0<s.size,s[0]≠45:=fun h0 e=>h ⟨h0,e⟩
  have hM:iM s=false:=by
   unfold iM Lib.hasPrefix;cases hc:s.data.toList with
   | nil=>rfl
   | cons b t=>
    have h0:0<s.size:=by rw[<- hl,hc];simp
    have hg:=c0O h0;rw[hc]at hg;simp at hg;have h3:((45:UInt8)==b)=false:=by rw[M5,hg];exact fun e=>h1 h0 e.symm
    simp[List.isPrefixOf,h3]
  have hD:iD s=s:=by
   apply b0f
   unfold iD Lib.trimPrefix;rw[show Lib.hasPrefix s.data.toList [45]=false from hM];simp
  have H:=g0r w s hs h1;have e:iB s=d0e s.data.toList:=by unfold iB fB;rw[hM,hD];simp
  rw[hM,hD,e];exact H
def Hq:=@Nat.lt_irrefl
def Ei:=@List.take_length
def k0C {s:ByteArray}{k:Nat}(h:j0G s.data.toList k):k<=s.size/\cW s=s.extract 0 k/\cS s=decide (k<s.size)/\(k<s.size->cB s=s.extract (k+1) s.size):=by
 obtain⟨h1,h2,h3⟩:=h;have hl:s.data.toList.length=s.size:=by simp
 rcases g0z s.data.toList with hn | ⟨A,B,hA,e⟩
 .have hk:k=s.size:=by
   rcases Ct k s.data.toList.length with hlt | hge
   .exact absurd rfl (hn 47 (U7 (h3 hlt)))
   .omega
  have hc:=j0Z hn;subst hk;refine⟨O4 _,?_,?_,fun h=>absurd h (Hq _)⟩
  .apply b0f;rw[a0J];unfold cW;rw[hc,K9,Nl,<- hl,Ei]
  .unfold cS;rw[hc];simp
 .have hL:s.data.toList.length=A.length+1+B.length:=by rw[e];simp;omega
  have hk:k=A.length:=by
   rcases Fk k A.length with hlt | heq | hgt
   .have:=h3 (by omega);rw[e,As hlt]at this;exact absurd rfl (hA 47 (U7 this))
   .exact heq
   .exact absurd rfl (h2 A.length 47 hgt (by rw[e];simp))
  have hc:=t0h (r:=B) hA;rw[<- e]at hc;subst hk;refine⟨by omega,?_,?_,fun _=>?_⟩
  .apply b0f;rw[a0J,e];unfold cW;rw[hc];simp
  .unfold cS;rw[hc];simp;omega
  .apply b0f;rw[a0J];unfold cB;rw[hc]
   have:s.size-(A.length+1)=B.length:=by omega
   rw[this,e,show A++47::B=(A ++ [47])++B by simp,List.drop_left' (by simp),Ei]
def b0k (w:World)(v u:Value)(a b:Nat)(ha:IsN .i64 w v a)(hb:IsN .i64 w u b):
 qb 137 #[v,u] w (.int .i64 (b0g a b)):=by
 obtain⟨a1,c1,rfl,h1,h2,h3⟩:=ha.openI;obtain⟨a2,c2,rfl,k1,k2,k3⟩:=hb.openI;obtain⟨H3,K3⟩:=zu h3 k3;clear h3 k3 ha hb;by_cases hne:(limbs a).length=(limbs b).length
 .obtain⟨n,ea⟩:=gn ((limbs a).length);have eb:(limbs b).length=n:=hne.symm.trans ea;rw[ea]at h1 |-;rw[eb]at k1 |-;obtain⟨HA,HB⟩:=zu ea eb;clear hne ea eb;go_enter func137,ntmps137;go_wp2_with fail
  go_loopw [5] (fun i wr=>∃ (k:Nat) (t:Int),k<=n/\i=.int .i64 t/\t=(k:Int)-1/\Hid ((limbs a).drop k=(limbs b).drop k)/\Hid (Below w.heap.size w wr)) (fun i _=>(intOf i+1).toNat)
  case atStart=>exact⟨n,_,O4 _,rfl,rfl,by rw[Hid,Cj (by rw[HA.out];exact O4 _),Cj (by rw[HB.out];exact O4 _)],J4 _ _⟩
  case round=>
   obtain⟨k,t,hk,rfl,ht,hd,hB⟩:=hrel;cases k with
   | zero=>
    obtain rfl:t = -1:=by omega
    clear ht;go_wp2_with fail;go_ret
    have:a=b:=f0p hd.out;subst this;exact⟨a0R c0P.symm,hB.out⟩
   | succ k=>
    obtain rfl:t=(k:Int):=by omega
    clear ht;obtain⟨x,hx⟩:∃ x,(limbs a)[k]?=some x:=⟨_,Q0 (by rw[HA.out];omega)⟩;obtain⟨y,hy⟩:∃ y,(limbs b)[k]?=some y:=⟨_,Q0 (by rw[HB.out];omega)⟩;obtain⟨g,o,rfl,hg,hc⟩:=H3.out k x hx;obtain⟨g',o',rfl,hg',hc'⟩:=K3.out k y hy;have d1:=(hB.out.cell (p:=⟨g,o+k,none⟩) hg).trans hc;have d2:=(hB.out.cell (p:=⟨g',o'+k,none⟩) hg').trans hc';obtain⟨HX,HY⟩:=zu hx hy;clear hx hy hc hc';have b1:=qw k
    have b2:(k:Int)<(n:Int):=by omega
    rcases Fk x y with hlt | heq | hgt
    .have q1:decide (x<y)=true:=by simpa using hlt
     go_wp2_with fail;go_quiet (fail)
     go_wp2_with fail;go_ret
     exact⟨a0R (b0N (f0l (HA.out.trans HB.out.symm) HX.out HY.out hd.out hlt)).symm,a0k hB.out _⟩
    .have q1:decide (x<y)=false:=by simp;omega
     go_wp2_with fail;go_quiet (fail)
     go_wp2_with fail;go_quiet (fail)
     go_wp2_with fail;go_roundw
     case rel=>exact⟨k,_,by omega,rfl,rfl,g0j HX.out (by rw[HY.out,heq]) hd.out,a0k hB.out _⟩
     case measure=>simp[intOf]<;>omega
    .have q1:decide (x<y)=false:=by simp;omega
     go_wp2_with fail;go_quiet (fail)
     go_wp2_with fail;go_quiet (fail)
     go_wp2_with fail;go_ret
     exact⟨a0R (c0k (f0l (HB.out.trans HA.out.symm) HY.out HX.out hd.out.symm hgt)).symm,a0k (a0k hB.out _) _⟩
 .rcases Nm hne with hlt | hgt
  .have HL:=hid (c0K hlt);have q0:(((limbs a).length:Int) != ((limbs b).length:Int))=true:=by simp;omega
   have q1:decide ((limbs a).length<(limbs b).length)=true:=by simpa using hlt
   clear hne;go_enter func137,ntmps137;go_wp2_with fail;go_ret
   exact⟨a0R (b0N HL.out).symm,J4 _ _⟩
  .have HL:=hid (c0K hgt);have q0:(((limbs a).length:Int) != ((limbs b).length:Int))=true:=by simp;omega
   have q1:decide ((limbs a).length<(limbs b).length)=false:=by simp;omega
   clear hne;go_enter func137,ntmps137;go_wp2_with fail;go_ret
   exact⟨a0R (c0k HL.out).symm,J4 _ _⟩
def Lf:=@Go.Proofs.Tryz.underlying79
def e0d (n:Nat)(hn:n<=3000000)(W:World):(Instr.makeSlice 79 (.int .i64 (n:Int)) (.int .i64 (n:Int))).run prog W=.ok (.slice (some ⟨W.heap.size,0,none⟩) n n) (W.alloc (.cells (madeCells #[.int .i64 0] n) 3)):=
 Mf (P:=prog) 79 3 (.int .i64 0) 8 Lf (by kernel_rfl) rfl .i64 .i64 n (by omega) (by omega) W
def b0n (w:World)(v u:Value)(a b:Nat)(ha:IsN .i64 w v a)(hb:IsN .i64 w u b)(hla:(limbs a).length<=1000000)(hlb:(limbs b).length<=1000000):
 Calls prog 176 #[v,u] w fun e w'=>i0e .i64 (a*b) e w'/\Below w.heap.size w w':=by
 obtain⟨a1,c1,rfl,h1,h2,h3⟩:=ha.openI;obtain⟨a2,c2,rfl,k1,k2,k3⟩:=hb.openI;obtain⟨H3,K3⟩:=zu h3 k3;clear h3 k3 ha hb;obtain⟨n,ea⟩:=gn ((limbs a).length);obtain⟨m,eb⟩:=gn ((limbs b).length);rw[ea]at h1 hla |-;rw[eb]at k1 hlb |-;obtain⟨HA,HB⟩:=zu ea eb;clear ea eb;have hmk:∀ W:World,(Instr.makeSlice 79 (.int .i64 ((n:Int)+m)) (.int .i64 ((n:Int)+m))).run prog W=.ok (.slice (some ⟨W.heap.size,0,none⟩) (n+m) (n+m)) (W.alloc (.cells (madeCells #[.int .i64 0] (n+m)) 3)):=fun W=>by
  have:=e0d (n+m) (by omega) W;rwa[Ee]at this
 go_enter func176,ntmps176;go_wp2_with fail;clear hmk
 go_loopw [6] (fun i wr=>∃ (k:Nat) (o:List Nat),i=.int .i64 k/\k<=n/\Hid (MulI a b k o)/\Hid (Arr .i64 3 wr w.heap.size o)/\Hid (Below w.heap.size w wr)) (fun i _=>n-(intOf i).toNat)
 case atStart=>exact⟨0,_,rfl,K5 _,MulI.start a b,by rw[HA.out,HB.out];exact Arr.made w .i64 3 (n+m),br0.alloc nr _⟩
 case round=>
  obtain⟨i,o,rfl,hin,hM,hO,hB⟩:=hrel;by_cases hlt:i<n
  .obtain⟨x,hx⟩:∃ x,(limbs a)[i]?=some x:=⟨_,Q0 (by rw[HA.out];exact hlt)⟩;obtain⟨g,og,rfl,hg,hc⟩:=H3.out _ x hx;obtain⟨HX,HC⟩:=zu hx hc;clear hx hc;have hsize:=hid (show o.length=n+m from by rw[hM.out.len,HA.out,HB.out]);go_wp2_with fail;obtain⟨wo,rfl⟩:=qu wr
   go_loopw [7,8,9] (fun cc kk nn wq=>∃ (c k:Nat) (o:List Nat),cc=.int .i64 c/\kk=.int .i64 k/\k<=m/\Hid (MulJ a b i x k c o)/\Hid (Arr .i64 3 wq w.heap.size o)/\Hid (Below w.heap.size w wq)) (fun _ kk _ _=>m-(intOf kk).toNat)
   case atStart=>exact⟨0,0,o,rfl,rfl,K5 _,hM.out.enter,hO,hB⟩
   case round=>
    obtain⟨c,k,o,rfl,rfl,hkm,hJ,hO,hB⟩:=hrel;have hsz:Hid (o.length=n+m):=by rw[Hid,hJ.out.len,HA.out,HB.out]
    by_cases hkl:k<m
    .obtain⟨y,hy⟩:∃ y,(limbs b)[k]?=some y:=⟨_,Q0 (by rw[HB.out];exact hkl)⟩;obtain⟨g',og',rfl,hg',hd⟩:=K3.out _ y hy;obtain⟨old,ho⟩:∃ old,o[i+k]?=some old:=⟨_,Q0 (by rw[hsz.out];omega)⟩;have d1:=(hB.out.cell (p:=⟨g,og+i,none⟩) hg).trans HC.out;have d2:=(hB.out.cell (p:=⟨g',og'+k,none⟩) hg').trans hd;have d3:=hO.out.cell ho;have d4:=hO.out.free (i+k);have hb1:=d0G (hJ.out.sm.get ho) ((a0o a).get HX.out) ((a0o b).get hy) hJ.out.c1;have HN:=hid (hJ.out.next HX.out hy ho);have hol:=hJ.out.sm.get ho;have hcl:=hJ.out.c1;have HP:=hid (show ((x:Int)*(y:Int))=((x*y:Nat):Int) from (Bp x y).symm);obtain⟨p,hp⟩:=gn (x*y);rw[hp]at hb1 HN HP;have hb1:=hb1.1;clear hd hy ho hp;have e1:(0:Int)<=(i:Int)+k:=by omega
     have e2:(i:Int)+k<(n:Int)+m:=by omega
     have f1:=qw i
     have f2:(i:Int)<(n:Int):=by omega
     have f3:=qw k
     have f4:(k:Int)<(m:Int):=by omega
     have e3:IntKind.i64.wrap ((i:Int)+k)=(i:Int)+k:=U0 _ (by omega);have e4:((i:Int)+k).toNat=i+k:=by omega
     have e5:IntKind.i64.wrap ((x:Int)*(y:Int))=(p:Int):=by rw[HP.out];exact U0 _ (by omega)
     have e6:IntKind.i64.wrap ((old:Int)+(p:Int))=(old:Int)+(p:Int):=U0 _ (by omega);have e7:IntKind.i64.wrap ((old:Int)+(p:Int)+(c:Int))=(old:Int)+(p:Int)+(c:Int):=U0 _ (by omega);go_wp2_with fail;go_quiet (fail)
     clear e3 e4 e5 e6 e7;go_wp2_with fail;go_roundw
     case rel=>
      have hz:(((old:Int)+p+c)%1000000000)=(((old+p+c)%1000000000:Nat):Int):=by omega
      rw[hz];exact⟨(old+p+c) / 1000000000,k+1,_,by go_num,by go_num,by omega,HN,(hO.out.drewN _).set (i+k) _,a0X (a0k hB.out _) nr _⟩
     case measure=>simp[intOf]<;>omega
    .obtain rfl:k=m:=by omega
     have HJ:=hid (show MulI a b (i+1) (o.set (i+k) c) from by have:=hJ.out;rw[<- HB.out]at this |-;exact this.leave HX.out);obtain⟨z,hz⟩:∃ z,o[i+k]?=some z:=⟨_,Q0 (by rw[hsz.out];omega)⟩;have d3:=hO.out.cell hz;have d4:=hO.out.free (i+k);clear hz;go_wp2_with fail;go_roundw
     case rel=>exact⟨i+1,_,by go_num,by omega,HJ,hO.out.set (i+k) c,a0X hB.out nr _⟩
     case measure=>simp[intOf]<;>omega
  .obtain rfl:i=n:=by omega
   obtain⟨hv,hl⟩:=zu (show val o=a*b from MulI.done (by have:=hM.out;rw[<- HA.out]at this;exact this)) (show o.length=i+m from by rw[hM.out.len,HA.out,HB.out])
   have hr:=hid (show Row wr (.slice (some ⟨w.heap.size,0,none⟩) (i+m) (i+m)) (b0p .i64 o) from by
    have:=hO.out.row (n:=i+m) (c:=i+m) (by rw[hl.out];exact O4 _) nr (by unfold maxLen;omega);rwa[E7 (by rw[hl.out];exact O4 _)]at this)
   go_wp2_with (go_at_call 222;refine (m0k _ _ o hM.out.sm hr.out).mono ?_;rintro e w1 ⟨⟨v1,rfl,hv1⟩,rfl⟩)
   go_ret
   exact⟨⟨v1,rfl,by rw[<- hv.out];exact hv1⟩,hB.out⟩
def e0a (w:World)(s:ByteArray)(hd:allDig s.data.toList)(hs:s.size<=1000000):
 Calls prog 151 #[.string s] w fun e w'=>RetFr w.heap.size .i64 (dv s.data.toList) e w'/\Below w.heap.size w w':=by
 obtain⟨i0,hi,hz0,hz1,hz2⟩:=Dx j0I;have HD:=hid hd;clear hd;have hsl:=hid (show s.data.toList.length=s.size from by simp);go_enter func151,ntmps151;go_wp2_with fail
 go_loopw [3,4,5,6] (fun o ee nn ii wr=>∃ (l:List Nat) (t:Int) (e:Nat),ee=.int .i64 t/\t<=s.size /\ -9<t/\e=t.toNat/\l.length<=s.size/\l.length+e<=s.size/\Hid (ReadI s.data.toList e l)/\Hid (wr.ownsRow w.heap.size 3 1 o l.length (b0p .i64 l))/\Hid (Below w.heap.size w wr))
  (fun _ ee _ _ _=>(intOf ee).toNat)
 case atStart=>exact⟨[],_,s.size,rfl,by omega,by omega,by simp,by simp,by simp,by have:=ReadI.start s.data.toList;rw[hsl.out]at this;exact this,Cq _ _ _ _,J4 _ _⟩
 case round=>
  obtain⟨l,t,e,rfl,ht1,ht2,he,hl1,hl2,hR,hO,hB⟩:=hrel;obtain⟨ao,co,rfl⟩:=b0l hO.out;by_cases h0:e=0
  .have q0:decide ((0:Int)<t)=false:=by simp;omega
   subst h0;have hv:=hid hR.out.done;clear he;go_wp2_with fail;refine (c0V _ _ _ l hR.out.sm (Row.of_owns hO.out)).mono ?_;rintro e w1 ⟨⟨m,rfl,hv1⟩,rfl⟩;go_wp2_with fail;go_ret
   refine⟨⟨_,rfl,by rw[<- hv.out];exact hv1,fun g hg=>(hO.out.lt g ?_).1⟩,hB.out⟩;cases ao with
   | none=>simp[Value.ownBlock]at hg
   | some ad=>simpa[Value.ownBlock]using hg
  .obtain rfl:t=(e:Int):=by omega
   clear he;have q0:decide ((0:Int)<(e:Int))=true:=by simp;omega
   obtain⟨L,hL⟩:=gn (s.data.toList);obtain⟨s0,hs0⟩:∃ s0,s0=e-9:=⟨_,rfl⟩;have HS0:=hid hs0;have h3:s0<=e:=by omega
   have h4:e<=s0+9:=by omega
   have hI:(9<e/\(e:Int)-9=(s0:Int))\/(e<=9/\(0:Int)=(s0:Int)):=by omega
   clear hs0;rcases hI with ⟨h9,hse⟩ | ⟨h9,hse⟩
   all_goals
    have HSE:=hid hse;clear hse;go_wp2_with fail
    go_loop [5,6] (fun nn ii=>∃ (i x:Nat),ii=.int .i64 i/\nn=.int .i64 x/\s0<=i/\i<=e/\x<1000000000/\Hid (x=dv ((L.drop s0).take (i-s0)))) (fun _ ii=>e-(intOf ii).toNat)
    case atStart=>exact⟨s0,0,by have hh:=HSE.out;first | (rw[<- hh];done) | (congr 1;omega),rfl,O4 _,h3,by omega,by simp[Hid]⟩
    case round=>
     obtain⟨i,x,rfl,rfl,hi1,hi2,hx,hxd⟩:=hrel;by_cases hlt:i<e
     .have hsz:i<s.size:=by omega
      have hb:=c0O hsz;rw[hL]at hb;have hdig:=a0U.1 (HD.out s[i] (U7 (by rw[hL];exact hb)));have hd1:=hdig.1;have hd2:=hdig.2;obtain⟨hcs,hlt9⟩:=zu (p0U hb hi1) (o0s (L:=L) (a:=s0) (k:=i+1-s0) (by rw[<- hL];exact HD.out) (by omega));clear hb hdig;go_wp2_with fail;go_round
      case rel=>
       refine⟨i+1,10*x+(s[i].toNat-48),by go_num,?_,by omega,by omega,?_,?_⟩
       .congr 1;omega
       .have:=hlt9.out;rw[hcs.out,<- hxd.out]at this;exact this
       .rw[Hid,hcs.out,<- hxd.out]
      case measure=>simp[intOf]<;>omega
     .obtain rfl:i=e:=by omega
      have HN:=hid (hR.out.next HD.out);rw[hL,<- HS0.out,<- hxd.out]at HN;go_wp2_with (at_builtin;refine Dz _ rfl _ _ 79 rfl w.heap.size 3 i0 (.int .i64 0) 1 8 Lf hi hz0 hz1 hz2 rfl (by decide) _ l.length _ rfl (hO.out.alloc _) ⟨wr.heap.size,0,none⟩ 1 1 [.int .i64 (x:Int)] rfl rfl (Eu wr (.int .i64 (x:Int)) 3) (by simp[Value.oneCell']) (by unfold maxLen;omega) (by omega) (by have:=hB.out.size;simp;omega) ?_;intro v' w3 hown3 hgrow3 _;have HO3:=hid hown3;have HG3:=hid hgrow3;clear hown3 hgrow3)
      obtain⟨n1,n2⟩:=f0k hO.out hB.out HO3.out HG3.out;obtain⟨N1,N2⟩:=zu n1 n2;clear n1 n2 HO3 HG3;obtain⟨a3,k3,rfl⟩:=b0l N1.out;have hS:=HS0.out;go_wp2_with fail;go_roundw
      case rel=>exact⟨l ++ [x],_,s0,rfl,by omega,by omega,by omega,by simp<;>omega,by simp<;>omega,by rw[hL];exact HN,N1,N2⟩
      case measure=>simp[intOf]<;>omega
def x0W (w:World)(s:ByteArray)(hd:allDig s.data.toList)(hs:s.size<=1000000):
 Calls prog 151 #[.string s] w fun e w'=>i0e .i64 (dv s.data.toList) e w'/\Below w.heap.size w w':=(e0a w s hd hs).mono fun e w' h=>⟨h.1.ret,h.2⟩
def a0S (w:World)(v:Value)(n:Nat)(h:IsN .i64 w v n)(hl:(limbs n).length<=1000000):qb 154 #[v] w (t0K n):=by
 rcases H8 n with rfl | h0
 .exact j0o w v h
 .exact k0S w v n h h0 hl
def c0w (w:World)(a:Nat)(h:nDigits a<=9000):Calls prog 151 #[.string (a0f a)] w fun e w'=>i0e .i64 a e w'/\Below w.heap.size w w':=by
 have:=x0W w (a0f a) (by rw[a0t];exact b0F a) (by rw[a0y];omega);rwa[a0t,g0i]at this
def c0H (w:World)(a:Nat)(h:nDigits a<=9000):Calls prog 151 #[.string (a0f a)] w fun e w'=>RetFr w.heap.size .i64 a e w'/\Below w.heap.size w w':=by
 have:=e0a w (a0f a) (by rw[a0t];exact b0F a) (by rw[a0y];omega);rwa[a0t,g0i]at this
def z0P (m:Bool)(B1 B2 T:ByteArray)(x:Int):Prop:=
 (4000<B1.size/\T=⟨#[]⟩/\x=5)\/(B1.size<=4000/\4000<B2.size/\T=⟨#[]⟩/\x=5) \/
 (B1.size<=4000/\B2.size<=4000/\x=0/\((m=false/\B2=⟨#[49]⟩/\T=B1)\/(m=true/\B2=⟨#[49]⟩/\T=⟨#[45]⟩++B1)\/(m=false/\¬ B2=⟨#[49]⟩/\T=B1++⟨#[47]⟩++B2)\/(m=true/\¬ B2=⟨#[49]⟩/\T=⟨#[45]⟩++B1++⟨#[47]⟩++B2)))
def Nv:=@Go.Proofs.Tryz.ntmps73
def j0k (w:World)(m:Bool)(N D:Value)(n d:Nat)(B1 B2 T:ByteArray)(x:Int)(hn:IsN .i64 w N n)(hd:IsN .i64 w D d)(hln:(limbs n).length<=1000000)(hld:(limbs d).length<=1000000)
 (e1:a0f n=B1) (e2:a0f d=B2) (key:z0P m B1 B2 T x):
 qb 73 #[.agg #[.bool m,N,D]] w (.tuple #[.string T,.int .i64 x]):=by
 obtain⟨HN,HD,LN,LD,E1,E2⟩:=zf hn hd hln hld e1 e2;obtain⟨a1,c1,rfl,_⟩:=hn.openI;obtain⟨a2,c2,rfl,_⟩:=hd.openI;obtain⟨k1,hk1⟩:=gn ((limbs n).length);obtain⟨k2,hk2⟩:=gn ((limbs d).length);rw[hk1]at HN |-;rw[hk2]at HD |-;clear hn hd hln hld e1 e2 hk1 hk2;unfold z0P at key;rcases key with ⟨h1,rfl,rfl⟩ | ⟨h1,h2,rfl,rfl⟩ | ⟨h1,h2,rfl,⟨rfl,rfl,rfl⟩ | ⟨rfl,rfl,rfl⟩ | ⟨rfl,h3,rfl⟩ | ⟨rfl,h3,rfl⟩⟩
 .have q0:decide ((4000:Int)<(B1.size:Int))=true:=by simp;omega
  clear h1;go_enter func73,Nv;go_wp2_with fail;obtain⟨W,hW⟩:=gn (w.alloc (.cells #[.bool m,.slice a1 k1 c1,.slice a2 k2 c2] 81));rw[hW];have X0:Below w.heap.size w W:=by rw[<- hW];exact br0.alloc nr _
  have Y0:Blk W w.heap.size #[.bool m,.slice a1 k1 c1,.slice a2 k2 c2] 81:=by rw[<- hW];exact Blk.new w _ _
  have K:Hid (∀ w',Below W.heap.size W w'->w'.cell? ⟨w.heap.size,0,none⟩=some (.bool m)/\w'.cell? ⟨w.heap.size,1,none⟩=some (.slice a1 k1 c1)/\w'.cell? ⟨w.heap.size,2,none⟩=some (.slice a2 k2 c2)):=
   fun w' hb=>⟨(Y0.call hb).cell 0,(Y0.call hb).cell 1,(Y0.call hb).cell 2⟩
  have HX0:=hid X0;obtain⟨k0,k1',k2'⟩:=K W br0;obtain⟨XN,XD⟩:=zu (HN.out.call HX0.out) (HD.out.call HX0.out);clear Y0 X0 hW
  go_region_held3 (fun w'=>w'.cell? ⟨w.heap.size,0,none⟩=some (.bool m)/\w'.cell? ⟨w.heap.size,1,none⟩=some (.slice a1 k1 c1)/\w'.cell? ⟨w.heap.size,2,none⟩=some (.slice a2 k2 c2))
   (first
    | exact K.out _ br0.drew
    | exact K.out _ bb2.out
    | exact K.out _ bb1.out)
   (first
    | (go_at_call_of 154 (Value.slice a1 k1 c1);refine nj (a0S _ _ n (XN.out.call (by first | exact bb2.out | exact br0.drew)) LN.out) fun w1 hb1=>?_;rw[b0s,E1.out];have bb1:=hid (a0a (by first | exact bb2.out | exact br0.drew) hb1))
    | (go_at_call_of 154 (Value.slice a2 k2 c2);refine nj (a0S _ _ d (XD.out.call (by first | exact bb1.out | exact br0.drew)) LD.out) fun w2 hb2=>?_;rw[b0s,E2.out];have bb2:=hid (a0a (by first | exact bb1.out | exact br0.drew) hb2)))
  go_wp2_with fail;go_ret2
  exact⟨rfl,a0a HX0.out bb2.out⟩
 .have q0:decide ((4000:Int)<(B1.size:Int))=false:=by simp;omega
  have q1:decide ((4000:Int)<(B2.size:Int))=true:=by simp;omega
  clear h1 h2;go_enter func73,Nv;go_wp2_with fail;obtain⟨W,hW⟩:=gn (w.alloc (.cells #[.bool m,.slice a1 k1 c1,.slice a2 k2 c2] 81));rw[hW];have X0:Below w.heap.size w W:=by rw[<- hW];exact br0.alloc nr _
  have Y0:Blk W w.heap.size #[.bool m,.slice a1 k1 c1,.slice a2 k2 c2] 81:=by rw[<- hW];exact Blk.new w _ _
  have K:Hid (∀ w',Below W.heap.size W w'->w'.cell? ⟨w.heap.size,0,none⟩=some (.bool m)/\w'.cell? ⟨w.heap.size,1,none⟩=some (.slice a1 k1 c1)/\w'.cell? ⟨w.heap.size,2,none⟩=some (.slice a2 k2 c2)):=
   fun w' hb=>⟨(Y0.call hb).cell 0,(Y0.call hb).cell 1,(Y0.call hb).cell 2⟩
  have HX0:=hid X0;obtain⟨k0,k1',k2'⟩:=K W br0;obtain⟨XN,XD⟩:=zu (HN.out.call HX0.out) (HD.out.call HX0.out);clear Y0 X0 hW
  go_region_held3 (fun w'=>w'.cell? ⟨w.heap.size,0,none⟩=some (.bool m)/\w'.cell? ⟨w.heap.size,1,none⟩=some (.slice a1 k1 c1)/\w'.cell? ⟨w.heap.size,2,none⟩=some (.slice a2 k2 c2))
   (first
    | exact K.out _ br0.drew
    | exact K.out _ bb2.out
    | exact K.out _ bb1.out)
   (first
    | (go_at_call_of 154 (Value.slice a1 k1 c1);refine nj (a0S _ _ n (XN.out.call (by first | exact bb2.out | exact br0.drew)) LN.out) fun w1 hb1=>?_;rw[b0s,E1.out];have bb1:=hid (a0a (by first | exact bb2.out | exact br0.drew) hb1))
    | (go_at_call_of 154 (Value.slice a2 k2 c2);refine nj (a0S _ _ d (XD.out.call (by first | exact bb1.out | exact br0.drew)) LD.out) fun w2 hb2=>?_;rw[b0s,E2.out];have bb2:=hid (a0a (by first | exact bb1.out | exact br0.drew) hb2)))
  go_wp2_with fail;go_ret2
  exact⟨rfl,a0a HX0.out bb2.out⟩
 focus
  have q0:decide ((4000:Int)<(T.size:Int))=false:=by simp;omega
  clear h2
 rotate_left
 .have q0:decide ((4000:Int)<(B1.size:Int))=false:=by simp;omega
  clear h2;go_enter func73,Nv;go_wp2_with fail;obtain⟨W,hW⟩:=gn (w.alloc (.cells #[.bool true,.slice a1 k1 c1,.slice a2 k2 c2] 81));rw[hW];have X0:Below w.heap.size w W:=by rw[<- hW];exact br0.alloc nr _
  have Y0:Blk W w.heap.size #[.bool true,.slice a1 k1 c1,.slice a2 k2 c2] 81:=by rw[<- hW];exact Blk.new w _ _
  have K:Hid (∀ w',Below W.heap.size W w'->w'.cell? ⟨w.heap.size,0,none⟩=some (.bool true)/\w'.cell? ⟨w.heap.size,1,none⟩=some (.slice a1 k1 c1)/\w'.cell? ⟨w.heap.size,2,none⟩=some (.slice a2 k2 c2)):=
   fun w' hb=>⟨(Y0.call hb).cell 0,(Y0.call hb).cell 1,(Y0.call hb).cell 2⟩
  have HX0:=hid X0;obtain⟨k0,k1',k2'⟩:=K W br0;obtain⟨XN,XD⟩:=zu (HN.out.call HX0.out) (HD.out.call HX0.out);clear Y0 X0 hW
  go_region_held3 (fun w'=>w'.cell? ⟨w.heap.size,0,none⟩=some (.bool true)/\w'.cell? ⟨w.heap.size,1,none⟩=some (.slice a1 k1 c1)/\w'.cell? ⟨w.heap.size,2,none⟩=some (.slice a2 k2 c2))
   (first
    | exact K.out _ br0.drew
    | exact K.out _ bb2.out
    | exact K.out _ bb1.out)
   (first
    | (go_at_call_of 154 (Value.slice a1 k1 c1);refine nj (a0S _ _ n (XN.out.call (by first | exact bb2.out | exact br0.drew)) LN.out) fun w1 hb1=>?_;rw[b0s,E1.out];have bb1:=hid (a0a (by first | exact bb2.out | exact br0.drew) hb1))
    | (go_at_call_of 154 (Value.slice a2 k2 c2);refine nj (a0S _ _ d (XD.out.call (by first | exact bb1.out | exact br0.drew)) LD.out) fun w2 hb2=>?_;rw[b0s,E2.out];have bb2:=hid (a0a (by first | exact bb1.out | exact br0.drew) hb2)))
  go_wp2_with fail;go_ret2
  exact⟨rfl,a0a HX0.out bb2.out⟩
 focus
  have q0:decide ((4000:Int)<(B1.size:Int))=false:=by simp;omega
  have q1:decide ((4000:Int)<(B2.size:Int))=false:=by simp;omega
  have i3:=a0O (l:=[49]) h3
 rotate_left
 .have q0:decide ((4000:Int)<(B1.size:Int))=false:=by simp;omega
  have q1:decide ((4000:Int)<(B2.size:Int))=false:=by simp;omega
  have i3:=a0O (l:=[49]) h3;go_enter func73,Nv;go_wp2_with fail;obtain⟨W,hW⟩:=gn (w.alloc (.cells #[.bool true,.slice a1 k1 c1,.slice a2 k2 c2] 81));rw[hW];have X0:Below w.heap.size w W:=by rw[<- hW];exact br0.alloc nr _
  have Y0:Blk W w.heap.size #[.bool true,.slice a1 k1 c1,.slice a2 k2 c2] 81:=by rw[<- hW];exact Blk.new w _ _
  have K:Hid (∀ w',Below W.heap.size W w'->w'.cell? ⟨w.heap.size,0,none⟩=some (.bool true)/\w'.cell? ⟨w.heap.size,1,none⟩=some (.slice a1 k1 c1)/\w'.cell? ⟨w.heap.size,2,none⟩=some (.slice a2 k2 c2)):=
   fun w' hb=>⟨(Y0.call hb).cell 0,(Y0.call hb).cell 1,(Y0.call hb).cell 2⟩
  have HX0:=hid X0;obtain⟨k0,k1',k2'⟩:=K W br0;obtain⟨XN,XD⟩:=zu (HN.out.call HX0.out) (HD.out.call HX0.out);clear Y0 X0 hW
  go_region_held3 (fun w'=>w'.cell? ⟨w.heap.size,0,none⟩=some (.bool true)/\w'.cell? ⟨w.heap.size,1,none⟩=some (.slice a1 k1 c1)/\w'.cell? ⟨w.heap.size,2,none⟩=some (.slice a2 k2 c2))
   (first
    | exact K.out _ br0.drew
    | exact K.out _ bb2.out
    | exact K.out _ bb1.out)
   (first
    | (go_at_call_of 154 (Value.slice a1 k1 c1);refine nj (a0S _ _ n (XN.out.call (by first | exact bb2.out | exact br0.drew)) LN.out) fun w1 hb1=>?_;rw[b0s,E1.out];have bb1:=hid (a0a (by first | exact bb2.out | exact br0.drew) hb1))
    | (go_at_call_of 154 (Value.slice a2 k2 c2);refine nj (a0S _ _ d (XD.out.call (by first | exact bb1.out | exact br0.drew)) LD.out) fun w2 hb2=>?_;rw[b0s,E2.out];have bb2:=hid (a0a (by first | exact bb1.out | exact br0.drew) hb2)))
  go_wp2_with fail;go_ret2
  exact⟨rfl,a0a HX0.out bb2.out⟩
 all_goals
  go_enter func73,Nv;go_wp2_with fail;obtain⟨W,hW⟩:=gn (w.alloc (.cells #[.bool false,.slice a1 k1 c1,.slice a2 k2 c2] 81));rw[hW];have X0:Below w.heap.size w W:=by rw[<- hW];exact br0.alloc nr _
  have Y0:Blk W w.heap.size #[.bool false,.slice a1 k1 c1,.slice a2 k2 c2] 81:=by rw[<- hW];exact Blk.new w _ _
  have K:Hid (∀ w',Below W.heap.size W w'->w'.cell? ⟨w.heap.size,0,none⟩=some (.bool false)/\w'.cell? ⟨w.heap.size,1,none⟩=some (.slice a1 k1 c1)/\w'.cell? ⟨w.heap.size,2,none⟩=some (.slice a2 k2 c2)):=
   fun w' hb=>⟨(Y0.call hb).cell 0,(Y0.call hb).cell 1,(Y0.call hb).cell 2⟩
  have HX0:=hid X0;obtain⟨k0,k1',k2'⟩:=K W br0;obtain⟨XN,XD⟩:=zu (HN.out.call HX0.out) (HD.out.call HX0.out);clear Y0 X0 hW
  go_region_held3 (fun w'=>w'.cell? ⟨w.heap.size,0,none⟩=some (.bool false)/\w'.cell? ⟨w.heap.size,1,none⟩=some (.slice a1 k1 c1)/\w'.cell? ⟨w.heap.size,2,none⟩=some (.slice a2 k2 c2))
   (first
    | exact K.out _ br0.drew
    | exact K.out _ bb2.out
    | exact K.out _ bb1.out)
   (first
    | (go_at_call_of 154 (Value.slice a1 k1 c1);refine nj (a0S _ _ n (XN.out.call (by first | exact bb2.out | exact br0.drew)) LN.out) fun w1 hb1=>?_;rw[b0s,E1.out];have bb1:=hid (a0a (by first | exact bb2.out | exact br0.drew) hb1))
    | (go_at_call_of 154 (Value.slice a2 k2 c2);refine nj (a0S _ _ d (XD.out.call (by first | exact bb1.out | exact br0.drew)) LD.out) fun w2 hb2=>?_;rw[b0s,E2.out];have bb2:=hid (a0a (by first | exact bb1.out | exact br0.drew) hb2)))
  go_wp2_with fail;go_ret2
  exact⟨rfl,a0a HX0.out bb2.out⟩
def u0Y {d:Nat}:a0f d=⟨#[49]⟩↔d=1:=by
 constructor
 .intro h;rw[<- c0e]at h;rcases Nat.decEq d 1 with h1 | h1
  .exact absurd h (b0W h1)
  .exact h1
 .rintro rfl;exact c0e
def c0F (w:World)(v:Value)(q:Rat)(h:IsQ .i64 w v q)(h1:(limbs q.num.natAbs).length<=1000000)(h2:(limbs q.den).length<=1000000):
 qb 73 #[v] w (.tuple #[.string (c0b q),.int .i64 (c0p q)]):=by
 obtain⟨N,D,rfl,hn,hd⟩:=h.ex;refine j0k w _ N D q.num.natAbs q.den (a0f q.num.natAbs) (a0f q.den) (c0b q) (c0p q) hn hd h1 h2 rfl rfl ?_;unfold z0P c0b c0p;rw[a0y,a0y];by_cases o1:4000<nDigits q.num.natAbs
 .have ho:ovQ q:=.inl o1;rw[J3 ho,J3 ho];exact .inl ⟨o1,rfl,rfl⟩
 .by_cases o2:4000<nDigits q.den
  .have ho:ovQ q:=.inr o2;rw[J3 ho,J3 ho];exact .inr (.inl ⟨by omega,o2,rfl,rfl⟩)
  .have ho:¬ ovQ q:=fun h=>h.elim o1 o2
   rw[J2 ho,J2 ho];refine .inr (.inr ⟨by omega,by omega,rfl,?_⟩);unfold txQ;rw[u0Y];generalize decide (q.num<0)=m
   by_cases hd1:q.den=1
   .rw[hd1];cases m
    .exact .inl ⟨rfl,rfl,b0f (by simp[txB,a0f])⟩
    .exact .inr (.inl ⟨rfl,rfl,b0f (by simp[txB,a0f])⟩)
   .cases m
    .exact .inr (.inr (.inl ⟨rfl,hd1,b0f (by simp[txB,a0f,hd1])⟩))
    .exact .inr (.inr (.inr ⟨rfl,hd1,b0f (by simp[txB,a0f,hd1])⟩))
def o0K (n:Nat)(e:Ending)(w':World):Prop:=
 (nDigits n<=4000/\∃ v,e=.returned (.tuple #[v,.bool true])/\IsN .i64 w' v n)\/(4000<nDigits n/\e=.returned (.tuple #[.slice none 0 0,.bool false]))
def j0H (w:World):IsN .i64 (w.alloc (.cells #[.int .i64 1] 3)) (.slice (some ⟨w.heap.size,0,none⟩) 1 1) 1:=by
 unfold IsN;rw[d0b];exact Row.of_blk (b:=w.heap.size) (n:=1) (c:=1) (cs:=#[.int .i64 1]) (Blk.new w _ _) rfl (by unfold maxLen;omega) (fun i x hx=>by simpa[b0p]using hx) nr (by unfold maxLen;omega)
def l0G (m:Nat)(h:m<9223372036854775808):bits .and .i64 (m:Int) 1=((m%2:Nat):Int):=by
 show IntKind.i64.wrap ((BitVec.ofInt 64 (m:Int) &&& BitVec.ofInt 64 1).toNat:Int)=_
 have h1:(BitVec.ofInt 64 (m:Int)).toNat=m:=by rw[BitVec.ofInt_natCast,BitVec.toNat_ofNat];exact Bw (by omega)
 rw[BitVec.toNat_and,h1,show (BitVec.ofInt 64 1).toNat=1 by rfl,Nat.and_one_is_mod,IntKind.wrap_i64];omega
def v0S (n k:Nat)(h:n<=9223372036854775807):(bits .and .i64 ((n:Int) / 2 ^ k) 1==1)=decide (n / 2 ^ k%2=1):=by
 have h1:((n:Int) / 2 ^ k)=((n / 2 ^ k:Nat):Int):=by rw[Jh,Int.natCast_pow];rfl
 have h2:n / 2 ^ k<=n:=Ef _ _;rw[h1,l0G _ (by omega),Bk,Fi,H7];omega
def o0c (a n k:Nat):a ^ (n / 2 ^ k)=a ^ (n / 2 ^ (k+1))*a ^ (n / 2 ^ (k+1))*(if n / 2 ^ k%2=1 then a else 1):=by
 have h:n / 2 ^ (k+1)=n / 2 ^ k / 2:=by rw[E9,Nat.div_div_eq_div_mul]
 rw[h];generalize n / 2 ^ k=m
 have hm:m=m / 2+m / 2+m%2:=by omega
 conv=>lhs;rw[hm]
 rw[Be,Be];rcases (show m%2=0\/m%2=1 by omega) with e | e
 .rw[e,J2 (by omega),Dd]
 .rw[e,J3 rfl,Nat.pow_one]
def j0p (w:World)(v:Value)(a:Nat)(ha:IsN .i64 w v a):Calls prog 161 #[v,.int .i64 0] w fun e w'=>o0K (a ^ 0) e w'/\Below w.heap.size w w':=by
 have H1:=hid (j0H w);go_enter func161,ntmps161;go_wp2_with fail;go_ret2
 exact⟨.inl ⟨by rw[Dd,b0o];omega,_,rfl,by rw[Dd];exact H1.out⟩,br0.alloc nr _⟩
def h0X (w:World)(v:Value)(a n:Nat)(ha:IsN .i64 w v a)(hs:a<=1)(hn:0<n)(hn2:n<=9223372036854775807):Calls prog 161 #[v,.int .i64 n] w fun e w'=>o0K (a ^ n) e w'/\Below w.heap.size w w':=by
 obtain⟨H1,HA,hord⟩:=zg (j0H w) ha (show b0g a 1<=0 from by unfold b0g;split;omega;split<;>omega)
 have hpow:=hid (show a ^ n=a/\nDigits a<=4000 from by
  rcases (show a=0\/a=1 by omega) with rfl | rfl
  .exact⟨Nat.zero_pow hn,by rw[c0J];omega⟩
  .exact⟨Nat.one_pow n,by rw[b0o];omega⟩)
 obtain⟨a1,c1,rfl,_⟩:=ha.openI;have q0:((n:Int)==0)=false:=by simp;omega
 have hb0:Below w.heap.size w (w.alloc (.cells #[.int .i64 1] 3)):=br0.alloc nr _;have HB0:=hid hb0;clear ha hs hb0;go_enter func161,ntmps161;go_wp2_with fail;refine nk (b0k _ _ _ a 1 (HA.out.call HB0.out) H1.out) HB0 fun w1 B1=>?_;obtain⟨t,ht⟩:=gn (b0g a 1);rw[ht]at hord |-;have q1:decide (t<=0)=true:=by have:=hord.out;simp;omega
 clear ht;go_wp2_with fail;go_ret2
 exact⟨.inl ⟨by rw[hpow.out.1];exact hpow.out.2,_,rfl,by rw[hpow.out.1];exact HA.out.call B1.out⟩,B1.out⟩
def k0T (w:World)(v:Value)(a n:Nat)(ha:IsN .i64 w v a)(hs:1<a)(hd:nDigits a<=4000)(hn:0<n)(hn2:n<=9223372036854775807):Calls prog 161 #[v,.int .i64 n] w fun e w'=>o0K (a ^ n) e w'/\Below w.heap.size w w':=by
 obtain⟨H1,HA,hord⟩:=zg (j0H w) ha (c0k hs);obtain⟨a1,c1,rfl,_⟩:=ha.openI;have q0:((n:Int)==0)=false:=by simp;omega
 have hb0:Below w.heap.size w (w.alloc (.cells #[.int .i64 1] 3)):=br0.alloc nr _;obtain⟨HB0,HS,HD⟩:=zg hb0 hs hd;clear ha hs hb0 hd;go_enter func161,ntmps161;go_wp2_with fail;refine nj (b0k _ _ _ a 1 (HA.out.call HB0.out) H1.out) fun w1 hb1=>?_;have B1:=qx HB0 hb1;have O1:=hid (H1.out.call hb1);clear hb1;rw[hord.out];go_wp2_with fail
 go_loopw [7,8] (fun oo kk wr=>∃ (j:Nat) (t:Int),kk=.int .i64 t/\t=(j:Int)-1/\j<=63/\Hid (IsN .i64 wr oo (a ^ (n / 2 ^ j)))/\Hid (nDigits (a ^ (n / 2 ^ j))<=4000)/\Hid (Below w.heap.size w wr)) (fun _ kk _=>(intOf kk+1).toNat)
 case atStart=>exact⟨63,_,rfl,by omega,by omega,by rw[Ds (by omega),Dd];exact O1,by rw[Ds (by omega),Dd,b0o,Hid];omega,B1⟩
 case round=>
  obtain⟨j,t,rfl,ht,hj,hO,hD,hB⟩:=hrel;obtain⟨a2,c2,rfl,_⟩:=hO.out.openI;cases j with
  | zero=>
   obtain rfl:t = -1:=by omega
   clear ht;go_wp2_with fail;go_ret2
   have h2:=hD.out;rw[Dd,Om]at h2;exact⟨.inl ⟨h2,_,rfl,hO.out.cast (by rw[Dd,Om])⟩,hB.out⟩
  | succ k=>
   obtain rfl:t=(k:Int):=by omega
   clear ht;obtain⟨hl,hla⟩:=zu (a0n hD.out) (a0n HD.out);have hbt:=v0S n k hn2;by_cases hbit:n / 2 ^ k%2=1
   focus
    rw[Z7 hbit]at hbt;obtain⟨HM,HLM⟩:=zu (show a ^ (n / 2 ^ k)=a ^ (n / 2 ^ (k+1))*a ^ (n / 2 ^ (k+1))*a from by rw[o0c,J3 hbit]) (show (limbs (a ^ (n / 2 ^ (k+1))*a ^ (n / 2 ^ (k+1))*a)).length<=1000000 from by have:=a0H (a0H hl.out hl.out) hla.out;omega);clear hbit;go_wp2_with fail;refine (b0n _ _ _ _ _ hO.out hO.out (by have:=hl.out;omega) (by have:=hl.out;omega)).mono ?_;rintro e w2 ⟨⟨v2,rfl,hv2⟩,hb2⟩;have V2:=hid hv2;have B2:=qx hB hb2;clear hv2 hb2;go_wp2_with fail;refine (b0n _ v2 _ _ a V2.out (HA.out.call B2.out) (by have:=a0H hl.out hl.out;omega) (by have:=hla.out;omega)).mono ?_;rintro e w3 ⟨⟨v3,rfl,hv3⟩,hb3⟩;have V3:=hid hv3;have B3:=qx B2 hb3;clear hv3 hb3;obtain⟨Bs,hBs⟩:=gn (a0f (a ^ (n / 2 ^ (k+1))*a ^ (n / 2 ^ (k+1))*a));obtain⟨HBS,hBz⟩:=zu hBs (show Bs.size=nDigits (a ^ (n / 2 ^ (k+1))*a ^ (n / 2 ^ (k+1))*a) from by rw[<- hBs];exact a0y _);clear hBs;by_cases hlong:4000<nDigits (a ^ (n / 2 ^ (k+1))*a ^ (n / 2 ^ (k+1))*a)
    .have q3:decide ((4000:Int)<(Bs.size:Int))=true:=by rw[hBz.out];simp;omega
     have HLO:=hid (show 4000<nDigits (a ^ n) from J7 hlong (by rw[<- HM.out];exact a0r (J6 (by have:=HS.out;omega) (Ef _ _))));clear hlong;go_wp2_with fail;refine nk (a0S _ v3 (a ^ (n / 2 ^ (k+1))*a ^ (n / 2 ^ (k+1))*a) V3.out HLM.out) B3 fun w9 B9=>?_;rw[b0s,HBS.out];go_wp2_with fail;go_ret2
     exact⟨.inr ⟨HLO.out,rfl⟩,B9.out⟩
    focus
     have q3:decide ((4000:Int)<(Bs.size:Int))=false:=by rw[hBz.out];simp;omega
     have HLO:=hid (show nDigits (a ^ (n / 2 ^ k))<=4000 from by rw[HM.out];omega);clear hlong;go_wp2_with fail;refine nj (a0S _ v3 (a ^ (n / 2 ^ (k+1))*a ^ (n / 2 ^ (k+1))*a) V3.out HLM.out) fun w9 hb9=>?_;have B9:=qx B3 hb9;have V9:=hid (V3.out.call hb9)
   rotate_left
   focus
    rw[Z6 hbit]at hbt;obtain⟨HM,HLM⟩:=zu (show a ^ (n / 2 ^ k)=a ^ (n / 2 ^ (k+1))*a ^ (n / 2 ^ (k+1)) from by rw[o0c,J2 hbit,Dr]) (show (limbs (a ^ (n / 2 ^ (k+1))*a ^ (n / 2 ^ (k+1)))).length<=1000000 from by have:=a0H hl.out hl.out;omega);clear hbit;go_wp2_with fail;refine (b0n _ _ _ _ _ hO.out hO.out (by have:=hl.out;omega) (by have:=hl.out;omega)).mono ?_;rintro e w2 ⟨⟨v2,rfl,hv2⟩,hb2⟩;have V2:=hid hv2;have B2:=qx hB hb2;clear hv2 hb2;obtain⟨Bs,hBs⟩:=gn (a0f (a ^ (n / 2 ^ (k+1))*a ^ (n / 2 ^ (k+1))));obtain⟨HBS,hBz⟩:=zu hBs (show Bs.size=nDigits (a ^ (n / 2 ^ (k+1))*a ^ (n / 2 ^ (k+1))) from by rw[<- hBs];exact a0y _);clear hBs;by_cases hlong:4000<nDigits (a ^ (n / 2 ^ (k+1))*a ^ (n / 2 ^ (k+1)))
    .have q3:decide ((4000:Int)<(Bs.size:Int))=true:=by rw[hBz.out];simp;omega
     have HLO:=hid (show 4000<nDigits (a ^ n) from J7 hlong (by rw[<- HM.out];exact a0r (J6 (by have:=HS.out;omega) (Ef _ _))));clear hlong;go_wp2_with fail;refine nk (a0S _ v2 (a ^ (n / 2 ^ (k+1))*a ^ (n / 2 ^ (k+1))) V2.out HLM.out) B2 fun w9 B9=>?_;rw[b0s,HBS.out];go_wp2_with fail;go_ret2
     exact⟨.inr ⟨HLO.out,rfl⟩,B9.out⟩
    focus
     have q3:decide ((4000:Int)<(Bs.size:Int))=false:=by rw[hBz.out];simp;omega
     have HLO:=hid (show nDigits (a ^ (n / 2 ^ k))<=4000 from by rw[HM.out];omega);clear hlong;go_wp2_with fail;refine nj (a0S _ v2 (a ^ (n / 2 ^ (k+1))*a ^ (n / 2 ^ (k+1))) V2.out HLM.out) fun w9 hb9=>?_;have B9:=qx B2 hb9;have V9:=hid (V2.out.call hb9)
   all_goals
    clear hb9;rw[b0s,HBS.out];go_wp2_with fail;go_roundw
    case rel=>exact⟨k,_,rfl,rfl,by omega,by rw[HM.out];exact V9,HLO,B9⟩
    case measure=>simp[intOf]<;>omega
def g0C (w:World)(v:Value)(a n:Nat)(ha:IsN .i64 w v a)(hd:nDigits a<=4000)(hn2:n<=9223372036854775807):Calls prog 161 #[v,.int .i64 n] w fun e w'=>o0K (a ^ n) e w'/\Below w.heap.size w w':=by
 rcases H8 n with rfl | hn
 .exact j0p w v a ha
 .by_cases hs:1<a
  .exact k0T w v a n ha hs hd hn hn2
  .exact h0X w v a n ha (by omega) hn hn2
def d1i (k:IntKind)(n m:Nat)(e:Ending)(w':World):Prop:=∃ v,e=.returned (.tuple #[v,.int k (m:Int)])/\IsN k w' v n
def d1j (B:Nat)(k:IntKind)(n m:Nat)(e:Ending)(w':World):Prop:=∃ v,e=.returned (.tuple #[v,.int k (m:Int)])/\IsN k w' v n/\∀ g,v.ownBlock=some g->B<=g
def k0P (w:World)(a:Option Addr)(n c:Nat)(l:List Nat)(hn:l.length=n)(hs:Sm l)(h:Row w (.slice a n c) (b0p .i64 l)):
 Calls prog 222 #[.slice a n c] w fun e w'=>z0R .i64 a c (val l) e w'/\w=w':=by
 subst hn;exact c0V w a c l hs h
def k0Q (w:World)(v:Value)(a d:Nat)(ha:IsN .i64 w v a)(hd0:0<d)(hd1:d<1000000000)(hla:(limbs a).length<=1000000):
 Calls prog 304 #[v,.int .i64 d] w fun e w'=>d1j w.heap.size .i64 (a / d) (a%d) e w'/\Below w.heap.size w w':=by
 obtain⟨a1,c1,rfl,h1,h2,h3⟩:=ha.openI;have H3:=hid h3;clear h3 ha;obtain⟨n,ea⟩:=gn ((limbs a).length);rw[ea]at h1 hla |-;have HA:=hid ea;clear ea;have hmk:=fun W=>e0d n (by omega) W
 go_enter func304,ntmps304;go_wp2_with fail;clear hmk
 go_loopw [7,8,9] (fun rr ii nn wr=>∃ (j r:Nat) (t:Int) (o:List Nat),rr=.int .i64 r/\ii=.int .i64 t/\t=(j:Int)-1/\j<=n/\Hid (SmallI a d j r o)/\Hid (Arr .i64 3 wr w.heap.size o)/\Hid (Below w.heap.size w wr)) (fun _ ii _ _=>(intOf ii+1).toNat)
 case atStart=>exact⟨n,0,_,_,rfl,rfl,rfl,O4 _,by have:=SmallI.start (a:=a) hd0;rw[HA.out]at this;exact this,Arr.made w .i64 3 n,br0.alloc nr _⟩
 case round=>
  obtain⟨j,r,t,o,rfl,rfl,ht,hj,hS,hO,hB⟩:=hrel;have hsz:Hid (o.length=n):=by rw[Hid,hS.out.len,HA.out]
  cases j with
  | zero=>
   obtain rfl:t = -1:=by omega
   clear ht;have hv:=hid hS.out.done
   have hr:=hid (show Row wr (.slice (some ⟨w.heap.size,0,none⟩) n n) (b0p .i64 o) from by
    have:=hO.out.row (n:=n) (c:=n) (by rw[hsz.out];exact O4 _) nr (by unfold maxLen;omega);rwa[E7 (by rw[hsz.out];exact O4 _)]at this)
   go_wp2_with (go_at_call 222;refine (k0P _ _ _ _ o hsz.out hS.out.sm hr.out).mono ?_;rintro e w1 ⟨⟨m1,rfl,hv1⟩,rfl⟩)
   go_ret2
   exact⟨⟨_,x0M (by rw[hv.out.2]),by rw[<- hv.out.1];exact hv1,fun g e=>by simp[Value.ownBlock]at e;omega⟩,hB.out⟩
  | succ j=>
   obtain rfl:t=(j:Int):=by omega
   clear ht;obtain⟨x,hx⟩:∃ x,(limbs a)[j]?=some x:=⟨_,Q0 (by rw[HA.out];omega)⟩;obtain⟨g,og,rfl,hg,hc⟩:=H3.out _ x hx;have d1:=(hB.out.cell (p:=⟨g,og+j,none⟩) hg).trans hc;obtain⟨z,hz⟩:∃ z,o[j]?=some z:=⟨_,Q0 (by rw[hsz.out];omega)⟩;have d3:=hO.out.cell hz;have d4:=hO.out.free j;have HN:=hid (hS.out.next hx);have hxl:=(a0o a).get hx;have hrl:=hS.out.rd;clear hx hc hz;go_wp2_with fail;go_roundw
   case rel=>
    have e1:(((r:Int)*1000000000+x) / d)=(((r*1000000000+x) / d:Nat):Int):=by rw[Jh];rfl
    have e2:(((r:Int)*1000000000+x)%d)=(((r*1000000000+x)%d:Nat):Int):=by rw[Lw];rfl
    rw[e1];exact⟨j,_,_,_,by rw[e2],rfl,by omega,by omega,HN,hO.out.set j _,a0X hB.out nr _⟩
   case measure=>simp[intOf]<;>omega
def u0F (w:World)(v:Value)(a d:Nat)(ha:IsN .i64 w v a)(hd0:0<d)(hd1:d<1000000000)(hla:(limbs a).length<=1000000):
 Calls prog 304 #[v,.int .i64 d] w fun e w'=>d1i .i64 (a / d) (a%d) e w'/\Below w.heap.size w w':=
 (k0Q w v a d ha hd0 hd1 hla).mono fun _ _ h=>by
  obtain⟨⟨v,h1,h2,-⟩,h3⟩:=h;exact⟨⟨v,h1,h2⟩,h3⟩
def c1q (k:IntKind)(t:TypeId)(B n len:Nat)(e:Ending)(w':World):Prop:=∃ g o,e=.returned (.slice (some ⟨g,0,none⟩) len len)/\B<=g/\Arr k t w' g o/\o.length=len/\Sm o/\val o=n
def k0R (w:World)(v:Value)(a d:Nat)(ha:IsN .i64 w v a)(hd1:d<1000000000)(hla:(limbs a).length<=1000000):
 Calls prog 305 #[v,.int .i64 d] w fun e w'=>c1q .i64 3 w.heap.size (a*d) ((limbs a).length+1) e w'/\Below w.heap.size w w':=by
 obtain⟨a1,c1,rfl,h1,h2,h3⟩:=ha.openI;have H3:=hid h3;clear h3 ha;obtain⟨n,ea⟩:=gn ((limbs a).length);rw[ea]at h1 hla |-;have HA:=hid ea;clear ea;have hmk:∀ W:World,(Instr.makeSlice 79 (.int .i64 ((n:Int)+1)) (.int .i64 ((n:Int)+1))).run prog W=.ok (.slice (some ⟨W.heap.size,0,none⟩) (n+1) (n+1)) (W.alloc (.cells (madeCells #[.int .i64 0] (n+1)) 3)):=fun W=>by
  have:=e0d (n+1) (by omega) W;rwa[Ee]at this
 go_enter func305,ntmps305;go_wp2_with fail;clear hmk
 go_loopw [6,7,8] (fun cc ii nn wr=>∃ (i c:Nat) (o:List Nat),cc=.int .i64 c/\ii=.int .i64 i/\i<=n/\Hid (ScaleI a d i c o)/\Hid (Arr .i64 3 wr w.heap.size o)/\Hid (Below w.heap.size w wr)) (fun _ ii _ _=>n-(intOf ii).toNat)
 case atStart=>exact⟨0,0,_,rfl,rfl,K5 _,ScaleI.start a d,by rw[HA.out];exact Arr.made w .i64 3 (n+1),br0.alloc nr _⟩
 case round=>
  obtain⟨i,c,o,rfl,rfl,hin,hS,hO,hB⟩:=hrel;have hsz:Hid (o.length=n+1):=by rw[Hid,hS.out.len,HA.out]
  by_cases hlt:i<n
  .obtain⟨x,hx⟩:∃ x,(limbs a)[i]?=some x:=⟨_,Q0 (by rw[HA.out];exact hlt)⟩;obtain⟨g,og,rfl,hg,hc⟩:=H3.out _ x hx;have d1:=(hB.out.cell (p:=⟨g,og+i,none⟩) hg).trans hc;obtain⟨z,hz⟩:∃ z,o[i]?=some z:=⟨_,Q0 (by rw[hsz.out];omega)⟩;have d3:=hO.out.cell hz;have d4:=hO.out.free i;have HN:=hid (hS.out.next hd1 hx);have hb1:=d0G (old:=0) (by omega) ((a0o a).get hx) hd1 hS.out.c1;have hcl:=hS.out.c1;clear hx hc hz;have HP:=hid (show ((x:Int)*(d:Int))=((x*d:Nat):Int) from (Bp x d).symm);obtain⟨p,hp⟩:=gn (x*d);rw[hp]at hb1 HN HP;have hp2:=hb1.2;clear hb1 hp;have e5:IntKind.i64.wrap ((x:Int)*(d:Int))=(p:Int):=by rw[HP.out];exact U0 _ (by omega)
   have e5':wrap64 ((x:Int)*(d:Int))=(p:Int):=by rw[HP.out];exact IntWalk.wrap64_in _ (by omega)
   go_wp2_with fail;clear e5 e5';go_roundw
   case rel=>
    have hz:(((p:Int)+c)%1000000000)=(((p+c)%1000000000:Nat):Int):=by omega
    rw[hz];exact⟨i+1,(p+c) / 1000000000,_,by go_num,by go_num,by omega,HN,hO.out.set i _,a0X hB.out nr _⟩
   case measure=>simp[intOf]<;>omega
  .obtain rfl:i=n:=by omega
   obtain⟨z,hz⟩:∃ z,o[i]?=some z:=⟨_,Q0 (by rw[hsz.out];omega)⟩;have d3:=hO.out.cell hz;have d4:=hO.out.free i;clear hz;have hD:=hid (show val (o.set i c)=a*d/\Sm (o.set i c)/\(o.set i c).length=i+1 from by have:=hS.out;rw[<- HA.out]at this |-;exact this.done);go_wp2_with fail;go_ret
   exact⟨⟨w.heap.size,_,rfl,O4 _,hO.out.set i c,hD.out.2.2,hD.out.2.1,hD.out.1⟩,a0X hB.out nr _⟩
end Go.Proofs.YtfkpfpobmobnbaaGreatDoor
