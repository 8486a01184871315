import Derived.Test.YtfkpfpobmobnbaaGreatDoorPb13
set_option linter.all false
set_option maxRecDepth 100000
set_option maxHeartbeats 8000000
namespace Go.Proofs.YtfkpfpobmobnbaaGreatDoor
open Go.Proofs.Tryz Go.RowKit
open Go.Lib (decDigits nDigits)
section
open Go.Shelf
def l0D {w:World}{b:Nat}{m0:Bool}{a0 b0:Option Addr}{n0 c0 n1 c1:Nat}{t:TypeId}(hb:Blk w b #[.bool m0,.slice a0 n0 c0,.slice b0 n1 c1] t)(m:Bool)(a a':Option Addr)(n c n' c':Nat){g i:Nat}{s:ByteArray}(h:w.cell? ⟨g,i,none⟩=some (.string s)):
 (((w.setCell ⟨b,0,none⟩ (.bool m)).setCell ⟨b,1,none⟩ (.slice a n c)).setCell ⟨b,2,none⟩ (.slice a' n' c')).cell? ⟨g,i,none⟩=some (.string s):=by
 have hne:g≠b:=by
  rintro rfl;rw[hb.cell]at h
  match i,h with
  | 0,h=>simp at h
  | 1,h=>simp at h
  | 2,h=>simp at h
  | i+3,h=>simp at h
 rw[<- h];unfold World.cell?;rw[Bc _ _ _ _ (by simpa using hne),Bc _ _ _ _ (by simpa using hne),Bc _ _ _ _ (by simpa using hne)]
def r0V {w:World}{b:Nat}{m0:Bool}{a0 b0:Option Addr}{n0 c0 n1 c1:Nat}{t:TypeId}(hb:Blk w b #[.bool m0,.slice a0 n0 c0,.slice b0 n1 c1] t)(m:Bool)(a a':Option Addr)(n c n' c':Nat){v:Value}{L:List (ByteArray×ByteArray)}(h:MRow w v L):
 MRow (((w.setCell ⟨b,0,none⟩ (.bool m)).setCell ⟨b,1,none⟩ (.slice a n c)).setCell ⟨b,2,none⟩ (.slice a' n' c')) v L:=by
 obtain⟨s,k,rfl,h1,h2,h3⟩:=h.ex;refine⟨s,k,rfl,h1,h2,fun i x hx=>?_⟩;obtain⟨g,o,rfl,hg,k1,k2⟩:=h3 i x hx;exact⟨g,o,rfl,by simpa using hg,l0D hb m a a' n c n' c' k1,l0D hb m a a' n c n' c' k2⟩
structure RyD (a:ByteArray)(n:Nat)(g:Int->Nat)(d:List (ByteArray×ByteArray)):Prop where
 z:zS n g<=2 ^ n
 x:∀ v,g v<=2 ^ n
 num:∀ p∈d,qE p.2=0/\p.2.size<=10000
 len:d.length<=100
 e:glE a (n:Nat) 32=0
 r:glR a (n:Nat) true=d
 l:chL d n (2*n+1)=chQ g n
 s:1 + -ltV d d.length=dyQ (zS n g) n
 ll:(limbs (ltV d d.length).num.natAbs).length<=100000/\(limbs (ltV d d.length).den).length<=100000
def w0s {a:ByteArray}{n:Nat}(hg:gPE a=0)(hn:n<=32):∃ d,RyD a n (gV (bN (cW a)) (bN (qD a)) true n) d:=by
 have hND:=(b0R hg).2;have hall:=o0f hND true n;have hx:∀ v,gV (bN (cW a)) (bN (qD a)) true n v<=2 ^ n:=fun v=>l0k hND true n v
 have e0:glE a (n:Nat) 32=0:=by unfold glE;rw[J2 (by simpa using hg),J2 (by omega)]
 have e1:glR a (n:Nat) true=a0p (glP (gV (bN (cW a)) (bN (qD a)) true n) (2 ^ n) n (gL (bN (cW a)) (bN (qD a)) true n)):=by unfold glR;rw[J3 e0,Ao]
 have hr:gL (bN (cW a)) (bN (qD a)) true n<=2 ^ n:=by omega
 refine⟨_,by omega,hx,y0K (by omega) hx hr,?_,e0,e1,t0p (by omega) hx _ nr,?_,?_⟩
 .rw[b0m];have:=p0F (gV (bN (cW a)) (bN (qD a)) true n) (2 ^ n) n (gL (bN (cW a)) (bN (qD a)) true n);omega
 .rw[r0Y (by omega) hr,x0l hall]
 .rw[r0Y (by omega) hr];exact b0E hr (by omega)
def p0f (w:World)(v:Value)(c:List Int)(thr:Int)(a r:ByteArray)(n:Nat)(hv:Row w v (zs c))(ha:a.size<=100000)(hr:r.size<=100000)(hq:g0p c thr a r=0)(hn:n<=32)(hm:n*(c.length+1)<=256):
 Calls prog 38 #[v,.int .i64 thr,.string a,.string r,.int .i64 (n:Nat)] w fun e w'=>(∃ u,e=.returned (.tuple #[u,.int .i64 0])/\MRow w' u (a0p (sqD (gV (bN (cW a)) (bN (qD a)) true n) (gV (bN (cW r)) (bN (qD r)) true n) n thr c)))/\Below w.heap.size w w':=by
 obtain⟨k1,k2,k3,k4⟩:=h0d hq;obtain⟨j1,j2,j3,j4⟩:=i0k hq;have HQ:=hid (d0D w v c thr a r hv (by omega) (by omega));rw[hq]at HQ;have HOA:=fun V=>hid (f0x V a (n:Nat) ha)
 have HOC:=fun V=>hid (f0x V r (n:Nat) hr)
 obtain⟨d,DA⟩:=w0s k3 hn;obtain⟨f,DC⟩:=w0s k4 hn;obtain⟨gA,hgA⟩:=gn (gV (bN (cW a)) (bN (qD a)) true n);obtain⟨gC,hgC⟩:=gn (gV (bN (cW r)) (bN (qD r)) true n);rw[hgA]at DA |-;rw[hgC]at DC |-;rw[DA.e,DA.r]at HOA;rw[DC.e,DC.r]at HOC;have HCA:=fun V v hv=>hid (h0q V v d n hn hv DA.num DA.len)
 have HCC:=fun V v hv=>hid (h0q V v f n hn hv DC.num DC.len)
 rw[DA.l]at HCA;rw[DC.l]at HCC;have SA:=fun V x h=>hid (j0n V x (ltV d d.length) h DA.ll.1 DA.ll.2)
 have SC:=fun V x h=>hid (j0n V x (ltV f f.length) h DC.ll.1 DC.ll.2)
 rw[DA.s]at SA;rw[DC.s]at SC;obtain⟨la,hla⟩:=gn (ltV d d.length);obtain⟨lc,hlc⟩:=gn (ltV f f.length);rw[hla]at HCA SA;rw[hlc]at HCC SC;have PN0:=fun V=>hid (c0U V ⟨#[48]⟩ (by decide) d1q)
 rw[d1m]at PN0;have PFR:=fun V u most hu=>hid (u0D V u gC n most DC.x DC.z hn hu)
 have PBL:=fun V u most hu=>hid (r0j V u gC n most DC.x DC.z hn hu)
 have hm1:n*(c.length+1)<=1000:=by omega
 have hC:=DC.z;have hA:=DA.z;have hxA:=DA.x;obtain⟨LZC,LGA,LFR,LBL,LAL,LP,LT,LR,ES0,EB,EM,EH⟩:=ku (b0E hC (show n<=1000 by omega)) (fun x=>b0E (hxA x) (show n<=1000 by omega)) (fun m=>b0E (J0 (Hv (zS n gC) (blw gC n m)) hC) (show n<=1000 by omega)) (fun m=>b0E (J0 (l0F gC n m) hC) (show n<=1000 by omega)) (fun (i:Nat) (hi:i<=c.length)=>b0E (z0O hA hC i) (J0 (Ad n (show i+1<=c.length+1 by omega)) hm1)) (fun (i k:Nat) (x:Int) (hi:i<c.length) (hk:k<=c.length)=>b0E (c1F hC hxA thr x c i k) (J0 (Ad n (show ryE i k<=c.length+1 by unfold ryE;split<;>omega)) hm1)) (fun (i j:Nat) (hi:i<c.length)=>b0E (w0g hA hC (n0D gA n) thr (i:=i) (c:=c) (by omega) j) hm1) (fun (i:Nat)=>b0E (c1G hA hC thr c i) hm1) (fun (i:Nat) (x:Int)=>u0n (gA:=gA) (gC:=gC) (n:=n) thr x c i) (fun (i k:Nat) (x:Int) (h:k<i)=>q0X (gA:=gA) (gC:=gC) (n:=n) (thr:=thr) (x:=x) (c:=c) h) (fun (i:Nat) (x:Int)=>x0I (gA:=gA) (gC:=gC) (n:=n) (thr:=thr) (x:=x) (c:=c) (i:=i)) (fun (i k:Nat) (x:Int) (h:i<k)=>q0W (gA:=gA) (gC:=gC) (n:=n) (thr:=thr) (x:=x) (c:=c) h);obtain⟨ET,EZ,EE,ER,ER0,ERE,EL0,ELN,ELT,EA,EAN,EAL⟩:=ku (fun (i j:Nat) (x:Int) (hi:i<c.length) (h:(chA gA n)[j]?=some x)=>a1j (gA:=gA) (gC:=gC) (n:=n) (thr:=thr) hi h) (fun (i:Nat)=>x0h (gA:=gA) (gC:=gC) (n:=n) thr c i) (fun (i:Nat)=>l0W (gC:=gC) (n:=n) (n0D gA n) thr c i) (fun (i:Nat) (hi:i<c.length)=>a1E (gA:=gA) (gC:=gC) (n:=n) (thr:=thr) hi) (x0L (gA:=gA) (gC:=gC) (n:=n) thr c) (a1F (gA:=gA) (gC:=gC) (n:=n) thr c) (z0M (gA:=gA) (gC:=gC) (n:=n)) (fun i=>z0N (gA:=gA) (gC:=gC) (n:=n) i) (y0y hA hC c.length) (fun (i:Nat) (hi:i<c.length)=>a1D (gA:=gA) (gC:=gC) (n:=n) (thr:=thr) hi) (x0J gA gC n thr c) (x0K gA gC n thr c);obtain⟨AL,HV,HN⟩:=zg (fun i=>g0c gA gC n thr c i) hv hn;obtain⟨s,cp,rfl,q1,q2,q3⟩:=hv.openZ;have Q3:=hid q3;obtain⟨L,hLL⟩:=gn (c.length);obtain⟨HLL,HCL,HTH⟩:=zg hLL j3 j4;rw[hLL]at hm hm1 j1 j2 q1 HV HQ LAL LP LT ET ER ER0 ERE EA EAN EAL ELT LR |-;obtain⟨HL,HM1⟩:=zu j2 hm1;have hkl:=i0R gA n;obtain⟨K,hK⟩:=gn ((chA gA n).length);rw[hK]at hkl;rw[hK]at EE;obtain⟨HK,HK65⟩:=zu hK (J0 hkl (show 2*n+1<=65 by omega));have hM2:(n:Int)*((L:Int)+1)<=256:=by
  have:((n*(L+1):Nat):Int)<=256:=by omega
  rwa[Bp,Ee]at this
 have hM0:0<=(n:Int)*((L:Int)+1):=Int.mul_nonneg (by omega) (by omega);have wl:IntKind.i64.wrap ((L:Int)+1)=(L:Int)+1:=by rw[U0 _ ⟨by omega,by omega⟩]
 have wm:IntKind.i64.wrap ((n:Int)*((L:Int)+1))=(n:Int)*((L:Int)+1):=by rw[U0 _ ⟨by omega,by omega⟩]
 have s3:decide (256<(n:Int)*((L:Int)+1))=false:=Z6 (by omega);obtain⟨M,hM⟩:∃ M:Int,(n:Int)*((L:Int)+1)=M:=⟨_,rfl⟩;rw[hM]at wm s3;clear hv ha hr hq DA DC hA hC hxA hgA hgC hla hlc k1 k2 k3 k4 j1 j2 j3 j4 hLL q3 hM2 hM0 hm hm1 hK hkl hn q1;go_enter func38,ntmps38;go_wp2_with fail;refine nz HQ fun w0 y0=>?_;clear HQ;go_wp2_with fail;refine nu (HOA _) fun u1 W1 hu1 hb1=>?_;have y1:=qx y0 hb1;have U1:=hid hu1;obtain⟨ad,cd,rfl,-,-,-⟩:=hu1.ex;clear hb1 hu1 HOA;go_wp2_with fail;refine nu (HOC _) fun u2 W2 hu2 hb2=>?_;have y2:=qx y1 hb2;obtain⟨U2,U1'⟩:=zu hu2 (U1.out.call hb2);obtain⟨ae,ce,rfl,-,-,-⟩:=hu2.ex;clear hb2 hu2 HOC U1;go_wp2_with (first | rw[hM] | fail)
 clear wm s3 wl hM;refine (HCA _ _ U1'.out).out.mono ?_;rintro e w3 ⟨⟨ul,ql,rfl,hul,hql⟩,hb3⟩;obtain⟨ml,al,nl,kl,al',nl',kl',rfl⟩:=hql.qv;obtain⟨av,cv,rfl,v1,v2,v3⟩:=hul.ex;have UL:=hid hul;rw[i0P,HK.out]at v1 UL |-;have V3:=hid v3;have y3:=qx y2 hb3;obtain⟨QA,U2'⟩:=zu hql (U2.out.call hb3);clear hb3 hul hql v3 HCA U2 U1';go_wp2_with fail;obtain⟨B3,hB3,A3,X3⟩:=zy w3 #[.bool ml,.slice al nl kl,.slice al' nl' kl'] 81;rw[hB3];clear hB3;refine (HCC _ _ (U2'.out.call A3.out)).out.mono ?_;rintro e w4 ⟨⟨um,qm,rfl,hum,hqm⟩,hb4⟩;obtain⟨mm,am,nm,km,am',nm',km',rfl⟩:=hqm.qv;have UM:=hid hum;obtain⟨aw,cw,rfl,v1',v2',v3'⟩:=hum.ex;obtain⟨lw,hlw⟩:=gn ((chQ gC n).length);rw[hlw]at UM |-;have y4:=hid (a0a (a0a y3.out A3.out) hb4);have T34:=qx A3 hb4;obtain⟨X3',QA',QC⟩:=zg (X3.out.call hb4) ((QA.out.call A3.out).call hb4) hqm;clear hb4 hum hqm v1' v2' v3' HCC U2' X3 QA A3 hlw;go_wp2_with fail;obtain⟨B4,hB4,A4,-⟩:=zy w4 #[.bool mm,.slice am nm km,.slice am' nm' km'] 81;rw[hB4];clear hB4;refine nu (SC _ _ (QC.out.call A4.out)) fun v5 w5 hv5 hb5=>?_;obtain⟨m5,a5,n5,c5,b5,d5,e5,rfl⟩:=hv5.qv;have S5:=qx A4 hb5;have y5:=qx y4 S5.out;have T45:=S5;obtain⟨X3,QA,Q5⟩:=zg (X3'.out.call S5.out) (QA'.out.call S5.out) hv5;have Y3:=X3.out.call ((J4 w5.heap.size w5).alloc nr (.cells #[.bool m5,.slice a5 n5 c5,.slice b5 d5 e5] 81));obtain⟨r0,r1,r2⟩:=qz Y3;clear hb5 hv5 SC QC X3' QA' A4 Y3;go_wp2_with fail;obtain⟨B5,hB5,A5,X5⟩:=zy w5 #[.bool m5,.slice a5 n5 c5,.slice b5 d5 e5] 81;rw[hB5];clear hB5;clear r0 r1 r2;refine nu (SA _ _ (QA.out.call A5.out)) fun v6 w6 hv6 hb6=>?_;obtain⟨m6,a6,n6,c6,b6,d6,e6,rfl⟩:=hv6.qv;have S6:=qx A5 hb6;have y6:=qx y5 S6.out;have T46:=qx T45 S6.out;have T36:=qx T34 T46.out;obtain⟨X5',QM,Q6⟩:=zg (X5.out.call hb6) ((Q5.out.call A5.out).call hb6) hv6;clear hb6 hv6 SA QA X3 X5 A5 Q5 T34 T45 S5 S6;go_wp2_with fail;obtain⟨B6,hB6,A6,X6⟩:=zy w6 #[.bool m6,.slice a6 n6 c6,.slice b6 d6 e6] 81;rw[hB6];clear hB6;have QB6:Hid (QB B6 w6.heap.size (dyQ (alN gA gC n 0) (n*(0+1)))):=by
  show QB _ _ _
  rw[<- EL0.out];exact⟨_,_,_,_,_,_,_,X6.out,Q6.out.call A6.out⟩
 clear X6 Q6;have wi0:=qw L
 go_wp2_with fail
 go_loopw [23] (fun s23 wr=>∃ i:Nat,s23=.int .i64 (i:Nat)/\i<=L/\Hid (QB wr w6.heap.size (dyQ (alN gA gC n i) (n*(i+1))))/\Hid (Below w6.heap.size w6 wr)) (fun s23 wr=>L-(intOf s23).toNat)
 case atStart=>exact⟨0,rfl,K5 _,QB6,A6⟩
 case round=>
  obtain⟨i,rfl,hi,hQ,hB⟩:=hrel;have hL256:=HL.out;by_cases hlt:i<L
  .have f1:=qw i
   have f2:(i:Int)<(L:Int):=by omega
   have wi:=qy i (by omega)
   obtain⟨ma,aa,na,ca,ba,da,ea,hba,hqa⟩:=hQ.out;obtain⟨XA,QAa,XM,QMr⟩:=zc hba hqa (X5'.out.call hB.out) (QM.out.call hB.out);obtain⟨b0,b1,b2⟩:=qz hba;obtain⟨b3,b4,b5'⟩:=qz XM.out;obtain⟨LAi,HLT⟩:=zu (LAL.out i (by omega)) hlt;clear hlt hi hL256 hba hqa hQ;go_wp2_with fail;refine ng (c0G _ _ _ _ _ QAa.out QMr.out LAi.out.1 LAi.out.2 LZC.out.1 LZC.out.2) fun v7 w7 hv7 hb7=>?_;obtain⟨m7,a7,n7,c7,b7,d7,e7,rfl⟩:=hv7.qv;have x7:=qx hB hb7;have X7:=hid (XA.out.call hb7);rw[ELN.out i]at hv7;have R7:=hid hv7;obtain⟨t0,t1,t2⟩:=qz X7.out;obtain⟨t3,t4,t5⟩:=qq X7.out;clear hb7 hv7 b0 b1 b2 b3 b4 b5';go_wp2_with fail;go_roundw
   case rel=>exact⟨i+1,by go_num,by have:=HLT.out;omega,QB.put X7.out R7.out,((x7.out.setCell nr _).setCell nr _).setCell nr _⟩
   case measure=>simp[intOf]<;>(have:=HLT.out;omega)
  .obtain rfl:L=i:=by omega
   have q1:decide ((L:Int)<(L:Int))=false:=by simp
   obtain⟨wA,hwA⟩:=qu wr;subst hwA;obtain⟨ma,aa,na,ca,ba,da,ea,hba,hqa⟩:=hQ.out;obtain⟨XA,QAa,XM,QMr⟩:=zc hba hqa (X5'.out.call hB.out) (QM.out.call hB.out);obtain⟨b0,b1,b2⟩:=qz hba;have yA:=qx y6 hB.out;have T4A:=qx T46 hB.out;have T3A:=qx T36 hB.out;clear hlt hi hL256 hba hqa hQ hB QM X5' y6 T46 T36 QB6 A6;go_wp2_with fail;obtain⟨B7,hB7,A7,X7⟩:=zy wA #[.bool ma,.slice aa na ca,.slice ba da ea] 81;rw[hB7];clear hB7;have EA0:Hid (a0p ((c0v gA gC n thr c 0).filter f0O) = []):=by show a0p (List.filter f0O []) = [];rw[List.filter_nil,a0p,List.mergeSort_nil]
   have QR0:Hid (QB B7 wA.heap.size (dyQ (rsN gA gC n thr c 0) (n*(L+1)))):=by
    show QB _ _ _
    rw[ER0.out];exact⟨_,_,_,_,_,_,_,X7.out,QAa.out.call A7.out⟩
   clear X7 q1 b0 b1 b2;go_wp2_with fail
   go_loopw [24,26,27,28,29,30,31,32] (fun s24 s26 s27 s28 s29 s30 s31 s32 wr=>∃ i:Nat,s26=.int .i64 (i:Nat)/\i<=L/\Hid (MRow wr s24 (a0p ((c0v gA gC n thr c i).filter f0O)))/\Hid (QB wr wA.heap.size (dyQ (rsN gA gC n thr c i) (n*(L+1))))/\Hid (Below wA.heap.size wA wr)) (fun s24 s26 s27 s28 s29 s30 s31 s32 wr=>L-(intOf s26).toNat)
   case atStart=>exact⟨0,rfl,K5 _,by rw[EA0.out];exact MRow.nil _,QR0,A7⟩
   case round=>
    obtain⟨i,rfl,hi,hM1,hQ,hB⟩:=hrel;have hL256:=HL.out;by_cases hlt:i<L
    .obtain⟨ci,hci⟩:∃ x,c[i]?=some x:=⟨_,Q0 (by rw[HLL.out];exact hlt)⟩;have hcd:c.getD i 0=ci:=by rw[Z3,hci];rfl
     obtain⟨gc,oc,rfl,hgc,hcc⟩:=Q3.out i ci hci;have HCI:=hid (HCL.out ci (U7 hci));have KC:Hid (∀ W,Below w.heap.size w W->W.cell? ⟨gc,oc+i,none⟩=some (.int .i64 ci)):=fun W hW=>(hW.cell (p:=⟨gc,oc+i,none⟩) hgc).trans hcc
     have KCk:Hid (∀ W k ck,Below w.heap.size w W->c[k]?=some ck->W.cell? ⟨gc,oc+k,none⟩=some (.int .i64 ck)):=fun W k ck hW hk=>by
      obtain⟨gc',oc',e,hgc',hcc'⟩:=Q3.out k ck hk;injection e with e
      injection e with e1 e2
      subst e1 e2;exact (hW.cell (p:=⟨gc,oc+k,none⟩) hgc').trans hcc'
     have f1:=qw i
     have f2:(i:Int)<(L:Int):=by omega
     have wi:=qy i (by omega)
     obtain⟨HLT,HCD,TL⟩:=zg hlt hcd (show (a0p ((c0v gA gC n thr c i).filter f0O)).length<=1000000 from by rw[b0m];exact J0 (Fv _ _) (by rw[AL.out];omega));obtain⟨a13,c13,rfl,-,-,-⟩:=hM1.out.ex;clear hlt hci hcd hgc hcc hi hL256;go_wp2_with fail;refine nu (PN0 _) fun vt w8 hvt hb8=>?_;obtain⟨mt,at',nt,kt,at2,nt2,kt2,rfl⟩:=hvt.qv;have BA8:=qx hB hb8;have BW8:=qx yA BA8.out;have T38:=qx T3A BA8.out;have T48:=qx T4A BA8.out;obtain⟨LT8,M8,R8,QT,A8⟩:=zd (show wA.heap.size<w8.heap.size from by obtain⟨_,_,_,_,_,_,_,h,-⟩:=hQ.out;exact J7 h.lt hb8.size) (hM1.out.call hb8) (hQ.out.call hb8) (QB.new hvt) ((J4 w8.heap.size w8).alloc nr (.cells #[.bool mt,.slice at' nt kt,.slice at2 nt2 kt2] 81));clear hb8 hvt hM1 hQ hB;go_wp2_with fail
     go_loopw [28,29,30] (fun s28 s29 s30 wz=>∃ z:Nat,s28=.int .i64 (z:Nat)/\z<=K/\Hid (QB wz w8.heap.size (dyQ (sqS gA gC n thr c (chA gA n) i z) (n*(L+1))))/\Hid (Below w8.heap.size w8 wz)) (fun s28 s29 s30 wz=>K-(intOf s28).toNat)
     case atStart=>exact⟨0,rfl,K5 _,by rw[EZ.out,j0T];exact QT,A8⟩
     case round=>
      obtain⟨wz,hwz⟩:=qu wr;subst hwz;obtain⟨z,rfl,hz',hQz,hBz⟩:=hrel;have hk65:=HK65.out;by_cases hzl:z<K
      .obtain⟨x,hx,hx2⟩:=t0o (g:=gA) (n:=n) (i:=z) (by rw[HK.out];exact hzl);obtain⟨gl,ol,N,D,rfl,hgl,m1',m2',m3',m4',m5',m6'⟩:=V3.out z _ hx2;have TZ:=qx T38 hBz.out;have T4Z:=qx T48 hBz.out;have BZ:=qx BW8 hBz.out;have QL:=hid (show IsQ .i64 w3 (.agg #[.bool (decide ((dyQ (gA x) n).num<0)),N,D]) (dyQ (gA x) n) from⟨N,D,rfl,m5',m6'⟩);have KA:Hid (∀ W,Below w3.heap.size w3 W->W.cell? ⟨gl,ol+z*4,none⟩=some (.int .i64 x)/\W.cell? ⟨gl,ol+z*4+1,none⟩=some (.bool (decide ((dyQ (gA x) n).num<0)))/\W.cell? ⟨gl,ol+z*4+2,none⟩=some N/\W.cell? ⟨gl,ol+z*4+3,none⟩=some D):=fun W hW=>
        ⟨(hW.cell (p:=⟨gl,ol+z*4,none⟩) hgl).trans m1',(hW.cell (p:=⟨gl,ol+z*4+1,none⟩) hgl).trans m2',(hW.cell (p:=⟨gl,ol+z*4+2,none⟩) hgl).trans m3',(hW.cell (p:=⟨gl,ol+z*4+3,none⟩) hgl).trans m4'⟩
       obtain⟨mq,aq,nq,cq,aq',nq',cq',eq⟩:=QL.out.qv;injection eq with eq
       have eqs:[Value.bool (decide ((dyQ (gA x) n).num<0)),N,D] = [.bool mq,.slice aq nq cq,.slice aq' nq' cq']:=congrArg Array.toList eq;injection eqs with e1 eqs
       injection eqs with e2 eqs
       injection eqs with e3 eqs
       subst e2 e3;rw[e1]at KA QL;have hxn:=(c1c (U7 hx));have HXN:Hid (-(n:Int)<=x/\x<=n):=⟨hxn.1,hxn.2.1⟩;have HX:=hid hx;have g1:=qw z
       have g2:(z:Int)<(K:Int):=by omega
       have wz':=qy z (by omega)
       have HZL:=hid hzl;have bci:=HCI.out;have bth:=HTH.out;have bx:=HXN.out;have bn:=HN.out;have w1':IntKind.i64.wrap (thr+x)=thr+x:=by rw[U0 _ ⟨by omega,by omega⟩]
       have w2':IntKind.i64.wrap (thr+x-ci)=thr+x-ci:=by rw[U0 _ ⟨by omega,by omega⟩]
       have KS:Hid (∀ W,Below wz.heap.size wz W->W.cell? ⟨gl,ol+z*4,none⟩=some (.int .i64 x)/\W.cell? ⟨gl,ol+z*4+1,none⟩=some (.bool mq)/\W.cell? ⟨gl,ol+z*4+2,none⟩=some (.slice aq nq cq)/\W.cell? ⟨gl,ol+z*4+3,none⟩=some (.slice aq' nq' cq')/\W.cell? ⟨gc,oc+i,none⟩=some (.int .i64 ci)):=fun W hW=>
        have h:=KA.out W (a0a TZ.out hW)
        ⟨h.1,h.2.1,h.2.2.1,h.2.2.2,KC.out W (a0a BZ.out hW)⟩
       clear hx hx2 hgl m1' m2' m3' m4' m5' m6' eq eqs e1 hxn hzl hz' hk65 bci bth bx bn
       go_upto_region 27 with fail
       go_cut [29] (fun s29 wx=>∃ g:Nat,s29=.pointer (some ⟨g,0,none⟩)/\Hid (QB wx g (dyQ (ryN gA gC n thr x c i 0) (n*ryE i 0)))/\Hid (Below wz.heap.size wz wx)/\Hid (wz.heap.size<=g))
       case first=>
        have HE:=ES0.out i x;rw[HCD.out]at HE;have HE:=hid HE;refine a0j [0,1,2,3,4,5,6,7,8,9,10,11,12,13,14,15,16,17] 4 (fun w'=>w'.cell? ⟨gl,ol+z*4,none⟩=some (.int .i64 x)/\w'.cell? ⟨gl,ol+z*4+1,none⟩=some (.bool mq)/\w'.cell? ⟨gl,ol+z*4+2,none⟩=some (.slice aq nq cq)/\w'.cell? ⟨gl,ol+z*4+3,none⟩=some (.slice aq' nq' cq')/\w'.cell? ⟨gc,oc+i,none⟩=some (.int .i64 ci)) (by kernel_rfl) (by kernel_rfl) (by kernel_rfl) (by kernel_rfl) (KS.out _ br0.drew) ?_
        iterate 18
         refine⟨_,rfl,?_⟩;apply Exists.intro
         refine⟨.inl ⟨by rfl,?_⟩,?_⟩
         .rintro W' ⟨q5,q6,q7,q8,q9⟩;go_simp;try with_reducible rfl
         go_frame
        refine c0M (i:=18) (j:=20) (by kernel_rfl) (by rfl) (by rfl) (by rfl) (by rfl) ?_ ?_
        .go_wp2_with fail;refine nu (PFR _ _ (thr+x-ci) (UM.out.call T4Z.out.drew)) fun v9 w9 hv9 hb9=>?_;obtain⟨m9,a9,n9,c9,b9,d9,e9,rfl⟩:=hv9.qv;obtain⟨x9,Q9⟩:=zu (show Below wz.heap.size wz w9 from br0.drew.trans hb9) hv9;clear hb9 hv9;go_wp2_with fail;refine⟨KS.out _ x9.out,?_⟩;refine c0M (i:=19) (j:=20) (by kernel_rfl) (by rfl) (by rfl) (by rfl) (by rfl) ?_ ?_
         .go_wp2_with fail;refine ng (c0G _ _ _ _ _ (QL.out.call (a0a TZ.out x9.out)) Q9.out (LGA.out x).1 (LGA.out x).2 (LFR.out _).1 (LFR.out _).2) fun v10 w10 hv10 hb10=>?_;obtain⟨m10,a10,n10,c10,b10,d10,e10,rfl⟩:=hv10.qv;have x10:=qx x9 hb10;rw[HE.out]at hv10;have Q10:=hid hv10;clear hb10 hv10;go_wp2_with fail;refine⟨KS.out _ x10.out,?_⟩;refine a0c (i:=20) (by kernel_rfl) rfl rfl ?_;go_wp2_with fail;refine⟨KS.out _ (x10.out.alloc x10.out.size _),?_⟩;refine a0c (i:=21) (by kernel_rfl) rfl rfl ?_;go_wp2_with fail;refine⟨KS.out _ (x10.out.alloc x10.out.size _),?_⟩;refine J8 (by kernel_rfl) ?_ _;simp only[b0b];go_wp2_with fail
          go_meet
          exact⟨w10.heap.size,rfl,QB.new Q10.out,x10.out.alloc x10.out.size _,x10.out.size⟩
         .go_wp2_with fail;obtain⟨AA,BB,XX⟩:=zg (show Below wz.heap.size wz (w9.alloc (.cells #[.bool false,.slice none 0 0,.slice none 0 0] 81)) from x9.out.alloc x9.out.size _) ((J4 w9.heap.size w9).alloc nr (.cells #[.bool false,.slice none 0 0,.slice none 0 0] 81)) (Blk.new w9 #[.bool false,.slice none 0 0,.slice none 0 0] 81);have Q9':=hid (Q9.out.call BB.out);refine⟨KS.out _ AA.out,?_⟩;refine a0c (i:=19) (by kernel_rfl) rfl rfl ?_;go_wp2_with fail;refine ng (c0G _ _ _ _ _ (QL.out.call (a0a TZ.out AA.out)) Q9'.out (LGA.out x).1 (LGA.out x).2 (LFR.out _).1 (LFR.out _).2) fun v10 w10 hv10 hb10=>?_;obtain⟨m10,a10,n10,c10,b10,d10,e10,rfl⟩:=hv10.qv;have x10:=qx AA hb10;rw[HE.out]at hv10;obtain⟨Q10,X10⟩:=zu hv10 (XX.out.call hb10);clear hb10 hv10;obtain⟨r0,r1,r2⟩:=qz X10.out;obtain⟨r3,r4,r5⟩:=qq X10.out;go_wp2_with fail;refine⟨KS.out _ x10.out,?_⟩;refine a0c (i:=21) (by kernel_rfl) rfl rfl ?_;go_wp2_with fail;refine⟨KS.out _ (((x10.out.setCell x9.out.size _).setCell x9.out.size _).setCell x9.out.size _),?_⟩;refine J8 (by kernel_rfl) ?_ _;simp only[b0b];clear r0 r1 r2 r3 r4 r5;go_wp2_with fail
          go_meet
          exact⟨w9.heap.size,rfl,QB.put X10.out Q10.out,((x10.out.setCell x9.out.size _).setCell x9.out.size _).setCell x9.out.size _,x9.out.size⟩
        .go_wp2_with fail;obtain⟨AA,XX⟩:=zu (show Below wz.heap.size wz (wz.alloc (.cells #[.bool false,.slice none 0 0,.slice none 0 0] 81)).drew from (br0.alloc nr _).drew) (show Blk (wz.alloc (.cells #[.bool false,.slice none 0 0,.slice none 0 0] 81)).drew wz.heap.size #[.bool false,.slice none 0 0,.slice none 0 0] 81 from Blk.new wz _ _);refine⟨KS.out _ AA.out,?_⟩;refine a0c (i:=18) (by kernel_rfl) rfl rfl ?_;go_wp2_with fail;refine nu (PFR _ _ (thr+x-ci) (UM.out.call (a0a T4Z.out AA.out))) fun v9 w9 hv9 hb9=>?_;obtain⟨m9,a9,n9,c9,b9,d9,e9,rfl⟩:=hv9.qv;have x9:=qx AA hb9;obtain⟨Q9,XY⟩:=zu hv9 (XX.out.call hb9);clear hb9 hv9;go_wp2_with fail;refine⟨KS.out _ x9.out,?_⟩;refine a0c (i:=19) (by kernel_rfl) rfl rfl ?_;go_wp2_with fail;refine ng (c0G _ _ _ _ _ (QL.out.call (a0a TZ.out x9.out)) Q9.out (LGA.out x).1 (LGA.out x).2 (LFR.out _).1 (LFR.out _).2) fun v10 w10 hv10 hb10=>?_;obtain⟨m10,a10,n10,c10,b10,d10,e10,rfl⟩:=hv10.qv;have x10:=qx x9 hb10;rw[HE.out]at hv10;obtain⟨Q10,X10⟩:=zu hv10 (XY.out.call hb10);clear hb10 hv10;obtain⟨r0,r1,r2⟩:=qz X10.out;obtain⟨r3,r4,r5⟩:=qq X10.out;go_wp2_with fail;refine⟨KS.out _ x10.out,?_⟩;refine a0c (i:=21) (by kernel_rfl) rfl rfl ?_;go_wp2_with fail;refine⟨KS.out _ (((x10.out.setCell nr _).setCell nr _).setCell nr _),?_⟩;refine J8 (by kernel_rfl) ?_ _;simp only[b0b];clear r0 r1 r2 r3 r4 r5;go_wp2_with fail
         go_meet
         exact⟨wz.heap.size,rfl,QB.put X10.out Q10.out,((x10.out.setCell nr _).setCell nr _).setCell nr _,nr⟩
       case rest=>
        obtain⟨g9,rfl,hQy,hBy,hg9⟩:=hcut;have bci:=HTH.out;have bx:=HXN.out;have bn:=HN.out;clear w1' w2' KS;go_wp2_with fail
        go_loopw [30] (fun s30 wy=>∃ k:Nat,s30=.int .i64 (k:Nat)/\k<=L/\Hid (QB wy g9 (dyQ (ryN gA gC n thr x c i k) (n*ryE i k)))/\Hid (Below wz.heap.size wz wy)) (fun s30 wy=>L-(intOf s30).toNat)
        case atStart=>exact⟨0,rfl,K5 _,hQy,hBy⟩
        case round=>
         clear hQy hBy;obtain⟨wy,hwy⟩:=qu wr;subst hwy;obtain⟨k,rfl,hk',hQy,hBy⟩:=hrel;have hL256:=HL.out;by_cases hkl:k<L
         .obtain⟨ck,hck⟩:∃ x,c[k]?=some x:=⟨_,Q0 (by rw[HLL.out];exact hkl)⟩;have hckd:c.getD k 0=ck:=by rw[Z3,hck];rfl
          have T4Y:=qx T4Z hBy.out;have h1:=qw k
          have h2:(k:Int)<(L:Int):=by omega
          have wk:=qy k (by omega)
          have bck:=HCL.out ck (U7 hck);have w1':IntKind.i64.wrap (thr+x)=thr+x:=by rw[U0 _ ⟨by omega,by omega⟩]
          have w2':IntKind.i64.wrap (thr+x-ck)=thr+x-ck:=by rw[U0 _ ⟨by omega,by omega⟩]
          obtain⟨LPk,HKL⟩:=zu (LP.out i k x HLT.out (by omega)) hkl;have KT:Hid (∀ W,Below wz.heap.size wz W->W.cell? ⟨gl,ol+z*4,none⟩=some (.int .i64 x)/\W.cell? ⟨gc,oc+k,none⟩=some (.int .i64 ck)):=fun W hW=>
           ⟨(KA.out W (a0a TZ.out hW)).1,KCk.out W k ck (a0a BZ.out hW) hck⟩
          obtain⟨m18,a18,n18,c18,b18,d18,e18,hb18,hq18⟩:=hQy.out;obtain⟨B18,V18,XM8,QM8⟩:=zc hb18 hq18 (XM.out.call (a0a BA8.out (a0a hBz.out hBy.out))) (QMr.out.call (a0a BA8.out (a0a hBz.out hBy.out)));rcases Fk k i with hki | hki | hki
          .have p1:(k:Int)<(i:Int):=by omega
           have HE:=EB.out i k x hki;rw[hckd]at HE;have HE:=hid HE;have b0:wy.drew.cell? ⟨g9,0,none⟩=_:=B18.out.drew.cell 0;have b1:wy.drew.cell? ⟨g9,1,none⟩=_:=B18.out.drew.cell 1;have b2:wy.drew.cell? ⟨g9,2,none⟩=_:=B18.out.drew.cell 2;simp at b0 b1 b2;clear hck hckd hkl hk' bck hki hL256 hb18 hq18 hQy;go_wp2_with fail;refine a0j [1,2,3,4,5,6,7,8,9,10,11,12,13] 4 (fun w'=>w'.cell? ⟨gl,ol+z*4,none⟩=some (.int .i64 x)/\w'.cell? ⟨gc,oc+k,none⟩=some (.int .i64 ck)) (by kernel_rfl) (by kernel_rfl) (by kernel_rfl) (by kernel_rfl) (KT.out _ hBy.out.drew) ?_
           iterate 13
            refine⟨_,rfl,?_⟩;apply Exists.intro
            refine⟨.inl ⟨by rfl,?_⟩,?_⟩
            .rintro W' ⟨q8,q9⟩;go_simp;try with_reducible rfl
            go_frame
           refine c0M (i:=0) (j:=14) (by kernel_rfl) (by rfl) (by rfl) (by rfl) (by rfl) ?_ ?_
           focus
            go_wp2_with fail;refine⟨KT.out _ hBy.out.drew,?_⟩;refine a0c (i:=14) (by kernel_rfl) rfl rfl ?_;go_wp2_with fail;refine nu (PBL _ _ (thr+x-ck) (UM.out.call T4Y.out.drew)) fun v11 w11 hv11 hb11=>?_;obtain⟨m11,a11,n11,c11,b11,d11,e11,rfl⟩:=hv11.qv;have z11:=hid (show Below wy.heap.size wy w11 from br0.drew.trans hb11);have x11:=qx hBy z11.out;obtain⟨P11,Q11,X11⟩:=zg (V18.out.call z11.out) hv11 (B18.out.call z11.out);clear hb11 hv11 b0 b1 b2;go_wp2_with fail;refine⟨KT.out _ x11.out,?_⟩
           rotate_left
           focus
            go_wp2_with fail;refine nu (PBL _ _ (thr+x-ck) (UM.out.call T4Y.out.drew)) fun v11 w11 hv11 hb11=>?_;obtain⟨m11,a11,n11,c11,b11,d11,e11,rfl⟩:=hv11.qv;have z11:=hid (show Below wy.heap.size wy w11 from br0.drew.trans hb11);have x11:=qx hBy z11.out;obtain⟨P11,Q11,X11⟩:=zg (V18.out.call z11.out) hv11 (B18.out.call z11.out);clear hb11 hv11 b0 b1 b2;obtain⟨b0,b1,b2⟩:=qz X11.out;go_wp2_with fail;refine⟨KT.out _ x11.out,?_⟩;refine a0c (i:=0) (by kernel_rfl) rfl rfl ?_;go_wp2_with fail;refine⟨KT.out _ x11.out,?_⟩;clear b0 b1 b2
           all_goals
            refine a0c (i:=15) (by kernel_rfl) rfl rfl ?_;go_wp2_with fail;refine ng (c0G _ _ _ _ _ P11.out Q11.out LPk.out.1 LPk.out.2 (LBL.out _).1 (LBL.out _).2) fun v12 w12 hv12 hb12=>?_;obtain⟨m12,a12,n12,c12,b12,d12,e12,rfl⟩:=hv12.qv;have x12:=qx x11 hb12;have X12:=hid (X11.out.call hb12);rw[HE.out]at hv12;have R12:=hid hv12;obtain⟨t0,t1,t2⟩:=qz X12.out;obtain⟨t3,t4,t5⟩:=qq X12.out;clear hb12 hv12;go_wp2_with fail;refine⟨KT.out _ x12.out,?_⟩;refine a0c (i:=16) (by kernel_rfl) rfl rfl ?_;go_wp2_with fail;refine⟨KT.out _ (((x12.out.setCell hg9.out _).setCell hg9.out _).setCell hg9.out _),?_⟩;refine J8 (by kernel_rfl) ?_ _;simp only[b0b];clear t0 t1 t2 t3 t4 t5;go_wp2_with fail;go_roundw
            case rel=>exact⟨k+1,by go_num,by have:=HKL.out;omega,QB.put X12.out R12.out,((x12.out.setCell hg9.out _).setCell hg9.out _).setCell hg9.out _⟩
            case measure=>simp[intOf]<;>(have:=HKL.out;omega)
          .subst hki;have q1:decide ((k:Int)<(k:Int))=false:=by simp
           have HE:=hid (EM.out k x);clear hck hckd hkl hk' bck hL256 hb18 hq18;go_wp2_with fail;go_roundw
           case rel=>exact⟨k+1,by go_num,by have:=HKL.out;omega,by rw[<- HE.out];exact hQy,hBy⟩
           case measure=>simp[intOf]<;>(have:=HKL.out;omega)
          .have p1:¬ (k:Int)<(i:Int):=by omega
           have p2:(i:Int)<(k:Int):=by omega
           have HE:=hid (EH.out i k x hki);obtain⟨b0,b1,b2⟩:=qz B18.out;obtain⟨b3,b4,b5'⟩:=qz XM8.out;clear hck hckd hkl hk' bck hki hL256 hb18 hq18 hQy;go_wp2_with fail;refine ng (c0G _ _ _ _ _ V18.out QM8.out LPk.out.1 LPk.out.2 LZC.out.1 LZC.out.2) fun v12 w12 hv12 hb12=>?_;obtain⟨m12,a12,n12,c12,b12,d12,e12,rfl⟩:=hv12.qv;have x12:=qx hBy hb12;have X12:=hid (B18.out.call hb12);rw[HE.out]at hv12;have R12:=hid hv12;obtain⟨t0,t1,t2⟩:=qz X12.out;obtain⟨t3,t4,t5⟩:=qq X12.out;clear hb12 hv12 b0 b1 b2 b3 b4 b5';go_wp2_with fail;go_roundw
           case rel=>exact⟨k+1,by go_num,by have:=HKL.out;omega,QB.put X12.out R12.out,((x12.out.setCell hg9.out _).setCell hg9.out _).setCell hg9.out _⟩
           case measure=>simp[intOf]<;>(have:=HKL.out;omega)
         .obtain rfl:k=L:=by omega
          have q1:decide ((k:Int)<(k:Int))=false:=by simp
          have Q16:=hid (hQz.out.call hBy.out);obtain⟨m16,a16,n16,c16,b16,d16,e16,hb16,hq16⟩:=Q16.out;obtain⟨m18,a18,n18,c18,b18,d18,e18,hb18,hq18⟩:=hQy.out;obtain⟨B16,V16,V18⟩:=zg hb16 hq16 hq18;obtain⟨b0,b1,b2⟩:=qz hb16;obtain⟨b3,b4,b5'⟩:=qz hb18;obtain⟨LTi,LPk,HE⟩:=zg (LT.out i z HLT.out) (LP.out i k x HLT.out nr) (ET.out i z x HLT.out HX.out);clear hkl hk' hL256 hb16 hq16 hb18 hq18 Q16;go_wp2_with fail;refine ng (e0v _ _ _ _ _ V16.out V18.out LTi.out.1 LTi.out.2 LPk.out.1 LPk.out.2) fun v13 w13 hv13 hb13=>?_;obtain⟨m8,a8,n8,c8,b8,d8,e8,rfl⟩:=hv13.qv;obtain⟨x8,X8⟩:=zu (a0a hBz.out (a0a hBy.out hb13)) (B16.out.call hb13);rw[HE.out]at hv13;have R9:=hid hv13;obtain⟨t0,t1,t2⟩:=qz X8.out;obtain⟨t3,t4,t5⟩:=qq X8.out;clear hb13 hv13 b0 b1 b2 b3 b4 b5';go_wp2_with fail;go_roundw
          case rel=>exact⟨z+1,by go_num,by have:=HZL.out;omega,QB.put X8.out R9.out,((x8.out.setCell nr _).setCell nr _).setCell nr _⟩
          case measure=>simp[intOf]<;>(have:=HZL.out;omega)
      .obtain rfl:z=K:=by omega
       have q1:decide ((z:Int)<(z:Int))=false:=by simp
       obtain⟨m16,a16,n16,c16,b16,d16,e16,hb16,hq16⟩:=hQz.out;obtain⟨B16,V16⟩:=zu hb16 hq16;obtain⟨b0,b1,b2⟩:=qz hb16;have LTi:=hid (LT.out i z HLT.out);have HO:Hid (c0b (dyQ (sqS gA gC n thr c (chA gA n) i z) (n*(L+1)))=dyB (sqT gA gC n thr c i) (n*(L+1))):=by
        show _=_
        rw[s0P,EE.out]
       have BZ:=qx BW8 hBz.out;obtain⟨MZ,RZ⟩:=zu (M8.out.call hBz.out) (R8.out.call hBz.out);clear hzl hz' hk65 hb16 hq16 hQz;go_wp2_with fail;refine nj (c0F _ _ _ V16.out (J0 LTi.out.1 (by omega)) (J0 LTi.out.2 (by omega))) fun w16 hb6=>?_;rw[HO.out];obtain⟨pt,hpt⟩:=gn (dyB (sqT gA gC n thr c i) (n*(L+1)));obtain⟨pe,hpe⟩:=gn (c0p (dyQ (sqS gA gC n thr c (chA gA n) i z) (n*(L+1))));rw[hpt,hpe];obtain⟨HPT,x6⟩:=zu hpt hb6;clear hb6 hpt hpe b0 b1 b2;go_wp2_with fail;refine (k0O _ i (by have:=HL.out;have:=HLT.out;omega)).mono ?_;rintro e w7 ⟨rfl,rfl⟩;go_wp2_with fail;refine ng (k0L _ _ _ _ _ (MZ.out.call x6.out) TL.out) fun u8 w18 hu8 hb8=>?_;have x8:=qx x6 hb8;have hadd:=EA.out i HLT.out;rw[HPT.out]at hadd;rw[hadd]at hu8;have M18:=hid hu8;obtain⟨a8,c8,rfl,-,-,-⟩:=hu8.ex;obtain⟨X16,V8⟩:=zu (B16.out.call x8.out) (V16.out.call x8.out);obtain⟨m14,a14,n14,c14,b14,d14,e14,hb14,hq14⟩:=RZ.out.call x8.out;obtain⟨X14,V14⟩:=zu hb14 hq14;clear hb8 hu8 hb14 hq14 hadd;go_wp2_with fail;have KK:Hid (∀ W,Below w18.heap.size w18 W->W.cell? ⟨w8.heap.size,0,none⟩=some (.bool m16)/\W.cell? ⟨w8.heap.size,1,none⟩=some (.slice a16 n16 c16)/\W.cell? ⟨w8.heap.size,2,none⟩=some (.slice b16 d16 e16)):=fun W hW=>
        ⟨(X16.out.call hW).cell 0,(X16.out.call hW).cell 1,(X16.out.call hW).cell 2⟩
       have b0:w18.drew.cell? ⟨wA.heap.size,0,none⟩=_:=X14.out.drew.cell 0;have b1:w18.drew.cell? ⟨wA.heap.size,1,none⟩=_:=X14.out.drew.cell 1;have b2:w18.drew.cell? ⟨wA.heap.size,2,none⟩=_:=X14.out.drew.cell 2;simp at b0 b1 b2;have LRi:=hid (LR.out i);have HER:=ER.out i HLT.out;rw[<- EE.out i]at HER;have HER:=hid HER;have NQ:=fun V h=>hid (e0w V (.agg #[.bool m16,.slice a16 n16 c16,.slice b16 d16 e16]) (dyQ (sqS gA gC n thr c (chA gA n) i z) (n*(L+1))) h)
       have LNG:Hid ((limbs (-dyQ (sqS gA gC n thr c (chA gA n) i z) (n*(L+1))).num.natAbs).length<=100000/\(limbs (-dyQ (sqS gA gC n thr c (chA gA n) i z) (n*(L+1))).den).length<=100000):=by
        have:=LTi.out;rw[Ij,Hw,Ld];exact this
       refine a0j [1] 4 (fun W=>W.cell? ⟨w8.heap.size,0,none⟩=some (.bool m16)/\W.cell? ⟨w8.heap.size,1,none⟩=some (.slice a16 n16 c16)/\W.cell? ⟨w8.heap.size,2,none⟩=some (.slice b16 d16 e16)) (by kernel_rfl) (by kernel_rfl) (by kernel_rfl) (by kernel_rfl) (KK.out _ br0.drew) ?_
       iterate 1
        refine⟨_,rfl,?_⟩;apply Exists.intro
        refine⟨.inl ⟨by rfl,?_⟩,?_⟩
        .rintro W' ⟨q7,q8,q9⟩;go_simp;try with_reducible rfl
        go_frame
       refine c0M (i:=0) (j:=2) (by kernel_rfl) (by rfl) (by rfl) (by rfl) (by rfl) ?_ ?_
       focus
        go_wp2_with fail;refine⟨KK.out _ br0.drew,?_⟩;refine a0c (i:=2) (by kernel_rfl) rfl rfl ?_;go_wp2_with fail;refine nu (NQ _ (V8.out.call br0.drew)) fun v9 w19 hv9 hb9=>?_;obtain⟨m9,a9,n9,c9,b9,d9,e9,rfl⟩:=hv9.qv;have x9:=hid (show Below w18.heap.size w18 w19 from br0.drew.trans hb9);obtain⟨P9,Q9,X9⟩:=zg (V14.out.call x9.out) hv9 (X14.out.call x9.out);clear hb9 hv9 b0 b1 b2;go_wp2_with fail;refine⟨KK.out _ x9.out,?_⟩
       rotate_left
       focus
        go_wp2_with fail;refine nu (NQ _ (V8.out.call br0.drew)) fun v9 w19 hv9 hb9=>?_;obtain⟨m9,a9,n9,c9,b9,d9,e9,rfl⟩:=hv9.qv;have x9:=hid (show Below w18.heap.size w18 w19 from br0.drew.trans hb9);obtain⟨P9,Q9,X9⟩:=zg (V14.out.call x9.out) hv9 (X14.out.call x9.out);clear hb9 hv9 b0 b1 b2;obtain⟨b0,b1,b2⟩:=qz X9.out;go_wp2_with fail;refine⟨KK.out _ x9.out,?_⟩;refine a0c (i:=0) (by kernel_rfl) rfl rfl ?_;go_wp2_with fail;refine⟨KK.out _ x9.out,?_⟩;clear b0 b1 b2
       all_goals
        refine a0c (i:=3) (by kernel_rfl) rfl rfl ?_;go_wp2_with fail;refine ng (e0v _ _ _ _ _ P9.out Q9.out LRi.out.1 LRi.out.2 LNG.out.1 LNG.out.2) fun v10 w20 hv10 hb10=>?_;obtain⟨mf,af,nf,cf,bf,df,ef,rfl⟩:=hv10.qv;have y10:=qx x9 hb10;have X10:=hid (X9.out.call hb10);rw[HER.out]at hv10;obtain⟨R10,M10⟩:=zu hv10 (M18.out.call y10.out);obtain⟨t0,t1,t2⟩:=qz X10.out;obtain⟨t3,t4,t5⟩:=qq X10.out;have Z16:=hid (X16.out.call y10.out);clear hb10 hv10;go_wp2_with fail;refine⟨KK.out _ y10.out,?_⟩;refine a0c (i:=4) (by kernel_rfl) rfl rfl ?_;go_wp2_with fail;have ne:wA.heap.size≠w8.heap.size:=by have:=LT8.out;omega
        have Y16:=((Z16.out.other (a:=⟨wA.heap.size,0,none⟩) ne (.bool mf)).other (a:=⟨wA.heap.size,1,none⟩) ne (.slice af nf cf)).other (a:=⟨wA.heap.size,2,none⟩) ne (.slice bf df ef);refine⟨⟨Y16.cell 0,Y16.cell 1,Y16.cell 2⟩,?_⟩;refine J8 (by kernel_rfl) ?_ _;simp only[b0b];clear t0 t1 t2 t3 t4 t5 ne Y16;go_wp2_with fail;have z10:=hid (a0a BA8.out (a0a hBz.out (a0a x8.out y10.out)));go_roundw
        case rel=>exact⟨i+1,by go_num,by have:=HLT.out;omega,r0V X10.out _ _ _ _ _ _ _ M10.out,QB.put X10.out R10.out,((z10.out.setCell nr _).setCell nr _).setCell nr _⟩
        case measure=>simp[intOf]<;>(have:=HLT.out;omega)
    .obtain rfl:i=L:=by omega
     have q1:decide ((i:Int)<(i:Int))=false:=by simp
     obtain⟨m14,a14,n14,c14,b14,d14,e14,hb14,hq14⟩:=hQ.out;have V14:=hid hq14;obtain⟨b0,b1,b2⟩:=qz hb14;have LRi:=hid (LR.out i);have HO:Hid (c0b (dyQ (rsN gA gC n thr c i) (n*(i+1)))=dyB (sqT gA gC n thr c i) (n*(i+1))):=by
      show _=_
      rw[s0P,ERE.out]
     obtain⟨TL,TL2,LALi⟩:=zg (show (a0p ((c0v gA gC n thr c i).filter f0O)).length<=1000000 from by rw[b0m];exact J0 (Fv _ _) (by rw[AL.out];omega)) (show (a0p ((c0v gA gC n thr c i ++ [(m1B,dyB (sqT gA gC n thr c i) (n*(i+1)))]).filter f0O)).length<=1000000 from by rw[b0m];exact J0 (Fv _ _) (by rw[J5,AL.out,U8];omega)) (LAL.out i nr);obtain⟨a13,c13,rfl,-,-,-⟩:=hM1.out.ex;have SL:=fun V x h=>hid (j0n V x (dyQ (alN gA gC n i) (n*(i+1))) h LALi.out.1 LALi.out.2)
     rw[ELT.out]at SL;have LSQ:=hid (b0E (show sqL gA gC n i<=2 ^ (n*(i+1)) from Hv _ _) HM1.out);have W9:=fun V x h=>hid (c0F V x (dyQ (sqL gA gC n i) (n*(i+1))) h (J0 LSQ.out.1 (by omega)) (J0 LSQ.out.2 (by omega)))
     rw[s0P]at W9;obtain⟨pl,hpl⟩:=gn (dyB (sqL gA gC n i) (n*(i+1)));rw[hpl]at W9;have EAL':=EAL.out;rw[hpl]at EAL';have EALH:=hid EAL';clear hb14 hq14 hQ hlt hi hL256 hpl EAL';go_wp2_with fail;refine nj (c0F _ _ _ V14.out (J0 LRi.out.1 (by omega)) (J0 LRi.out.2 (by omega))) fun w16 hb6=>?_;rw[HO.out];obtain⟨pt,hpt⟩:=gn (dyB (sqT gA gC n thr c i) (n*(i+1)));obtain⟨pe,hpe⟩:=gn (c0p (dyQ (rsN gA gC n thr c i) (n*(i+1))));rw[hpe];have EAN':=EAN.out;have EALH':=EALH.out;have TL2':=TL2.out;rw[hpt]at EAN' EALH' TL2' |-;obtain⟨q8,hq8⟩:=gn (a0p ((c0v gA gC n thr c i ++ [(m1B,pt)]).filter f0O));rw[hq8]at EAN' EALH' TL2';clear hq8;obtain⟨EANH,EALK,TL2K,x6⟩:=zc EAN' EALH' TL2' hb6;clear hb6 hpt hpe b0 b1 b2 EAN' EALH' TL2';go_wp2_with fail;refine ng (k0L _ _ _ _ _ (hM1.out.call x6.out) TL.out) fun u8 w17 hu8 hb8=>?_;have x7:=qx x6 hb8;rw[show (⟨#[45,49]⟩:ByteArray)=m1B from rfl,EANH.out]at hu8;have M7:=hid hu8;obtain⟨a8,c8,rfl,-,-,-⟩:=hu8.ex;have BA7:=qx hB x7.out;obtain⟨XA7,QA7⟩:=zu (XA.out.call BA7.out) (QAa.out.call BA7.out);obtain⟨b0,b1,b2⟩:=qz XA7.out;clear hb8 hu8;go_wp2_with fail;refine nu (SL _ _ QA7.out) fun v9 w18 hv9 hb9=>?_;obtain⟨x8,Q9⟩:=zu hb9 hv9;clear hb9 hv9 b0 b1 b2;go_wp2_with fail;refine nw (W9 _ _ Q9.out) x8 fun w19 x9=>?_;go_wp2_with fail;refine ng (k0L _ _ _ b0d _ (M7.out.call x9.out) TL2K.out) fun u9 w20 hu9 hb11=>?_;rw[EALK.out]at hu9;obtain⟨Z,U9⟩:=zu (a0a yA.out (a0a BA7.out (a0a x9.out hb11))) hu9;obtain⟨a9,c9,rfl,-,-,-⟩:=hu9.ex;clear hb11 hu9;go_wp2_with fail;go_ret2
     exact⟨⟨_,rfl,U9.out⟩,Z.out⟩
def x0U (w:World)(v:Value)(c:List Int)(thr:Int)(a r:ByteArray)(n:Int)(hv:Row w v (zs c))(ha:a.size<=100000)(hr:r.size<=100000):
 Calls prog 38 #[v,.int .i64 thr,.string a,.string r,.int .i64 n] w fun e w'=>(∃ u,e=.returned (.tuple #[u,.int .i64 (slE c thr a r n)])/\MRow w' u (slR c thr a r n))/\Below w.heap.size w w':=by
 by_cases h0:slE c thr a r n=0
 .have hE:=h0;unfold slE at h0
  split at h0
  .rename_i h1;exact absurd h0 h1
  .rename_i h1
   split at h0
   .cases h0
   .rename_i h2
    split at h0
    .cases h0
    .rename_i h3
     obtain⟨m,rfl⟩:∃ m:Nat,n=(m:Nat):=⟨n.toNat,by omega⟩;rw[hE];have e2:slR c thr a r (m:Nat)=a0p (sqD (gV (bN (cW a)) (bN (qD a)) true m) (gV (bN (cW r)) (bN (qD r)) true m) m thr c):=by unfold slR;rw[J3 hE,Ao]
     rw[e2];refine p0f w v c thr a r m hv ha hr (Ak h1) (by omega) ?_;have:¬ (256:Int)<((m*(c.length+1):Nat):Int):=by rwa[Bp,Ee]
     omega
 .have e2:slR c thr a r n = []:=J2 h0;rw[e2];have HQ:=hid (d0D w v c thr a r hv (by omega) (by omega));have HOA:=fun V=>hid (f0x V a n ha)
  have HOC:=fun V=>hid (f0x V r n hr)
  obtain⟨s,cp,rfl,q1,q2,q3⟩:=hv.openZ;obtain⟨L,hLL⟩:=gn (c.length);unfold slE at h0 |-;obtain⟨z,hz⟩:=gn (g0p c thr a r);have hz0:=hz;rw[hz]at HQ;rw[hz]at h0 |-;rw[hLL]at h0 HQ |-;by_cases c0:z=0
  case neg=>
   rw[J3 c0];have t0':(z != 0)=true:=by simpa using c0
   clear hv q3 hLL hz hz0 h0 c0 ha hr HOA HOC;go_enter func38,ntmps38;go_wp2_with fail;refine ny HQ fun w0 hb0=>?_;go_wp2_with fail;go_ret2
   exact⟨⟨_,rfl,MRow.nil _⟩,hb0⟩
  rw[c0]at HQ;rw[J2 (by rw[c0];simp)]at h0 |-;obtain⟨-,-,k3,k4⟩:=h0d (hz0.trans c0);by_cases c1:n<0\/32<n
  .rw[J3 c1];have hG:glE a n 32=2:=by unfold glE;rw[J2 (by simpa using k3),J3 c1]
   rw[hG]at HOA;clear hv q3 hLL hz hz0 h0 c0 c1 ha hr HOC hG k3 k4;go_enter func38,ntmps38;go_wp2_with fail;refine nz HQ fun w0 y0=>?_;clear HQ;go_wp2_with fail;refine nu (HOA _) fun u1 W1 hu1 hb1=>?_;have y1:=qx y0 hb1;obtain⟨ad,cd,rfl,-,-,-⟩:=hu1.ex;clear hb1 hu1 HOA;go_wp2_with fail;go_ret2
   exact⟨⟨_,rfl,MRow.nil _⟩,y1.out⟩
  .rw[J2 c1]at h0 |-;obtain⟨-,k2,-⟩:=i0k (hz0.trans c0);rw[hLL]at k2;have hG:glE a n 32=0:=by unfold glE;rw[J2 (by simpa using k3),J2 c1]
   have hG2:glE r n 32=0:=by unfold glE;rw[J2 (by simpa using k4),J2 c1]
   rw[hG]at HOA;rw[hG2]at HOC;obtain⟨m,rfl⟩:∃ m:Nat,n=(m:Nat):=⟨n.toNat,by omega⟩;by_cases c2:256<((m:Nat):Int)*(((L:Nat):Int)+1)
   .rw[J3 c2];obtain⟨L1,hL1⟩:∃ L1,L1=L+1:=⟨_,rfl⟩;have wl:IntKind.i64.wrap ((L:Int)+1)=(L1:Int):=by rw[U0 _ ⟨by omega,by omega⟩];omega
    have e1:((L:Nat):Int)+1=(L1:Int):=by omega
    rw[e1]at c2;obtain⟨M,hM⟩:∃ M:Int,(m:Int)*(L1:Int)=M:=⟨_,rfl⟩;have hM2:M<=100000:=by
     rw[<- hM];have h5:m*L1<=32*257:=Ar (by omega) (by omega);have:((m*L1:Nat):Int)<=100000:=by omega
     rwa[Bp]at this
    rw[hM]at c2;have wm:IntKind.i64.wrap ((m:Int)*(L1:Int))=M:=by rw[hM,U0 _ ⟨by omega,by omega⟩]
    have t3:decide (256<M)=true:=Z7 c2;clear hv q3 hz hz0 h0 c0 c1 c2 ha hr hM hM2 k2 k3 k4 e1 hL1 hG hG2;clear hLL;go_enter func38,ntmps38;go_wp2_with fail;refine nz HQ fun w0 y0=>?_;clear HQ;go_wp2_with fail;refine nu (HOA _) fun u1 W1 hu1 hb1=>?_;have y1:=qx y0 hb1;obtain⟨ad,cd,rfl,-,-,-⟩:=hu1.ex;clear hb1 hu1 HOA;go_wp2_with fail;refine nu (HOC _) fun u2 W2 hu2 hb2=>?_;have y2:=qx y1 hb2;obtain⟨ae,ce,rfl,-,-,-⟩:=hu2.ex;clear hb2 hu2 HOC;go_wp2_with fail;go_ret2
    exact⟨⟨_,rfl,MRow.nil _⟩,y2.out⟩
   .rw[J2 c2]at h0;exact absurd rfl h0
end
section
noncomputable def kz (s:ByteArray):Option Int:=@dite _ (∃ v:Int,s=zB v) (Classical.propDecidable _) (fun h=>some (Classical.choose h)) (fun _=>none)
def b1v (v:Int):kz (zB v)=some v:=by
 unfold kz;have h:∃ x:Int,zB v=zB x:=⟨v,rfl⟩;rw[dif_pos h];exact congrArg some (g0U (Classical.choose_spec h)).symm
def s0g:kz b0d=none:=by
 unfold kz;rw[dif_neg];rintro⟨v,h⟩;exact e0t v (congrArg (fun b:ByteArray=>b.data.toList) h.symm)
noncomputable def chS (d:List (ByteArray×ByteArray)):List Int:=d.filterMap fun p=>kz p.1
def o0u {d:List (ByteArray×ByteArray)}{i:Nat}{p:ByteArray×ByteArray}(h:d[i]?=some p):chS (d.take (i+1))=chS (d.take i)++(kz p.1).toList:=by
 unfold chS;rw[Cr,h,Kn,Ik]
 congr 1
theorem o0w {d:List (ByteArray×ByteArray)}{i:Nat}{p:ByteArray×ByteArray}(h:d[i]?=some p)(hp:kz p.1=none):chS (d.take (i+1))=chS (d.take i):=by
 rw[o0u h,hp,Option.toList_none,Cz]
def t0n {d:List (ByteArray×ByteArray)}{i:Nat}{p:ByteArray×ByteArray}{v:Int}(h:d[i]?=some p)(hp:kz p.1=some v):chS (d.take (i+1))=chS (d.take i) ++ [v]:=by
 rw[o0u h,hp];rfl
def i0O (d:List (ByteArray×ByteArray)):(chS d).length<=d.length:=Ga _ _
def z0t (g:Int->Nat)(t n:Nat):(glM g t n).filterMap (fun p=>kz p.1)=chA g n:=by
 unfold glM chA chV;rw[List.filterMap_filterMap,List.filter_map,<- List.filterMap_eq_map,<- List.filterMap_eq_filter,List.filterMap_filterMap]
 congr 1
 funext j
 by_cases h:g ((j:Int)-n)=0
 .simp[h,Option.guard]
 .simp[h,Option.guard,b1v]
def z0s (g:Int->Nat)(t n r:Nat):(chS (a0p (glP g t n r))).Perm (chA g n):=by
 have h:(a0p (glP g t n r)).Perm (glP g t n r):=Gs _ _;refine (h.filterMap fun p=>kz p.1).trans ?_;unfold glP;rw[Ik,z0t];by_cases hr:r=0
 .rw[J3 hr];simp
 .rw[J2 hr];simp[s0g]
def j0g (g:Int->Nat)(t n r:Nat):q0c g n (chS (a0p (glP g t n r))):=fun f hf=>by
 rw[x0D (z0s g t n r)];exact l0Y hf n
def o0v {g:Int->Nat}{n r:Nat}{p:ByteArray×ByteArray}(h:p∈a0p (glP g (2 ^ n) n r)):(∃ v:Int,-(n:Int)<=v/\v<=n/\p.1=zB v/\kz p.1=some v/\p.2=dyB (g v) n)\/(p.1=b0d/\kz p.1=none):=by
 rw[b0H,d0K]at h;rcases h with ⟨v,h1,h2,-,rfl⟩ | ⟨-,rfl⟩
 .exact .inl ⟨v,h1,h2,rfl,b1v v,rfl⟩
 .exact .inr ⟨rfl,s0g⟩
open Go.Shelf
def v0L (n:Nat):Lib.decNat (decDigits n)=some n:=by
 have hd:=b0F n;have hne:decDigits n ≠ []:=by
  intro e;have:=I9 n;rw[e]at this;have:=w0C n;simp at *;omega
 unfold Lib.decNat;rw[J2 (by simpa using hne),i0J hd,g0i,Gf,F9]
def t0z (v:Int):Lib.atoi (Lib.itoa v)=some v:=by
 unfold Lib.itoa
 split
 .rename_i h
  unfold Lib.atoi;show (if ((45:UInt8)==45)=true then Option.map (fun (m:Nat) => -(m:Int)) (Lib.decNat (decDigits v.natAbs)) else _)=_
  rw[J3 (by decide),v0L];show some (-(v.natAbs:Int))=some v
  congr 1;omega
 .rename_i h
  rw[v0V]
  congr 1;omega
def z0K (w:World)(v:Int)(h1 : -1000<=v)(h2:v<=1000):
 qb 163 #[.string (zB v)] w (.tuple #[.int .i64 v,.nilIface]):=by
 have hs:(zB v).size<=18:=by
  rw[<- a0A,f0H];unfold Lib.itoa
  split
  .have hd:=a0l (n:=v.natAbs) (k:=4) (by omega) (by omega);rw[E8,I9];omega
  .have hd:=a0l (n:=v.toNat) (k:=4) (by omega) (by omega);rw[I9];omega
 refine (Tryz.strconv_Atoi (zB v) v hs (by rw[f0H];exact t0z v) w).mono ?_;rintro e w' ⟨rfl,t,rfl⟩;exact⟨rfl,Go.Joins.below_bytesWorld w.heap.size w 5 t nr⟩
def cpC (y:Int×ByteArray):List Value:=[.int .i64 y.1,.string y.2]
def cpF (L:List (Int×ByteArray)):List Value:=L.flatMap cpC
def p0P (L:List (Int×ByteArray)):(cpF L).length=L.length*2:=by
 unfold cpF
 induction L with
 | nil=>rfl
 | cons p r ih=>rw[Lc,J5,ih,E8];simp[cpC];omega
def v0N (L:List (Int×ByteArray))(y:Int×ByteArray):cpF (L ++ [y])=cpF L++cpC y:=by simp[cpF]
def z0d {L:List (Int×ByteArray)}:∀ {i:Nat} {y:Int×ByteArray},L[i]?=some y->(cpF L)[i*2]?=some (.int .i64 y.1)/\(cpF L)[i*2+1]?=some (.string y.2):=by
 induction L with
 | nil=>intro i p h;simp at h
 | cons q r ih=>
  intro i p h;have hl:(cpC q).length=2:=rfl;cases i with
  | zero=>simp at h;subst h;exact⟨rfl,rfl⟩
  | succ i=>
   rw[Ks]at h;obtain⟨h1,h2⟩:=ih h;have e:cpF (q::r)=cpC q++cpF r:=rfl;rw[e];refine⟨?_,?_⟩
   .rw[G8 (by omega),hl,show (i+1)*2-2=i*2 by omega];exact h1
   .rw[G8 (by omega),hl,show (i+1)*2+1-2=i*2+1 by omega];exact h2
def h0x {W:World}{base base':Nat}{e:TypeId}{k:Nat}{v:Value}{n:Nat}{xs:List Value}(h:W.ownsRow base e k v n xs)(hb:base'<=base):W.ownsRow base' e k v n xs:=by
 obtain⟨h1,h2⟩:=h;rcases h2 with h2 | ⟨g,cap,cur,a1,a2,a3⟩
 .exact⟨h1,.inl h2⟩
 .exact⟨h1,.inr ⟨g,cap,cur,a1,J0 hb a2,a3⟩⟩
structure PRow (w:World)(v:Value)(l:List (Int×ByteArray)):Prop where
 ex:∃ a c,v=.slice a l.length c/\l.length<=c/\c<=9223372036854775807/\∀ (i:Nat) (x:Int×ByteArray),l[i]?=some x->∃ g o,a=some ⟨g,o,none⟩/\g<w.heap.size/\w.cell? ⟨g,o+i*2,none⟩=some (.int .i64 x.1)/\w.cell? ⟨g,o+i*2+1,none⟩=some (.string x.2)
theorem PRow.of_owns {w:World}{base n:Nat}{e:TypeId}{v:Value}{L:List (Int×ByteArray)}(h:w.ownsRow base e 2 v n (cpF L)):PRow w v L:=by
 have hn:n=L.length:=by have:=h.1;rw[p0P]at this;omega
 subst hn;rcases h.2 with ⟨rfl,h0⟩ | ⟨g,cap,cur,rfl,hb,hg,k1,k2,k3,k4⟩
 .have hl:L = []:=Ho.1 (by omega);subst hl;exact⟨none,0,rfl,O4 _,by omega,fun i x hx=>by simp at hx⟩
 .obtain⟨o1,o2,o3,o4,o5,o6⟩:=d0F h;refine⟨some ⟨g,0,none⟩,cap,rfl,o6,o5,fun i x hx=>?_⟩;obtain⟨f1,f2⟩:=z0d hx;refine⟨g,0,rfl,o2,?_,?_⟩
  .rw[F9];exact o4 _ _ f1
  .rw[F9];exact o4 _ _ f2
def v0n:(prog.info? 137).map (fun i=>(i.zero,i.size,i.bytes))=some (some (.agg #[.int .i64 0,.string ⟨#[]⟩]),2,24):=by kernel_rfl
def r0O {W:World}{g:Nat}{cs:Array Value}{t:TypeId}(h:Blk W g cs t):∀ j u,cs.toList[j]?=some u->W.cell? ((⟨g,0,none⟩:Addr).add j)=some u:=fun j u hj=>by
 rw[Addr.add_lit,F9,h.cell];simpa using hj
noncomputable def chT (g:Int->Nat)(n:Nat)(d:List (ByteArray×ByteArray))(i:Nat):List (Int×ByteArray):=(chS (d.take i)).map fun v=>(v,dyB (g v) n)
theorem v0P {g:Int->Nat}{n:Nat}{d:List (ByteArray×ByteArray)}{i:Nat}{p:ByteArray×ByteArray}(h:d[i]?=some p)(hp:kz p.1=none):chT g n d (i+1)=chT g n d i:=by unfold chT;rw[o0w h hp]
theorem z0r {g:Int->Nat}{n:Nat}{d:List (ByteArray×ByteArray)}{i:Nat}{p:ByteArray×ByteArray}{v:Int}(h:d[i]?=some p)(hp:kz p.1=some v):chT g n d (i+1)=chT g n d i ++ [(v,dyB (g v) n)]:=by unfold chT;rw[t0n h hp,Ay];rfl
def p0W (g:Int->Nat)(n:Nat)(d:List (ByteArray×ByteArray))(i:Nat):(chT g n d i).length<=d.length:=by
 unfold chT;rw[Dp];refine J0 (i0O _) ?_;rw[Ba];omega
noncomputable def chU (g:Int->Nat)(n:Nat)(d:List (ByteArray×ByteArray))(i:Nat):ByteArray:=dyB (sV g (chS (d.take i))) n
def i0m (w:World)(a:ByteArray)(n:Nat)(ha:a.size<=100000)(hg0:gPE a=0)(hn:n<=32)(hL:LayB w):
 Calls prog 122 #[.string a,.int .i64 (n:Nat)] w fun e w'=>(∃ u,e=.returned (.tuple #[u,.string (dyB (zS n (gV (bN (cW a)) (bN (qD a)) true n)) n)])/\w'.ownsRow w.heap.size 137 2 u ((chS (glR a (n:Nat) true)).map fun v=>(v,dyB (gV (bN (cW a)) (bN (qD a)) true n v) n)).length (cpF ((chS (glR a (n:Nat) true)).map fun v=>(v,dyB (gV (bN (cW a)) (bN (qD a)) true n v) n))))/\Below w.heap.size w w':=by
 obtain⟨i0,hi,hz0,hz1,hz2⟩:=Dx v0n;have HTL:=hid (v0t w a (n:Nat) ha hL.l);have hgl0:glE a (n:Nat) 32=0:=by unfold glE;rw[J2 (by simpa using hg0),J2 (by omega)]
 have hglR:glR a (n:Nat) true=a0p (glP (gV (bN (cW a)) (bN (qD a)) true n) (2 ^ n) n (gL (bN (cW a)) (bN (qD a)) true n)):=by unfold glR;rw[J3 hgl0,Ao]
 have hz:zS n (gV (bN (cW a)) (bN (qD a)) true n)<=2 ^ n:=by have:=o0f (b0R hg0).2 true n;omega
 rw[hgl0]at HTL;rw[hglR]at HTL |-;obtain⟨g,hgg⟩:=gn (gV (bN (cW a)) (bN (qD a)) true n);obtain⟨r,hrr⟩:=gn (gL (bN (cW a)) (bN (qD a)) true n);rw[hgg,hrr]at HTL |-;rw[hgg]at hz;have hM:∀ p∈a0p (glP g (2 ^ n) n r),(∃ v:Int,-(n:Int)<=v/\v<=n/\p.1=zB v/\kz p.1=some v/\p.2=dyB (g v) n)\/(p.1=b0d/\kz p.1=none):=fun p hp=>o0v hp
 have hR:=j0g g (2 ^ n) n r;have hlen:(a0p (glP g (2 ^ n) n r)).length<=100:=by
  rw[b0m];have:(glP g (2 ^ n) n r).length<=2*n+2:=by
   unfold glP glM;rw[J5];have h:=Ga (fun (j:Nat)=>if g ((j:Int)-n)=0 then none else some (zB ((j:Int)-n),shB (g ((j:Int)-n)) (2 ^ n))) (List.range (2*n+1));rw[Lh]at h;have h2:(if r=0 then ([]:List (ByteArray×ByteArray)) else [(b0d,shB r (2 ^ n))]).length<=1:=by split<;>simp
   omega
  omega
 obtain⟨d,hd⟩:=gn (a0p (glP g (2 ^ n) n r));rw[hd]at HTL hM hR hlen |-;have hle:∀ i,sV g (chS (d.take i))<=2 ^ n:=fun i=>by
  have h1:chS d=chS (d.take i)++chS (d.drop i):=by unfold chS;rw[<- Ik,Ej]
  have h2:=hR g (fun v h=>h);rw[h1]at h2;unfold sV at h2 |-;rw[Ay,Kq]at h2;omega
 obtain⟨HLE,HEND,HM,HLN,HN,HL⟩:=zf hle (show sV g (chS d)=zS n g from hR g fun v h=>h) hM hlen hn hL;obtain⟨L,hLL⟩:=gn (d.length);have HLL:=hid hLL;clear ha hg0 hL hgl0 hglR hz hgg hrr hM hR hlen hd hle hn hLL;go_enter func122,ntmps122;go_wp2_with fail;refine nu HTL fun u1 w1 hu1 hb1=>?_;obtain⟨y1,U1⟩:=zu hb1 hu1;obtain⟨ad,cd,rfl,c1,c2,c3⟩:=hu1.ex;have H3:=hid c3;rw[HLL.out]at c1 U1 |-;clear hb1 hu1 c3 HTL;go_wp2_with fail
 go_loopw [8,9,11,12,13,22] (fun s8 s9 s11 s12 s13 s22 wr=>∃ i:Nat,s22=.int .i64 (i:Nat)/\i<=L/\s9=.string (chU g n d i)/\Hid (wr.ownsRow w1.heap.size 137 2 s8 (chT g n d i).length (cpF (chT g n d i)))/\Hid (Below w1.heap.size w1 wr)) (fun s8 s9 s11 s12 s13 s22 wr=>L-(intOf s22).toNat)
 case atStart=>exact⟨0,rfl,K5 _,by unfold chU;rw[Du];exact congrArg _ (m0D n).symm,Cq _ _ _ _,J4 _ _⟩
 case round=>
  obtain⟨i,rfl,hi,rfl,hO,hB⟩:=hrel;have hl100:=HLN.out;by_cases hlt:i<L
  .obtain⟨q,hq⟩:∃ q,d[i]?=some q:=⟨_,Q0 (by rw[HLL.out];exact hlt)⟩;obtain⟨gd,od,rfl,hgd,m1,m2⟩:=H3.out i q hq;have r1:=(hB.out.cell (p:=⟨gd,od+2*i,none⟩) hgd).trans m1;have r2:=(hB.out.cell (p:=⟨gd,od+2*i+1,none⟩) hgd).trans m2;rw[M9 2]at r1 r2;have f1:=qw i
   have f2:(i:Int)<(L:Int):=by omega
   have wi:IntKind.i64.wrap ((i:Int)+1)=((i+1:Nat):Int):=by rw[HLL.out]at hl100;rw[U0 _ ⟨by omega,by omega⟩];omega
   have HLT:=hid hlt;have BW:=qx y1 hB.out;obtain⟨qk,qv⟩:=q;dsimp only at r1 r2;obtain⟨AM,XM⟩:=zu ((Below.refl wr.heap.size wr).alloc nr (.cells #[.string qk,.string qv] 42)) (Blk.new wr #[.string qk,.string qv] 42);have g0:=XM.out.cell 0;have g1:=XM.out.cell 1;simp at g0 g1;rcases HM.out _ (List.mem_of_getElem? hq) with ⟨v,v1,v2,v3,v4,v5⟩ | ⟨v3,v4⟩
   .dsimp only at v3 v4 v5;have HT:=hid (z0r (g:=g) (n:=n) hq v4);have hU:sV g (chS (d.take (i+1)))=sV g (chS (d.take i))+g v:=by
     rw[t0n hq v4];unfold sV;rw[Ay,Kq];simp
    have hle2:=HLE.out (i+1);have HU:Hid (b0D (· + ·) (chU g n d i) qv=chU g n d (i+1)):=by
     show _=_
     unfold chU;rw[v5,hU,s0R (by omega) (by have:=HN.out;omega)]
    have HP:=fun V hV=>hid (h0e V (chU g n d i) qv (J0 (o0n (HLE.out i) (by have:=HN.out;omega)) (by omega)) (by
     have:g v<=2 ^ n:=by omega
     rw[v5];exact J0 (o0n this (by have:=HN.out;omega)) (by omega)) hV)
    rw[HU.out]at HP;have PA:=fun V=>hid (z0K V v (by have:=HN.out;omega) (by have:=HN.out;omega))
    rw[<- v3]at PA;obtain⟨HQV,HLB⟩:=zu v5 (show (chT g n d i).length<=100 from J0 (p0W g n d i) HLN.out);obtain⟨S0,hS0⟩:=gn (chU g n d i);obtain⟨S1,hS1⟩:=gn (chU g n d (i+1));rw[hS0,hS1]at HP;rw[hS0];have HS1:=hid hS1;clear hq hgd m1 m2 hlt hi hl100 v1 v2 v3 v4 v5 hU hle2 HU hS0 hS1;go_wp2_with fail;refine ny (PA _) fun w2 hb2=>?_;have x2:=qx AM hb2;have XM2:=hid (XM.out.call hb2);have KK:Hid (∀ V,Below w2.heap.size w2 V->V.cell? ⟨wr.heap.size,1,none⟩=some (.string qv)):=fun V hV=>(XM2.out.call hV).cell 1
    have lt0:Hid (∀ k,u8.ownBlock=some k->k<wr.heap.size):=fun k h=>(hO.out.lt k h).2
    have HO2:=hid (a0C hO.out x2.out);have HB2:=qx hB x2.out;clear hb2 g0 g1 r1 r2;go_wp2_with fail;refine a0j [0,1,2,3,4,7,8,9] 5 (fun V=>V.cell? ⟨wr.heap.size,1,none⟩=some (.string qv)) (by kernel_rfl) (by kernel_rfl) (by kernel_rfl) (by kernel_rfl) (KK.out _ br0.drew) ?_
    iterate 8
     refine⟨_,rfl,?_⟩;apply Exists.intro
     refine⟨.inl ⟨by rfl,?_⟩,?_⟩
     ·(intro W' hW';obtain q9:=hW';go_simp;try (with_reducible rfl))
     go_frame
    refine a0c (i:=5) (by kernel_rfl) rfl rfl ?_;go_wp2_with fail;obtain⟨z1,b1⟩:=zu (((J4 w2.heap.size w2).alloc nr (.cells #[.int .i64 v,.string qv] 137)).drew) (show Blk (w2.alloc (.cells #[.int .i64 v,.string qv] 137)).drew w2.heap.size #[.int .i64 v,.string qv] 137 from (Blk.new w2 _ _).drew);obtain⟨XM3,o2⟩:=zu (XM2.out.call z1.out) (a0C HO2.out z1.out);have h2:=qx HB2 z1.out;obtain⟨w2d,hw2d⟩:=gn ((w2.alloc (.cells #[.int .i64 v,.string qv] 137)).drew);have hk1:=KK.out _ z1.out;rw[hw2d]at z1 b1 XM3 o2 h2 hk1 |-;clear hw2d;refine⟨hk1,?_⟩;clear hk1;refine a0c (i:=6) (by kernel_rfl) rfl rfl ?_;refine Fd _ rfl _ _ 131 rfl w1.heap.size 137 i0 (.agg #[.int .i64 0,.string ⟨#[]⟩]) 2 24 underlying131 hi hz0 hz1 hz2 rfl (by decide) u8 (chT g n d i).length (cpF (chT g n d i)) rfl o2.out ⟨w2.heap.size,0,none⟩ 1 1 [.int .i64 v,.string qv] rfl rfl (r0O b1.out) (by simp[Value.oneCell']) (by have:=HLB.out;unfold maxLen;omega) (by have:=HLB.out;omega) h2.out.size ?_;intro v2 w3 hown hgrow _ hat;obtain⟨O9,B9⟩:=zu hown (c0x o2.out h2.out hgrow);have c9:=(XM3.out.grown hgrow (fun e=>by have:=lt0.out _ e;omega)).cell 1;simp at c9;clear hown hgrow hat;go_wp2_with fail;refine⟨c9,?_⟩;have C9:=hid c9;refine a0c (i:=10) (by kernel_rfl) rfl rfl ?_;clear c9;go_wp2_with fail;refine ny (HP _ (HL.out.call (a0a y1.out B9.out)).l) fun w4 hb=>?_;have O10:=hid (a0C O9.out hb);have B10:=qx B9 hb;have c10:=(hb.cell (a0e C9.out)).trans C9.out;clear hb;go_wp2_with fail;refine⟨c10,?_⟩;refine a0V (is:=[11,12]) (g:=0) (by kernel_rfl) rfl c10 (by kernel_rfl) ?_
    iterate 2
     refine⟨_,rfl,?_⟩;apply Exists.intro
     refine⟨.inl ⟨by rfl,?_⟩,?_⟩
     ·(intro W' hW';obtain q9:=hW';go_simp;try (with_reducible rfl))
     go_frame
    refine J8 (by kernel_rfl) ?_ _;simp only[b0b];go_wp2_with fail;go_roundw
    case rel=>exact⟨i+1,by go_num,by have:=HLT.out;omega,by rw[HS1.out],by rw[HT.out,v0N,J5,<- HQV.out];exact O10.out,B10⟩
    case measure=>simp[intOf]<;>(have:=HLT.out;omega)
   .dsimp only at v3 v4;subst v3;have HT:=hid (v0P (g:=g) (n:=n) hq v4);have HU:Hid (chU g n d (i+1)=chU g n d i):=by show _=_;unfold chU;rw[o0w hq v4]
    have PA:=fun V hV=>hid (z0L V hV)
    clear hq hgd m1 m2 hlt hi hl100 v4;obtain⟨lt,hlt⟩:=gn b0d;rw[hlt]at PA r1 AM XM;go_wp2_with fail;refine (PA _ (HL.out.call (a0a BW.out AM.out)).s).out.mono ?_;rintro e w2 ⟨⟨te,pe,rfl⟩,hb2⟩;have x2:=qx AM hb2;clear hb2 g0 g1 r1 r2;go_wp2_with fail;go_roundw
    case rel=>exact⟨i+1,by go_num,by have:=HLT.out;omega,by rw[HU.out],by rw[HT.out];exact hO.out.kept (b0O x2.out none) (by cases hv8:Value.ownBlock _<;>simp),a0a hB.out x2.out⟩
    case measure=>simp[intOf]<;>(have:=HLT.out;omega)
  .obtain rfl:i=L:=by omega
   have hT:d.take i=d:=E7 (by rw[HLL.out];exact O4 _);have HO:=hid (h0x hO.out y1.out.size);have hcU:chU g n d i=dyB (zS n g) n:=by unfold chU;rw[hT,HEND.out]
   have hcT:chT g n d i=(chS d).map fun v=>(v,dyB (g v) n):=by unfold chT;rw[hT]
   rw[hcU];rw[hcT]at HO;have BW:=qx y1 hB.out;clear hlt hi hl100 hT hcU hcT;go_wp2_with fail;go_ret2
   exact⟨⟨_,rfl,HO.out⟩,BW.out⟩
structure SqT (gA gC:Int->Nat)(n:Nat)(thr:Int)(c kA:List Int)(SA SC LT:ByteArray)(M:Int->ByteArray)(P D1 D2 H:Int->Nat->ByteArray)(F:Nat->Nat->ByteArray)(AF:Nat->ByteArray)(Z0:ByteArray):Prop where
 less:∀ (V:World) x i,i<c.length->Lay V->Calls prog 125 #[.string SC,.string (M (thr+x-c.getD i 0))] V fun e w'=>e=.returned (.string (D1 x i))/\Below V.heap.size V w'
 times1:∀ (V:World) x i,i<c.length->Lay V->Calls prog 109 #[.string (P x i),.string (D1 x i)] V fun e w'=>e=.returned (.string (D2 x i))/\Below V.heap.size V w'
 times2:∀ (V:World) x i,i<c.length->Lay V->Calls prog 109 #[.string (D2 x i),.string (AF (c.length-1-i))] V fun e w'=>e=.returned (.string (H x i))/\Below V.heap.size V w'
 plus:∀ (V:World) x i j,i<c.length->kA[j]?=some x->Lay V->Calls prog 108 #[.string (F i j),.string (H x i)] V fun e w'=>e=.returned (.string (F i (j+1)))/\Below V.heap.size V w'
 next:∀ (V:World) x i,i<c.length->Lay V->Calls prog 109 #[.string (P x i),.string (M (thr+x-c.getD i 0))] V fun e w'=>e=.returned (.string (P x (i+1)))/\Below V.heap.size V w'
 none:∀ (V:World) x j,kA[j]?=some x->Lay V->Calls prog 108 #[.string (F c.length j),.string (P x c.length)] V fun e w'=>e=.returned (.string (F c.length (j+1)))/\Below V.heap.size V w'
 after:∀ (V:World) i,i<c.length->Lay V->Calls prog 109 #[.string (AF i),.string SC] V fun e w'=>e=.returned (.string (AF (i+1)))/\Below V.heap.size V w'
 last1:∀ (V:World),Lay V->Calls prog 109 #[.string SA,.string (AF c.length)] V fun e w'=>e=.returned (.string Z0)/\Below V.heap.size V w'
 last2:∀ (V:World),Lay V->Calls prog 125 #[.string ⟨#[49]⟩,.string Z0] V fun e w'=>e=.returned (.string LT)/\Below V.heap.size V w'
 start:∀ x,P x 0=dyB (gA x) n
 zero:∀ i,F i 0=⟨#[48]⟩
 one:AF 0=⟨#[49]⟩
 fin:∀ i,i<=c.length->F i kA.length=dyB (sqT gA gC n thr c i) (n*(c.length+1))
 late:LT=dyB (sqL gA gC n c.length) (n*(c.length+1))
def t0Z {gA gC:Int->Nat}{n:Nat}{thr:Int}{c kA:List Int}(hA:zS n gA<=2 ^ n)(hC:zS n gC<=2 ^ n)(hx:∀ x,gA x<=2 ^ n)(rA:q0c gA n kA)(hm:n*(c.length+1)<=1000):
 SqT gA gC n thr c kA (dyB (zS n gA) n) (dyB (zS n gC) n) (dyB (sqL gA gC n c.length) (n*(c.length+1))) (fun m=>dyB (blw gC n m) n) (fun x i=>dyB (sqP gA gC n thr x c i) (n*(i+1)))
  (fun x i=>b0D (· - ·) (dyB (zS n gC) n) (dyB (blw gC n (thr+x-c.getD i 0)) n)) (fun x i=>b0D (· * ·) (dyB (sqP gA gC n thr x c i) (n*(i+1))) (b0D (· - ·) (dyB (zS n gC) n) (dyB (blw gC n (thr+x-c.getD i 0)) n)))
  (fun x i=>dyB (gA x*sqF gC n (thr+x) i 0 c) (n*(c.length+1))) (fun i j=>dyB (sqS gA gC n thr c kA i j) (n*(c.length+1))) (fun i=>dyB (zS n gC ^ i) (n*i)) (b0D (· * ·) (dyB (zS n gA) n) (dyB (zS n gC ^ c.length) (n*c.length))) where
 less V x i hi hL:=q0G V _ _ (e0l _ _) (e0l _ _) hL
 times1 V x i hi hL:=d0W V _ _ (e0l _ _) (J0 (e0F _ _ _) (by omega)) hL
 times2 V x i hi hL:=by
  have h:=d0W V (b0D (· * ·) (dyB (sqP gA gC n thr x c i) (n*(i+1))) (b0D (· - ·) (dyB (zS n gC) n) (dyB (blw gC n (thr+x-c.getD i 0)) n))) (dyB (zS n gC ^ (c.length-1-i)) (n*(c.length-1-i))) (J0 (e0F _ _ _) (by omega)) (e0l _ _) hL;rw[a1r hA hC hx thr x hi hm]at h;exact h
 plus V x i j hi hj hL:=by
  have h:=h0e V (dyB (sqS gA gC n thr c kA i j) (n*(c.length+1))) (dyB (gA x*sqF gC n (thr+x) i 0 c) (n*(c.length+1))) (e0l _ _) (e0l _ _) hL;rw[q0x hA hC rA thr (De hi) hj hm]at h;exact h
 next V x i hi hL:=by
  have h:=d0W V (dyB (sqP gA gC n thr x c i) (n*(i+1))) (dyB (blw gC n (thr+x-c.getD i 0)) n) (e0l _ _) (e0l _ _) hL;rw[t0Y hA hC hx thr x c (i:=i) (J0 (Ad n (by omega)) hm)]at h;exact h
 none V x j hj hL:=by
  have h:=h0e V (dyB (sqS gA gC n thr c kA c.length j) (n*(c.length+1))) (dyB (sqP gA gC n thr x c c.length) (n*(c.length+1))) (e0l _ _) (e0l _ _) hL;rw[q0B,q0x hA hC rA thr nr hj hm,<- q0B]at h;exact h
 after V i hi hL:=by
  have h:=d0W V (dyB (zS n gC ^ i) (n*i)) (dyB (zS n gC) n) (e0l _ _) (e0l _ _) hL;rw[u0a hC (J0 (Ad n (by omega)) hm)]at h;exact h
 last1 V hL:=d0W V _ _ (e0l _ _) (e0l _ _) hL
 last2 V hL:=by
  have h:=q0G V ⟨#[49]⟩ (b0D (· * ·) (dyB (zS n gA) n) (dyB (zS n gC ^ c.length) (n*c.length))) (by decide) (J0 (e0F _ _ _) (by omega)) hL;rw[x0q hA hC hm]at h;exact h
 start x:=by
  show dyB (gA x*sqB gC n (thr+x) c 0) (n*(0+1))=_
  rw[sqB,Dr,F9,Dr]
 zero i:=by
  show dyB (sqS gA gC n thr c kA i 0) _=_
  unfold sqS;rw[Du,w0q,m0D]
 one:=by
  show dyB (zS n gC ^ 0) (n*0)=_
  rw[Dd,Gf];exact s0Q 0
 fin i hi:=by
  show dyB (sqS gA gC n thr c kA i kA.length) _=_
  rw[l0W rA]
 late:=rfl
theorem SqT.conv {gA gC:Int->Nat}{n:Nat}{thr:Int}{c kA:List Int}{SA SC LT SA' SC' LT' Z0 Z0':ByteArray}{M:Int->ByteArray}{P D1 D2 H:Int->Nat->ByteArray}{F:Nat->Nat->ByteArray}{AF:Nat->ByteArray}(h:SqT gA gC n thr c kA SA SC LT M P D1 D2 H F AF Z0)(e1:Z0=Z0')(e2:SA=SA')(e3:SC=SC')(e4:LT=LT'):SqT gA gC n thr c kA SA' SC' LT' M P D1 D2 H F AF Z0':=by
 subst e1 e2 e3 e4;exact h
def o0S {gA gC:Int->Nat}{n:Nat}{thr:Int}{c kA:List Int}{SA SC LT Z0:ByteArray}{M:Int->ByteArray}{P D1 D2 H:Int->Nat->ByteArray}{F:Nat->Nat->ByteArray}{AF:Nat->ByteArray}(h:SqT gA gC n thr c kA SA SC LT M P D1 D2 H F AF Z0):sqW gA gC n thr c 0 = [(m1B,F c.length kA.length),(b0d,LT)]:=by
 unfold sqW;rw[h.fin _ nr,h.late];rfl
def q0y {gA gC:Int->Nat}{n:Nat}{thr:Int}{c kA:List Int}{SA SC LT Z0:ByteArray}{M:Int->ByteArray}{P D1 D2 H:Int->Nat->ByteArray}{F:Nat->Nat->ByteArray}{AF:Nat->ByteArray}(h:SqT gA gC n thr c kA SA SC LT M P D1 D2 H F AF Z0)(i:Nat)(hi:i<=c.length):sqW gA gC n thr c (i+1)=sqW gA gC n thr c i ++ [(a0f i,F i kA.length)]:=by
 rw[u0b,h.fin i hi]
def tlS (AF:Nat->ByteArray)(L i:Nat):List ByteArray:=(List.range L).map fun k=>if L-i<=k then AF (L-1-k) else ⟨#[]⟩
def d0V (AF:Nat->ByteArray)(L i:Nat):(tlS AF L i).length=L:=by simp[tlS]
def h0a {AF:Nat->ByteArray}{L i k:Nat}(h:k<L):(tlS AF L i)[k]?=some (if L-i<=k then AF (L-1-k) else ⟨#[]⟩):=by
 unfold tlS;rw[Et,Fl h];rfl
def t0U (AF:Nat->ByteArray)(L:Nat):tlS AF L 0=List.replicate L ⟨#[]⟩:=by
 apply Aq
 intro k;by_cases h:k<L
 .rw[h0a h,J2 (by omega),Ae,J3 h]
 .rw[U6 (by rw[d0V];omega),U6 (by simp;omega)]
def t0V {AF:Nat->ByteArray}{L i:Nat}(h:i<L):(tlS AF L i).set (L-1-i) (AF i)=tlS AF L (i+1):=by
 apply Aq
 intro k;rw[Db,d0V];by_cases hk:k<L
 .rw[h0a hk,h0a hk];by_cases e:L-1-i=k
  .subst e;rw[J3 rfl,J3 (by omega),J3 (by omega),show L-1-(L-1-i)=i by omega]
  .rw[J2 e];by_cases e2:L-i<=k
   .rw[J3 e2,J3 (by omega)]
   .rw[J2 e2,J2 (by omega)]
 .rw[U6 (l:=tlS AF L i) (by rw[d0V];omega),U6 (l:=tlS AF L (i+1)) (by rw[d0V];omega),J2 (by omega)]
def x0i {AF:Nat->ByteArray}{L k:Nat}(h:k<L):(tlS AF L L)[k]?=some (AF (L-1-k)):=by rw[h0a h,J3 (by omega)]
def fnS (F:Nat->Nat->ByteArray)(L j i:Nat):List ByteArray:=(List.range L).map fun k=>if k<i then F k (j+1) else F k j
def c0u (F:Nat->Nat->ByteArray)(L j i:Nat):(fnS F L j i).length=L:=by simp[fnS]
def e0G {F:Nat->Nat->ByteArray}{L j i k:Nat}(h:k<L):(fnS F L j i)[k]?=some (if k<i then F k (j+1) else F k j):=by
 unfold fnS;rw[Et,Fl h];rfl
def b1L {F:Nat->Nat->ByteArray}{L j i:Nat}(h:i<L):(fnS F L j i)[i]?=some (F i j):=by rw[e0G h,J2 (Hq _)]
def v0x {F:Nat->Nat->ByteArray}{L j i:Nat}(h:i<L):(fnS F L j i).set i (F i (j+1))=fnS F L j (i+1):=by
 apply Aq
 intro k;rw[Db,c0u];by_cases hk:k<L
 .rw[e0G hk,e0G hk];by_cases e:i=k
  .subst e;rw[J3 rfl,J3 hk,J3 (by omega)]
  .rw[J2 e];by_cases e2:k<i
   .rw[J3 e2,J3 (by omega)]
   .rw[J2 e2,J2 (by omega)]
 .rw[U6 (l:=fnS F L j i) (by rw[c0u];omega),U6 (l:=fnS F L j (i+1)) (by rw[c0u];omega),J2 (by omega)]
def y0X (F:Nat->Nat->ByteArray)(L j:Nat):fnS F L j L=fnS F L (j+1) 0:=by
 apply Aq
 intro k;by_cases hk:k<L
 .rw[e0G hk,e0G hk,J3 hk,J2 (by omega)]
 .rw[U6 (by rw[c0u];omega),U6 (by rw[c0u];omega)]
def v0w {F:Nat->Nat->ByteArray}(L:Nat){s:ByteArray}(h:∀ i,F i 0=s):fnS F L 0 0=List.replicate L s:=by
 apply Aq
 intro k;by_cases hk:k<L
 .rw[e0G hk,J2 (by omega),Ae,J3 hk,h]
 .rw[U6 (by rw[c0u];omega),U6 (by simp;omega)]
open Go.Sort
def u0d (w:World)(bn:Nat)(v1:Value)(most:Int)(g:Int->Nat)(n:Nat)(k:List Int)(hn:n<=32)(hz:zS n g<=2 ^ n)(hr:q0c g n k)(hlen:k.length<=100)(hc:w.cell? ⟨bn,1,none⟩=some v1)(hv:PRow w v1 (k.map fun v=>(v,dyB (g v) n)))(hL:Lay w):
 qb 123 #[.int .i64 most,.pointer (some ⟨bn,0,none⟩)] w (.string (dyB (blw g n most) n)):=by
 obtain⟨a,cp,rfl,q1,q2,q3⟩:=hv.ex;obtain⟨L,hLL⟩:=gn (k.length);have e0:(k.map fun v=>(v,dyB (g v) n)).length=L:=by rw[Dp];exact hLL
 rw[e0]at q1 hc;obtain⟨HLL,HL,HLN,H3⟩:=zc hLL hL hlen q3;have HP:=fun i (v:Int) (h:k[i]?=some v) (h2:v<most)=>hid (z0J hz hr h h2 (by omega))
 have HS:=fun i (v:Int) (h:k[i]?=some v) (h2:most<=v)=>hid (z0I (g:=g) h (Int.not_lt.2 h2))
 have HE:=hid (w0Y hr most);have HZ0:Hid (dyB (k0f g k most 0) n=⟨#[48]⟩):=by
  show _=_
  unfold k0f;rw[Du,w0q,m0D]
 clear hv hL hLL e0 q3 hr hz hlen hn;go_enter func123,ntmps123;go_wp2_with fail
 go_loopw [4,6,10] (fun s4 s6 s10 wr=>∃ i:Nat,s10=.int .i64 (i:Nat)/\i<=L/\s4=.string (dyB (k0f g k most i) n)/\Hid (Below w.heap.size w wr)) (fun s4 s6 s10 wr=>L-(intOf s10).toNat)
 case atStart=>exact⟨0,rfl,K5 _,by rw[HZ0.out],J4 _ _⟩
 case round=>
  obtain⟨i,rfl,hi,rfl,hB⟩:=hrel;have hl100:=HLN.out;by_cases hlt:i<L
  .obtain⟨v,hv⟩:∃ v,k[i]?=some v:=⟨_,List.getElem?_eq_getElem (by rw[HLL.out];exact hlt)⟩;obtain⟨gd,od,rfl,hgd,m1,m2⟩:=H3.out i (v,dyB (g v) n) (by rw[List.getElem?_map,hv];rfl);dsimp only at m1 m2;have r1:=(hB.out.cell (p:=⟨gd,od+i*2,none⟩) hgd).trans m1;have r2:=(hB.out.cell (p:=⟨gd,od+i*2+1,none⟩) hgd).trans m2;have f1:=qw i
   have f2:(i:Int)<(L:Int):=by omega
   have wi:IntKind.i64.wrap ((i:Int)+1)=((i+1:Nat):Int):=by rw[HLL.out]at hl100;rw[U0 _ ⟨by omega,by omega⟩];omega
   have PP:=fun V hV=>hid (h0e V (dyB (k0f g k most i) n) (dyB (g v) n) (e0l _ _) (e0l _ _) hV)
   have HPi:=HP i v hv;have HSi:=HS i v hv;obtain⟨S,hS⟩:=gn (dyB (k0f g k most i) n);obtain⟨Y,hY⟩:=gn (dyB (g v) n);rw[hS,hY]at PP;rw[hS]at HPi |-;rw[hY]at HPi r2;obtain⟨HS0,AM,XM⟩:=zg hS ((J4 wr.heap.size wr).alloc nr (.cells #[.int .i64 v,.string Y] 137)) (Blk.new wr #[.int .i64 v,.string Y] 137);have g0:=XM.out.cell 0;have g1:=XM.out.cell 1;simp at g0 g1;have HLT:=hid hlt;by_cases hvm:v<most
   .have t0:decide (v<most)=true:=Z7 hvm;have HX:=HPi hvm;rw[HX.out]at PP;clear hv hgd m1 m2 hS hY hlt hi hl100 hvm HPi HSi HX;go_wp2_with fail;refine ny (PP _ (HL.out.call (a0a hB.out AM.out))) fun w2 hb2=>?_;have y2:=hid (a0a hB.out (a0a AM.out hb2));clear hb2;go_wp2_with fail;go_roundw
    case rel=>exact⟨i+1,by go_num,HLT.out,rfl,y2⟩
    case measure=>simp[intOf]<;>(have:=HLT.out;omega)
   .have t0:decide (v<most)=false:=Z6 hvm;have HX:=HSi (Int.not_lt.1 hvm);clear hv hgd m1 m2 hS hY hlt hi hl100 HPi HSi;go_wp2_with fail;go_roundw
    case rel=>exact⟨i+1,by go_num,HLT.out,by rw[HX.out,HS0.out],a0a hB.out AM.out⟩
    case measure=>simp[intOf]<;>(have:=HLT.out;omega)
  .obtain rfl:i=L:=by omega
   have hE:dyB (k0f g k most i) n=dyB (blw g n most) n:=by rw[<- HE.out,HLL.out]
   rw[hE];clear hlt hi hl100 hE;go_wp2_with fail;go_ret
   exact⟨rfl,hB.out⟩
def a1v (w:World)(x:ByteArray×ByteArray):qb 126 #[.agg #[.string x.1,.string x.2]] w (.bool (!f0O x)):=by
 obtain⟨k,v⟩:=x;have X1:=hid (Blk.new w #[.string k,.string v] 42);have z1:=X1.out.cell 1;simp at z1;dsimp only;by_cases h:v=⟨#[48]⟩
 .subst h;have e1:(!f0O (k,(⟨#[48]⟩:ByteArray)))=true:=by simp[f0O]
  rw[e1];go_enter func126,ntmps126;go_wp2_with fail;go_ret
  exact⟨rfl,br0.alloc nr _⟩
 .have e1:(!f0O (k,v))=false:=by simp[f0O,h]
  rw[e1];have t1:(v.toList == [48])=false:=a0O h;clear h e1;go_enter func126,ntmps126;go_wp2_with fail;go_ret
  exact⟨rfl,br0.alloc nr _⟩
def u0c (p q:ByteArray×ByteArray)(w:World):Calls prog 127 #[.agg #[.string p.1,.string p.2],.agg #[.string q.1,.string q.2]] w fun e w'=>e=.returned (.int .i64 (p0T p q))/\∃ n os',w'=grow (w.drewN n) os':=by
 obtain⟨p1,p2⟩:=p;obtain⟨q1,q2⟩:=q;dsimp only;have HC:=fun V=>hid (k0H V p1 q1)
 unfold p0T b0t;dsimp only;obtain⟨r,hr⟩:∃ r:Int,(if p1.data.toList<q1.data.toList then (-1:Int) else if q1.data.toList<p1.data.toList then 1 else 0)=r:=⟨_,rfl⟩;rw[hr]at HC |-;clear hr;go_enter func127,ntmps127;go_wp2_with fail;refine zx (HC _) ?_;go_wp2_with fail;go_ret
 exact⟨rfl,0,_,by rw[Me,Me,grow_grow];rfl⟩
end
section
open Go.Shelf
def Od:=@Go.Proofs.Tryz.func102
def Mn:=@Go.Proofs.Tryz.ntmps102
def d0j (w:World)(v:Value)(c:List Int)(thr:Int)(a r:ByteArray)(hv:Row w v (zs c))(ha:a.size<=100000)(hr:r.size<=100000)(hL:Lay w):
 qb 102 #[v,.int .i64 thr,.agg #[.string a,.string r]] w (.int .i64 (g0p c thr a r)):=by
 have HA:=fun V hV=>hid (e0Y V a ha hV)
 have HB:=fun V hV=>hid (e0Y V r hr hV)
 have CO:=fun V v h=>hid (o0Y V v [gPE a,gPE r] h)
 rw[f0N]at CO;have HV:=hid hv;obtain⟨s,cp,rfl,q1,q2,q3⟩:=hv.openZ;have HC:=fun V hV=>hid (h0g V (.slice s c.length cp) c 185 d0z hV (by omega) (Cw func185 (by kernel_rfl) rfl) (fun W x=>q0F W x))
 have HT:=fun V=>hid (q0F V thr)
 obtain⟨HL,A0,X0⟩:=zg hL ((J4 w.heap.size w).alloc nr (.cells #[.string a,.string r] 116)) (Blk.new w #[.string a,.string r] 116);obtain⟨n,hn⟩:=gn (c.length);obtain⟨b,hb⟩:=gn (c.any d0z);obtain⟨bt,hbt⟩:=gn (d0z thr);obtain⟨x0,hx⟩:=gn (gPE a);obtain⟨z0,hz⟩:=gn (gPE r);unfold g0p ctE zE;simp only[hx]at HA;simp only[hz]at HB;rw[hx,hz]at CO |-;simp only[hb,hn]at HC;simp only[hbt]at HT;rw[hn]at HV |-;rw[hb,hbt];clear hv ha hr hL q1 q2 q3 hn hb hbt hx hz;by_cases h0:n=0
 .subst h0;rw[J3 rfl,J3 (by decide)];go_enter Od,Mn;go_wp2_with fail;go_ret
  exact⟨rfl,A0.out⟩
 have t0:((n:Int)==0)=false:=by rw[M5];omega
 by_cases h1:256<n
 .have t1:decide ((256:Int)<(n:Int))=true:=by simp;omega
  rw[J2 h0,J3 h1,J3 (by decide)];clear h0 h1;go_enter Od,Mn;go_wp2_with fail;go_ret
  exact⟨rfl,A0.out⟩
 have t1:decide ((256:Int)<(n:Int))=false:=by simp;omega
 rw[J2 h0,J2 h1];clear h0 h1;cases b
 case true=>
  rw[J3 rfl,J3 (by decide)];go_enter Od,Mn;go_wp2_with fail;refine (HC _ (HV.out.call A0.out)).out.mono ?_;rintro e w1 ⟨rfl,rfl⟩;go_wp2_with fail;go_ret
  exact⟨rfl,A0.out⟩
 simp only[Bn,Eh,ne_eq,Lg];cases bt
 case true=>
  simp only[Ew];go_enter Od,Mn;go_wp2_with fail;refine (HC _ (HV.out.call A0.out)).out.mono ?_;rintro e w1 ⟨rfl,rfl⟩;go_wp2_with fail;refine (HT _).out.mono ?_;rintro e w2 ⟨rfl,rfl⟩;go_wp2_with fail;go_ret
  exact⟨rfl,A0.out⟩
 simp only[Bn,Eh];obtain⟨q,hq⟩:=gn ((if x0≠0 then x0 else z0));have hq':(if ¬x0=0 then x0 else z0)=q:=hq;rw[hq]at CO;rw[hq'];clear hq hq';go_enter Od,Mn;go_wp2_with fail;refine zx (HC _ (HV.out.call A0.out)) ?_;go_wp2_with fail;refine zx (HT _) ?_;go_wp2_with fail;obtain⟨W,hW⟩:=gn (w.alloc (.cells #[.string a,.string r] 116));rw[hW]at A0 X0 |-;have KK:Hid (∀ V,Below W.heap.size W V->V.cell? ⟨w.heap.size,0,none⟩=some (.string a)/\V.cell? ⟨w.heap.size,1,none⟩=some (.string r)):=fun V hV=>
  ⟨(X0.out.call hV).cell 0,(X0.out.call hV).cell 1⟩
 clear X0 hW;refine a0j [0,1,3,4] 5 (fun V=>V.cell? ⟨w.heap.size,0,none⟩=some (.string a)/\V.cell? ⟨w.heap.size,1,none⟩=some (.string r)) (by kernel_rfl) (by kernel_rfl) (by kernel_rfl) (by kernel_rfl) (KK.out _ br0.drew) ?_
 iterate 4
  refine⟨_,rfl,?_⟩;apply Exists.intro
  refine⟨.inl ⟨by rfl,?_⟩,?_⟩
  .rintro W' ⟨q8,q9⟩;go_simp;try with_reducible rfl
  go_frame
 refine a0c (i:=2) (by kernel_rfl) rfl rfl ?_;go_wp2_with fail;refine ny (HA _ (HL.out.call (A0.out.drew))) fun w3 hb3=>?_;have y3:=hid (show Below W.heap.size W w3 from br0.drew.trans hb3);clear hb3;go_wp2_with fail;refine⟨KK.out _ y3.out,?_⟩;refine a0c (i:=5) (by kernel_rfl) rfl rfl ?_;go_wp2_with fail;refine nw (HB _ (HL.out.call (a0a A0.out y3.out))) y3 fun w4 y4=>?_;go_wp2_with fail;refine⟨KK.out _ y4.out,?_⟩;refine a0c (i:=6) (by kernel_rfl) rfl rfl ?_;go_wp2_with fail;have y5:=hid (y4.out.alloc y4.out.size (.cells #[.int .i64 x0,.int .i64 z0] 27));refine⟨KK.out _ y5.out,?_⟩;refine a0c (i:=7) (by kernel_rfl) rfl rfl ?_;go_wp2_with fail;refine zx (CO _ _ (b0V _ _ _ _)) ?_;go_wp2_with fail;refine⟨KK.out _ y5.out,?_⟩;refine a0V (is:=[8]) (g:=0) (by kernel_rfl) rfl (KK.out _ y5.out) (by kernel_rfl) ?_
 iterate 1
  refine⟨_,rfl,?_⟩;apply Exists.intro
  refine⟨.inl ⟨by rfl,?_⟩,?_⟩
  .rintro W' ⟨q8,q9⟩;go_simp;try with_reducible rfl
  go_frame
 refine J8 (by kernel_rfl) ?_ _;simp only[b0b];go_wp2_with fail;go_ret
 exact⟨rfl,a0a A0.out y5.out⟩
end
end Go.Proofs.YtfkpfpobmobnbaaGreatDoor
