/- Texts that the proof rests on, merged: Fd14, Fd15, FrC, Rt4i, RtC, ChLt, Rt8, Fd16, PkL, Lits, Pv0, R2r, R2b, R2p. -/
import Derived.Test.YtfkpfpobmobnbaaGreatDoorPa10
import Derived.IntWalk
import Derived.Deep.RegionHeld3
set_option linter.defProp false
set_option linter.unusedVariables false
set_option linter.unusedSimpArgs false
set_option linter.unusedSectionVars false
set_option maxRecDepth 100000
set_option maxHeartbeats 8000000
namespace Go.Proofs.YtfkpfpobmobnbaaGreatDoor
section
open Go.RowKit Go.Shelf
open Go.Lib (decDigits nDigits)
def flE (c:List Int)(a:ByteArray)(n:Int):Int:=if qnE c a≠0 then qnE c a else if n<0\/32<n then 2 else if 256<n*(c.length:Nat) then 5 else 0
def flR (c:List Int)(a:ByteArray)(n:Int):List (ByteArray×ByteArray):=if flE c a n=0 then a0y (fkP (gV (bN (cW a)) (bN (qD a)) false n.toNat) n.toNat c) else []
def a1t (w:World)(x:ByteArray×ByteArray):Calls Tryz.prog 97 #[.agg #[.string x.1,.string x.2]] w fun e w'=>e=.returned (.bool (!h0q x))/\Below w.heap.size w w':=by
 obtain⟨k,v⟩:=x;have X1:=hid (Blk.new w #[.string k,.string v] 42);have z1:=X1.out.cell 1;simp at z1;dsimp only;by_cases h:v=⟨#[48]⟩
 .subst h;have e1:(!h0q (k,(⟨#[48]⟩:ByteArray)))=true:=by simp[h0q]
  rw[e1];go_enter Tryz.func97,Tryz.ntmps97;go_wp2_with fail;go_ret
  exact⟨rfl,br0.alloc nr0 _⟩
 .have e1:(!h0q (k,v))=false:=by simp[h0q,h]
  rw[e1];have t1:(v.toList == [48])=false:=a0L h;clear h e1;go_enter Tryz.func97,Tryz.ntmps97;go_wp2_with fail;go_ret
  exact⟨rfl,br0.alloc nr0 _⟩
def q0y {W:World}{base:Nat}{e:TypeId}{k:Nat}{v:Value}{n:Nat}{xs:List Value}(h:W.ownsRow base e k v n xs):∀ r,v.ownBlock=some r->∃ cur,W.heap[r]?=some (.cells cur e (0,0)):=by
 intro r hr;rcases h.2 with ⟨rfl,_⟩ | ⟨g,cap,cur,rfl,_,hg,_⟩
 .simp[Value.ownBlock]at hr
 .simp only[Value.ownBlock,Ad]at hr;subst hr;exact⟨_,hg⟩
structure LwI (w W1 wr:World)(bx bm bp:Nat)(g:Int->Nat)(n:Nat)(d:Value)(i:Nat)(L:List (ByteArray×ByteArray)):Prop where
 noi:NoiS Unit wr bx bm bp g n
 own:wr.ownsRow W1.heap.size 42 2 d i (a0O L)
 bel:Below w.heap.size w wr
 siz:W1.heap.size<=wr.heap.size
theorem LwI.call {w W1 wr wr':World}{bx bm bp:Nat}{g:Int->Nat}{n:Nat}{d:Value}{i:Nat}{L:List (ByteArray×ByteArray)}(h:LwI w W1 wr bx bm bp g n d i L)(hb:Below wr.heap.size wr wr'):LwI w W1 wr' bx bm bp g n d i L:=
 ⟨h.noi.call hb,a0Q h.own hb,a0a h.bel hb,O0 h.siz hb.size⟩
theorem LwI.grow {w W1 wr wr':World}{bx bm bp:Nat}{g:Int->Nat}{n:Nat}{d:Value}{i:Nat}{L:List (ByteArray×ByteArray)}(h:LwI w W1 wr bx bm bp g n d i L)(hn:NoiS Unit wr' bx bm bp g n)(hg:wr.grownBy wr' (some bm))(h1:w.heap.size<=bm)(h2:bm<W1.heap.size):LwI w W1 wr' bx bm bp g n d i L:=by
 refine⟨hn,h.own.kept hg ?_,⟨hg.os.trans h.bel.os,hg.tape.trans h.bel.tape,hg.output.trans h.bel.output,O0 h.bel.size hg.size,fun k hk=>?_⟩,O0 h.siz hg.size⟩
 .refine .inr fun e=>?_
  have:=(h.own.lt bm e).1;omega
 .exact (hg.block k (U6 hk h.bel.size) (fun e=>by injection e with e;omega)).trans (h.bel.block k hk)
structure LwT (g:Int->Nat)(n:Nat)(c:List Int)(PF:Nat->Nat->Nat->ByteArray)(CT:Int->ByteArray)(TF:Nat->Nat->ByteArray)(FT RF:Nat->ByteArray):Prop where
 start:∀ i v,v<=n->(prT g n)[v]?=some (PF i v 0)
 same:∀ i v,PF i v (i+1)=PF i v i
 times:∀ (V:World) i v k,i<c.length->v<=n->k<c.length->k≠i->Lay V->Calls Tryz.prog 89 #[.string (PF i v k),.string (CT (if k<i then c.getD i 0+v-c.getD k 0 else c.getD i 0+v-c.getD k 0+1))] V fun e w'=>e=.returned (.string (PF i v (k+1)))/\Below V.heap.size V w'
 below:∀ (V:World) bx bm bp (most:Int),NoiS Unit V bx bm bp g n->Lay V->Calls Tryz.prog 93 #[.pointer (some ⟨bx,0,none⟩),.int .i64 most] V fun e w'=>e=.returned (.string (CT most))/\NoiS Unit w' bx bm bp g n/\V.grownBy w' (some bm)
 plus:∀ (V:World) i v,i<c.length->v<=n->Lay V->Calls Tryz.prog 94 #[.string (TF i v),.string (PF i v c.length)] V fun e w'=>e=.returned (.string (TF i (v+1)))/\Below V.heap.size V w'
 zero:∀ i,TF i 0=⟨#[48]⟩
 tend:∀ i,TF i (n+1)=FT i
 less:∀ (V:World) i,i<c.length->Lay V->Calls Tryz.prog 95 #[.string (RF i),.string (FT i)] V fun e w'=>e=.returned (.string (RF (i+1)))/\Below V.heap.size V w'
 one:RF 0=⟨#[49]⟩
 next:∀ i,c0r g n c (i+1)=c0r g n c i ++ [(a0f i,FT i)]
 all:fkW g n c=c0r g n c c.length ++ [(b0o,RF c.length)]
def o0R (x m:Nat):(dyB x m).size<=1000000:=by
 have:=d0o (qmk false x (2 ^ m));show (c0p _).size<=_
 omega
def t0W {g:Int->Nat}{n:Nat}{c:List Int}(hn:n<=32)(hg:∀ v:Int,v<0->g v=0)(hz:zS n g<=2 ^ n)(hm:n*c.length<=1000):
 LwT g n c (fun i v k=>dyB (fkN g n (c.getD i 0) v i c k) (n*bI i k)) (fun m=>dyB (cmC g n m) n) (fun i v=>dyB (fkS g n c i v) (n*c.length)) (fun i=>dyB (fkT g n c i) (n*c.length)) (fun i=>dyB (fkR g n c i) (n*c.length)) where
 start i v hv:=by
  rw[q0q hv];show some (dyB (g v) n)=some (dyB (g v) (n*bI i 0))
  rw[show bI i 0=1 from by unfold bI;rw[J2 (S4 _)],De]
 same i v:=by
  show dyB (fkN _ _ _ _ _ _ (i+1)) _=dyB (fkN _ _ _ _ _ _ i) _
  rw[fkN,J2 rfl,m0l]
 times V i v k hi hv hk hne hL:=by
  have h:=n0n V (dyB (fkN g n (c.getD i 0) v i c k) (n*bI i k)) (dyB (cmC g n (if k<i then c.getD i 0+v-c.getD k 0 else c.getD i 0+v-c.getD k 0+1)) n) (o0R _ _) (o0R _ _) hL;rw[u0r hg hz (by omega) hi hk hne hm]at h;exact h
 below V bx bm bp most hN hL:=u0z V bx bm bp n g most hn hg hz hN hL
 plus V i v hi hv hL:=by
  have h:=r0z V (dyB (fkS g n c i v) (n*c.length)) (dyB (fkN g n (c.getD i 0) v i c c.length) (n*bI i c.length)) (o0R _ _) (o0R _ _) hL;rw[x0B hg hz hi hv hm]at h;exact h
 zero i:=j0b _
 tend i:=by show dyB (fkS g n c i (n+1)) _=_;rw[l0N]
 less V i hi hL:=by
  have h:=x0I V (dyB (fkR g n c i) (n*c.length)) (dyB (fkT g n c i) (n*c.length)) (o0R _ _) (o0R _ _) hL;rw[x0C hg hz hi hm]at h;exact h
 one:=by
  show dyB (2 ^ (n*c.length)-0) _=_
  rw[Kn,x0N]
 next i:=f0k g n c i
 all:=rfl
open Go.Sort
def u0x (p q:ByteArray×ByteArray)(w:World):Calls Tryz.prog 98 #[.agg #[.string p.1,.string p.2],.agg #[.string q.1,.string q.2]] w fun e w'=>e=.returned (.int .i64 (o0Z p q))/\∃ n os',w'=grow (w.drewN n) os':=by
 obtain⟨p1,p2⟩:=p;obtain⟨q1,q2⟩:=q;dsimp only;have HC:=fun V=>hid (j0S V p1 q1)
 unfold o0Z b0B;dsimp only;obtain⟨r,hr⟩:∃ r:Int,(if p1.data.toList<q1.data.toList then (-1:Int) else if q1.data.toList<p1.data.toList then 1 else 0)=r:=⟨_,rfl⟩;rw[hr]at HC |-;clear hr;go_enter Tryz.func98,Tryz.ntmps98;go_wp2_with fail;refine (HC _).out.mono ?_;rintro e w1 ⟨rfl,rfl⟩;go_wp2_with fail;go_ret
 exact⟨rfl,0,_,by rw[Lj,Lj,grow_grow];rfl⟩
def r0C (w:World)(v:Value)(c:List Int)(a:ByteArray)(n:Nat)(hv:Row w v (zs c))(ha:a.size<=100000)(hq:qnE c a=0)(hn:n<=32)(hm:n*c.length<=256)(hL:LayB w):
 Calls Tryz.prog 26 #[v,.string a,.int .i64 (n:Nat)] w fun e w'=>(∃ u,e=.returned (.tuple #[u,.int .i64 0])/\MRow w' u (a0y (fkP (gV (bN (cW a)) (bN (qD a)) false n) n c)))/\Below w.heap.size w w':=by
 obtain⟨k1,k2,k3,k4⟩:=k0f hq;have hND:=(c0h k4).2;have HQ:=hid (e0m w v c a hv ha hL.l);rw[hq]at HQ;have HNZ:=fun V hV=>hid (l0O (H:=Unit) V a n ha k4 hn hV)
 have hg:∀ v:Int,v<0->gV (bN (cW a)) (bN (qD a)) false n v=0:=fun v hv=>f0i n hv
 have hz:zS n (gV (bN (cW a)) (bN (qD a)) false n)<=2 ^ n:=by have:=n0i hND false n;omega
 obtain⟨g,hgg⟩:=gn (gV (bN (cW a)) (bN (qD a)) false n);rw[hgg]at HNZ hg hz |-;have hT:=t0W (c:=c) hn hg hz (by omega);obtain⟨PF,hPF⟩:∃ PF:Nat->Nat->Nat->ByteArray,(fun (i v k:Nat)=>dyB (fkN g n (c.getD i 0) (v:Int) i c k) (n*bI i k))=PF:=⟨_,rfl⟩;obtain⟨CT,hCT⟩:∃ CT:Int->ByteArray,(fun m=>dyB (cmC g n m) n)=CT:=⟨_,rfl⟩;obtain⟨TF,hTF⟩:∃ TF:Nat->Nat->ByteArray,(fun i v=>dyB (fkS g n c i v) (n*c.length))=TF:=⟨_,rfl⟩;obtain⟨FT,hFT⟩:∃ FT:Nat->ByteArray,(fun i=>dyB (fkT g n c i) (n*c.length))=FT:=⟨_,rfl⟩;obtain⟨RF,hRF⟩:∃ RF:Nat->ByteArray,(fun i=>dyB (fkR g n c i) (n*c.length))=RF:=⟨_,rfl⟩;rw[hPF,hCT,hTF,hFT,hRF]at hT;clear hPF hCT hTF hFT hRF;have HT:=hid hT;have HND:=hid (n0k g n c);have HFL:=hid (fun i=>f0y g n c i);have HFZ:Hid (c0r g n c 0 = []):=rfl;have HPP:Hid (fkP g n c=(fkW g n c).filter fun x => !(!h0q x)):=by
  show fkP g n c=_
  unfold fkP;refine List.filter_congr fun x _=>?_
  rw[Bool.not_not]
 have HPN:=hid (a1r g n c);obtain⟨FA,hFA⟩:=gn (c0r g n c);obtain⟨FW,hFW⟩:=gn (fkW g n c);obtain⟨FP,hFP⟩:=gn (fkP g n c);have HNX:=hid hT.next;have HAL:=hid hT.all;rw[hFA]at HNX HAL HFL HFZ;rw[hFW]at HAL HND HPP;rw[hFP]at HPP HPN |-;have HV:=hid hv;have HL:=hid hL;have HN:=hid hn;have HR:=hid k3;obtain⟨s,cp,rfl,q1,q2,q3⟩:=hv.openZ;obtain⟨L,hLL⟩:=gn (c.length);have HLL:=hid hLL;rw[hLL]at hm k1 k2 q1 HV HQ HAL |-;have Q3:=hid q3;have s1:decide ((n:Int)<0)=false:=by simp
 have s2:decide ((32:Int)<(n:Int))=false:=by simp;omega
 obtain⟨M,hM⟩:∃ M:Int,(n:Int)*(L:Int)=M:=⟨_,rfl⟩;have hM2:M<=256:=by
  rw[<- hM];have:((n*L:Nat):Int)<=256:=by omega
  rwa[By]at this
 have wm:IntKind.i64.wrap ((n:Int)*(L:Int))=M:=by rw[hM,Q0 _ ⟨by omega,by omega⟩]
 have s3:decide (256<M)=false:=by simp;omega
 obtain⟨i0,hi,hz0,hz1,hz2⟩:=Dj g0V;have HK1:=hid k1;have HK2:=hid k2;clear hv ha hq hn hL hND hg hz hgg hT hFA hFW hFP k3 k4 hLL q3 hM2 hM hm;go_enter Tryz.func26,Tryz.ntmps26;go_wp2_with fail;refine HQ.out.mono ?_;rintro e w0 ⟨rfl,hb0⟩;have y0:=hid hb0;clear hb0 HQ;go_wp2_with fail;refine (HNZ _ (HL.out.call y0.out)).out.mono ?_;rintro e W1 ⟨⟨bx,bm,bp,rfl,hbm,hnoi⟩,hb1⟩;have y1:=hid (a0a y0.out hb1)
 have HBM:Hid (w.heap.size<=bm/\bm<W1.heap.size):=⟨O0 y0.out.size hbm,by
  rcases hnoi.m with h | ⟨_,_,h,-⟩
  .exact h.lt
  .exact h.lt⟩
 have I0:Hid (LwI w W1 W1 bx bm bp g n (.slice none 0 0) 0 (FA 0)):=⟨hnoi,by rw[HFZ.out];exact⟨rfl,.inl ⟨rfl,rfl⟩⟩,y1.out,J4 _⟩;clear hb1 hbm hnoi HNZ s1 s2 s3 wm;go_wp2_with fail
 go_loopw [10,11,12,13,14,15,16,17,43] (fun s10 s11 s12 s13 s14 s15 s16 s17 s43 wr=>∃ i:Nat,s43=.int .i64 (i:Nat)/\s11=.string (RF i)/\i<=L/\Hid (LwI w W1 wr bx bm bp g n s10 i (FA i))) (fun s10 s11 s12 s13 s14 s15 s16 s17 s43 wr=>L-(intOf s43).toNat)
 case atStart=>exact⟨0,rfl,by rw[HT.out.one],S4 _,I0⟩
 case round=>
  obtain⟨i,rfl,rfl,hi',hI⟩:=hrel;obtain⟨ad,cd,rfl⟩:=b0i hI.out.own;by_cases hlt:i<L
  .have q0:decide ((i:Int)<(L:Int))=true:=by simp;omega
   have d0:decide (i<L)=true:=by simp;omega
   have wi:IntKind.i64.wrap ((i:Int)+1)=((i+1:Nat):Int):=by have:=HK2.out;rw[Q0 _ ⟨by omega,by omega⟩];omega
   have IL:=hid hlt;obtain⟨ci,hci⟩:∃ x,c[i]?=some x:=⟨_,J0 (by rw[HLL.out];exact hlt)⟩;have hcd:c.getD i 0=ci:=by rw[J3,hci];rfl
   obtain⟨gc,oc,rfl,hgc,hcc⟩:=Q3.out i ci hci;have HCC:=hid hcc;have HGC:=hid hgc;have HCD:=hid hcd;have hrc:=HR.out ci (C7 hci);have HRC:=hid hrc;have e0:(0:Int)<=(i:Int):=by omega
   have e1:(i:Int)<(L:Int):=by omega
   have r0:=hI.out.noi.x.cell 0;simp at r0;clear hci hcc hgc hcd hrc hi' hlt;have I1:Hid (LwI w W1 wr bx bm bp g n (.slice ad i cd) i (FA i)):=hI;have w31:((n:Nat):Int)<=32:=by have:=HN.out;omega
   go_wp2_with fail
   go_loopw [13,14,15,16,17,51] (fun s13 s14 s15 s16 s17 s51 wq=>∃ v:Nat,s51=.int .i64 (v:Nat)/\s13=.string (TF i v)/\v<=n+1/\Hid (LwI w W1 wq bx bm bp g n (.slice ad i cd) i (FA i))) (fun s13 s14 s15 s16 s17 s51 wq=>n+1-(intOf s51).toNat)
   case atStart=>exact⟨0,rfl,by rw[HT.out.zero],S4 _,I1⟩
   case round=>
    clear I1 hI r0;obtain⟨v,rfl,rfl,hv',hI⟩:=hrel;by_cases hlt:v<n+1
    .have q1:decide ((v:Int)<((n+1:Nat):Int))=true:=by simp;omega
     have wv:IntKind.i64.wrap ((v:Int)+1)=((v+1:Nat):Int):=by rw[Q0 _ ⟨by omega,by omega⟩];omega
     have VL:=hid hlt;have hst:=HT.out.start i v (by omega);have r1:wr.cell? ⟨bp,v,none⟩=some (.string (PF i v 0)):=by
      rw[hI.out.noi.p.cell,J5];exact d0D hst
     have f0:(0:Int)<=(v:Int):=by omega
     have f1:(v:Int)<(n:Int)+1:=by omega
     have f2:(v:Int)<=32:=by omega
     have HSAME:=hid (HT.out.same i v);have HTIM:=hid (fun (V:World) (k:Nat) (hk:k<L) (hne:k≠i) (hV:Lay V)=>HT.out.times V i v k (by rw[HLL.out];exact IL.out) (by have:=VL.out;omega) (by rw[HLL.out];exact hk) hne hV);have HPLU:=hid (fun (V:World) (hV:Lay V)=>HT.out.plus V i v (by rw[HLL.out];exact IL.out) (by have:=VL.out;omega) hV);rw[HCD.out]at HTIM;rw[HLL.out]at HPLU;obtain⟨P,hP⟩:=gn (PF i v);obtain⟨T0,hT0⟩:=gn (TF i v);obtain⟨T1,hT1⟩:=gn (TF i (v+1));rw[hP]at HSAME HTIM HPLU r1;rw[hT0,hT1]at HPLU;have HT0:=hid hT0;have HT1:=hid hT1;rw[hT0];have wcv:IntKind.i64.wrap (ci+(v:Int))=ci+(v:Int):=by have:=HRC.out;rw[Q0 _ ⟨by omega,by omega⟩]
     clear hst hP hT0 hT1 hv' hlt;go_wp2_with fail
     go_loopw [15,16,17,58] (fun s15 s16 s17 s58 wq=>∃ k:Nat,s58=.int .i64 (k:Nat)/\s15=.string (P k)/\k<=L/\Hid (LwI w W1 wq bx bm bp g n (.slice ad i cd) i (FA i))) (fun s15 s16 s17 s58 wq=>L-(intOf s58).toNat)
     case atStart=>exact⟨0,rfl,rfl,S4 _,hI⟩
     case round=>
      clear hI r1;obtain⟨k,rfl,rfl,hk',hI⟩:=hrel;by_cases hlt:k<L
      .have q2:decide ((k:Int)<(L:Int))=true:=by simp;omega
       have wk:IntKind.i64.wrap ((k:Int)+1)=((k+1:Nat):Int):=by have:=HK2.out;rw[Q0 _ ⟨by omega,by omega⟩];omega
       have KL:=hid hlt;obtain⟨ck,hck⟩:∃ x,c[k]?=some x:=⟨_,J0 (by rw[HLL.out];exact hlt)⟩;have hkd:c.getD k 0=ck:=by rw[J3,hck];rfl
       obtain⟨g2,o2,e2,-,hc2⟩:=Q3.out k ck hck;simp only[Ad,Hc,and_true]at e2;obtain⟨rfl,rfl⟩:=e2;have hrk:=HR.out ck (C7 hck);have c1:=(hI.out.bel.cell (p:=⟨gc,oc+i,none⟩) HGC.out).trans HCC.out;have c2:=(hI.out.bel.cell (p:=⟨gc,oc+k,none⟩) HGC.out).trans hc2;obtain⟨G,hG⟩:=gn (ci+(v:Int)-ck);have hGb : -9000000000000000<=G/\G<=9000000000000000:=by have:=HRC.out;omega
       have wg:IntKind.i64.wrap (ci+(v:Int)-ck)=G:=by rw[hG,Q0 _ ⟨by omega,by omega⟩]
       have wg1:IntKind.i64.wrap (G+1)=G+1:=by rw[Q0 _ ⟨by omega,by omega⟩]
       have g0:(0:Int)<=(k:Int):=by omega
       have g1:(k:Int)<(L:Int):=by omega
       have HTK:=fun (hne:k≠i) (V:World) (hV:Lay V)=>HTIM.out V k KL.out hne hV
       rw[hkd,hG]at HTK;clear hck hkd hc2 hrk hG hGb hk' hlt;rcases Dd k i with hki | hki | hki
       focus
        have p2:decide (k<i)=true:=by simp;omega
        have HTJ:=fun V hV=>hid (HTK (Nat.ne_of_lt hki) V hV)
        rw[J2 hki]at HTJ
       rotate_left
       .subst hki;clear HTK;go_wp2_with fail;go_quiet (fail)
        go_wp2_with fail;have I2:=hid (hI.out.call (a0j br0 nq));go_roundw
        case rel=>exact⟨k+1,by go_num,by rw[HSAME.out],KL.out,I2⟩
        case measure=>simp[intOf]<;>(have:=KL.out;omega)
       focus
        have p2:decide (k<i)=false:=by simp;omega
        have p4:decide (i<k)=true:=by simp;omega
        have HTJ:=fun V hV=>hid (HTK (Mv hki) V hV)
        rw[U0 (by omega)]at HTJ
       all_goals
        clear HTK hki;go_wp2_with fail;go_quiet (fail)
        go_wp2_with fail;have I2:=hid (hI.out.call (a0j br0 nq));refine (HT.out.below _ _ _ _ _ I2.out.noi (HL.out.call I2.out.bel).l).mono ?_;rintro e w3 ⟨rfl,hn3,hg3⟩;have I3:=hid (I2.out.grow hn3 hg3 HBM.out.1 HBM.out.2);clear hn3 hg3 I2 c1 c2;go_wp2_with fail;refine (HTJ _ (HL.out.call I3.out.bel).l).out.mono ?_;rintro e w4 ⟨rfl,hb4⟩;have I4:=hid (I3.out.call hb4);clear hb4 I3;go_wp2_with fail;go_roundw
        case rel=>exact⟨k+1,by go_num,rfl,KL.out,I4⟩
        case measure=>simp[intOf]<;>(have:=KL.out;omega)
      .obtain rfl:k=L:=by omega
       have q2:decide ((k:Int)<(k:Int))=false:=by simp
       clear hlt hk';go_wp2_with fail;refine (HPLU.out _ (HL.out.call hI.out.bel).l).mono ?_;rintro e w4 ⟨rfl,hb4⟩;have I4:=hid (hI.out.call hb4);clear hb4;go_wp2_with fail;go_roundw
       case rel=>exact⟨v+1,by go_num,by rw[HT1.out],VL.out,I4⟩
       case measure=>simp[intOf]<;>(have:=VL.out;omega)
    .obtain rfl:v=n+1:=by omega
     have q1:decide ((n:Int)+1<(n:Int)+1)=false:=by simp
     have PI:=fun V hV=>hid (v0g V i (by have:=HK2.out;have:=IL.out;omega) hV)
     have PLS:=fun V hV=>hid (HT.out.less V i (by rw[HLL.out];exact IL.out) hV)
     have HNXi:=hid (HNX.out i);have hIL:i<256:=by have:=HK2.out;have:=IL.out;omega
     rw[HT.out.tend];obtain⟨I,hIi⟩:=gn (a0f i);obtain⟨F,hF⟩:=gn (FT i);rw[hIi]at PI HNXi;rw[hF]at PLS HNXi |-;have HIL:=hid hIL;clear hlt hv' hIi hF hIL;go_wp2_with fail;refine (PI _ (HL.out.call hI.out.bel).l).out.mono ?_;rintro e w3 ⟨rfl,hb3⟩;have I3:=hid (hI.out.call hb3);clear hb3;have b3:=I3.out.siz;go_wp2_with (at_builtin;refine Bw _ rfl _ _ 37 rfl W1.heap.size 42 i0 (.agg #[.string ⟨#[]⟩,.string ⟨#[]⟩]) 2 32 Av hi hz0 hz1 hz2 rfl (by decide) _ i _ rfl (I3.out.own.alloc _) ⟨w3.heap.size,0,none⟩ 1 1 [.string I,.string F] rfl rfl (cell_two_new w3 (.string I) (.string F) 42) (by simp[Value.oneCell']) (by have:=HIL.out;unfold maxLen;omega) (by omega) (by simp;omega) ?_;intro v' w5 hown5 hgrow5 _)
     have A3:Below w3.heap.size w3 (w3.alloc (.cells #[.string I,.string F] 42)):=br0.alloc nr0 _;have I4:=I3.out.call A3;have hrow:∀ k,(Value.slice ad i cd).ownBlock=some k->W1.heap.size<=k:=fun k e=>(I3.out.own.lt k e).1
     have I5:Hid (LwI w W1 w5 bx bm bp g n v' (i+1) (FA (i+1))):=by
      refine⟨?_,?_,?_,?_⟩
      .exact I4.noi.grown hgrow5 (q0y I4.own)
      .rw[HNXi.out,b0l];exact hown5
      .refine I4.bel.trans ⟨hgrow5.os,hgrow5.tape,hgrow5.output,hgrow5.size,fun k hk=>hgrow5.block k (by have:=I4.bel.size;omega) (fun e=>?_)⟩;have:=hrow k e.symm;have:=y1.out.size;omega
      .exact O0 I4.siz hgrow5.size
     clear hown5 hgrow5 I3 A3 I4 hrow b3;obtain⟨ad5,cd5,rfl⟩:=b0i I5.out.own;go_wp2_with fail;refine (PLS _ (HL.out.call I5.out.bel).l).out.mono ?_;rintro e w6 ⟨rfl,hb6⟩;have I6:=hid (I5.out.call hb6);clear hb6 I5;go_wp2_with fail;go_roundw
     case rel=>exact⟨i+1,by go_num,rfl,IL.out,I6⟩
     case measure=>simp[intOf]<;>(have:=IL.out;omega)
  .obtain rfl:i=L:=by omega
   have q1:decide ((i:Int)<(i:Int))=false:=by simp
   clear hlt hi';have b3:=hI.out.siz;have hIL:=HK2.out;obtain⟨F,hF⟩:=gn (RF i);rw[hF]at HAL |-;clear hF;go_wp2_with (at_builtin;refine Bw _ rfl _ _ 37 rfl W1.heap.size 42 i0 (.agg #[.string ⟨#[]⟩,.string ⟨#[]⟩]) 2 32 Av hi hz0 hz1 hz2 rfl (by decide) _ i _ rfl (hI.out.own.alloc _) ⟨wr.heap.size,0,none⟩ 1 1 [.string ⟨#[108,97,116,101]⟩,.string F] rfl rfl (cell_two_new wr (.string ⟨#[108,97,116,101]⟩) (.string F) 42) (by simp[Value.oneCell']) (by unfold maxLen;omega) (by omega) (by simp;omega) ?_;intro v' w5 hown5 hgrow5 _)
   have A3:Below wr.heap.size wr (wr.alloc (.cells #[.string ⟨#[108,97,116,101]⟩,.string F] 42)):=br0.alloc nr0 _;have I4:=hI.out.call A3;have hrow:∀ k,(Value.slice ad i cd).ownBlock=some k->W1.heap.size<=k:=fun k e=>(hI.out.own.lt k e).1
   have B5:Hid (Below w.heap.size w w5):=by
    refine I4.bel.trans ⟨hgrow5.os,hgrow5.tape,hgrow5.output,hgrow5.size,fun k hk=>hgrow5.block k (by have:=I4.bel.size;omega) (fun e=>?_)⟩;have:=hrow k e.symm;have:=y1.out.size;omega
   have S5:Hid (W1.heap.size<=w5.heap.size):=O0 I4.siz hgrow5.size;have O5:w5.ownsRow W1.heap.size 42 2 v' (i+1) (a0O FW):=by rw[HAL.out,b0l];exact hown5
   obtain⟨gd,cap,rfl,hgB,hglt⟩:=O5.form (Ed i);have hFWl:FW.length=i+1:=by have:=O5.1;rw[a0Y]at this;omega
   have PD:=hid (z0d w5 97 (fun x => !h0q x) gd cap W1.heap.size (i+1) FW O5 hFWl (by omega) S5.out (Ch Tryz.func97 (by kernel_rfl) rfl) (fun W x=>a1t W x));rw[<- HPP.out]at PD;have HFPl:Hid (FP.length<=i+1):=by
    show _<=_
    rw[HPP.out,<- hFWl];exact Gn _ _
   have Y1:=hid (y1.out.size);clear hown5 hgrow5 A3 I4 hrow b3 hI O5 hgB hglt hFWl;go_wp2_with fail;refine PD.out.mono ?_;rintro e w6 ⟨⟨m,hm,rfl,O6⟩,hb6⟩;have B6:=hid (B5.out.trans (hb6.mono Y1.out));rcases O6.2 with ⟨e1,_⟩ | ⟨g',cap',cur,e1,hgb,hgh,h1,h2,h3,h4⟩
   .simp at e1
   simp only[Hv,Ad,Hc,and_true,true_and]at e1;obtain⟨rfl,rfl⟩:=e1;have hdl:=HFPl.out;have hSM:=p0T 98 gd cap W1.heap.size FP.toArray w6 cur hgb hgh (by simp;omega) h2 h3 (by simp;rw[<- hm];exact h4) (by simp;omega) (by simpa using HPN.out) (Ch Tryz.func98 (by kernel_rfl) rfl) (fun x y W=>u0x x y W);simp only[Ae]at hSM;rw[<- hm]at hSM;have HSM:=hid hSM;clear hSM h1 h2 h3 h4 hgh hdl O6 hb6 PD hm;go_wp2_with fail;refine HSM.out.mono ?_;rintro e w8 ⟨rfl,ho8,hb8⟩;have B8:=hid (B6.out.trans (hb8.mono Y1.out));have M8:=hid (MRow.of_owns ho8);clear ho8 hb8;go_wp2_with fail;go_ret2
   exact⟨⟨_,rfl,M8.out⟩,B8.out⟩
end
section
open Go.RowKit
def v0e (q:Rat) : -1<=sgQ q/\sgQ q<=1:=by
 unfold sgQ
 split
 .omega
 .split<;>omega
def w0P (a b:Nat) : -1<=b0d a b/\b0d a b<=1:=by
 unfold b0d
 split
 .omega
 .split<;>omega
def b1M (w:World)(v u:Value)(p q:Rat)(hp:IsQ .u64 w v p)(hq:IsQ .u64 w u q)
 (h1:(limbs p.num.natAbs).length<=100000) (h2:(limbs p.den).length<=100000) (h3:(limbs q.num.natAbs).length<=100000) (h4:(limbs q.den).length<=100000):
 Calls Tryz.prog 189 #[v,u] w fun e w'=>e=.returned (.int .i64 (cmF p q))/\Below w.heap.size w w':=by
 have PS1:=fun V v h=>hid (r0E V v p h)
 have PS2:=fun V v h=>hid (r0E V v q h)
 have PM1:=fun V v u hv hu=>hid (h0s V v u p.num.natAbs q.den hv hu (O0 h1 (by omega)) (O0 h4 (by omega)))
 have PM2:=fun V v u hv hu=>hid (h0s V v u q.num.natAbs p.den hv hu (O0 h3 (by omega)) (O0 h2 (by omega)))
 have lx:=d0q h1 h4;have PC:=fun V v u hv hu=>hid (l0G V v u (p.num.natAbs*q.den) (q.num.natAbs*p.den) hv hu (O0 lx (by omega)))
 have bp:=v0e p;have bq:=v0e q;have bo:=w0P (p.num.natAbs*q.den) (q.num.natAbs*p.den);obtain⟨Z,hZ⟩:=gn (cmF p q);rw[hZ];unfold cmF at hZ;obtain⟨s1,hs1⟩:=gn (sgQ p);obtain⟨s2,hs2⟩:=gn (sgQ q);obtain⟨oc,hoc⟩:=gn (b0d (p.num.natAbs*q.den) (q.num.natAbs*p.den));rw[hs1]at PS1 bp hZ;rw[hs2]at PS2 bq hZ;rw[hoc]at PC bo hZ;have HZ:=hid hZ;have HP:=hid hp;have HQ:=hid hq;obtain⟨N1,D1,rfl,hn1,hd1⟩:=hp.ex;obtain⟨N2,D2,rfl,hn2,hd2⟩:=hq.ex;have HN1:=hid hn1;have HD1:=hid hd1;have HN2:=hid hn2;have HD2:=hid hd2;obtain⟨a1,c1,rfl,_⟩:=hn1.openI;obtain⟨a2,c2,rfl,_⟩:=hd1.openI;obtain⟨a3,c3,rfl,_⟩:=hn2.openI;obtain⟨a4,c4,rfl,_⟩:=hd2.openI;obtain⟨k1,hk1⟩:=gn ((limbs p.num.natAbs).length);obtain⟨k2,hk2⟩:=gn ((limbs p.den).length);obtain⟨k3,hk3⟩:=gn ((limbs q.num.natAbs).length);obtain⟨k4,hk4⟩:=gn ((limbs q.den).length);obtain⟨m1,hm1⟩:=gn (decide (p.num<0));obtain⟨m2,hm2⟩:=gn (decide (q.num<0));rw[hk1]at HN1;rw[hk2]at HD1;rw[hk3]at HN2;rw[hk4]at HD2;rw[hk1,hk2,hm1]at HP |-;rw[hk3,hk4,hm2]at HQ |-;have HM1:Hid ((p.num<0)↔m1=true):=by rw[<- hm1];simp[Hid]
 clear hZ hk1 hk2 hk3 hk4 hm1 hm2 hn1 hn2 hd1 hd2 hp hq h1 h2 h3 h4 lx hs1 hs2 hoc;have W12:IntKind.i64.wrap (s1-s2)=s1-s2:=Q0 _ ⟨by omega,by omega⟩;have WO:IntKind.i64.wrap (-oc) = -oc:=Q0 _ ⟨by omega,by omega⟩;clear bp bq bo;go_enter Tryz.func189,Tryz.ntmps189;go_wp2_with fail;obtain⟨W,hW⟩:=gn ((w.alloc (.cells #[.bool m1,.slice a1 k1 c1,.slice a2 k2 c2] 126)).alloc (.cells #[.bool m2,.slice a3 k3 c3,.slice a4 k4 c4] 126));have Y0:Blk W w.heap.size #[.bool m1,.slice a1 k1 c1,.slice a2 k2 c2] 126:=by rw[<- hW];exact (Blk.new w _ _).alloc _
 have Y1:Blk W (w.heap.size+1) #[.bool m2,.slice a3 k3 c3,.slice a4 k4 c4] 126:=by rw[<- hW];exact Blk.made _ _ _ (by simp)
 have y0:Below w.heap.size w W:=by rw[<- hW];exact (br0.alloc nr0 _).alloc (by simp) _
 rw[hW];have KK:Hid (∀ w',Below W.heap.size W w'->w'.cell? ⟨w.heap.size,0,none⟩=some (.bool m1)/\w'.cell? ⟨w.heap.size,1,none⟩=some (.slice a1 k1 c1)/\w'.cell? ⟨w.heap.size,2,none⟩=some (.slice a2 k2 c2)/\w'.cell? ⟨w.heap.size+1,0,none⟩=some (.bool m2)/\w'.cell? ⟨w.heap.size+1,1,none⟩=some (.slice a3 k3 c3)/\w'.cell? ⟨w.heap.size+1,2,none⟩=some (.slice a4 k4 c4)):=fun w' hb=>
  ⟨(Y0.call hb).cell 0,(Y0.call hb).cell 1,(Y0.call hb).cell 2,(Y1.call hb).cell 0,(Y1.call hb).cell 1,(Y1.call hb).cell 2⟩
 have Q1:=hid (HP.out.call y0);have Q2:=hid (HQ.out.call y0);have N1':=hid (HN1.out.call y0);have D1':=hid (HD1.out.call y0);have N2':=hid (HN2.out.call y0);have D2':=hid (HD2.out.call y0);have HY:=hid y0;clear Y0 Y1 y0 hW HN1 HD1 HN2 HD2 HP HQ;refine a0m [0,2] 4 (fun w'=>w'.cell? ⟨w.heap.size,0,none⟩=some (.bool m1)/\w'.cell? ⟨w.heap.size,1,none⟩=some (.slice a1 k1 c1)/\w'.cell? ⟨w.heap.size,2,none⟩=some (.slice a2 k2 c2)/\w'.cell? ⟨w.heap.size+1,0,none⟩=some (.bool m2)/\w'.cell? ⟨w.heap.size+1,1,none⟩=some (.slice a3 k3 c3)/\w'.cell? ⟨w.heap.size+1,2,none⟩=some (.slice a4 k4 c4)) (by kernel_rfl) (by kernel_rfl) (by kernel_rfl) (by kernel_rfl) (KK.out _ br0.drew) ?_
 iterate 2
  refine⟨_,rfl,?_⟩;apply Exists.intro
  refine⟨.inl ⟨by rfl,?_⟩,?_⟩
  .rintro W' ⟨q1,q2,q3,q4,q5,q6⟩;go_simp;try with_reducible rfl
  go_frame
 refine a0c (i:=1) (by kernel_rfl) (by rfl) (by rfl) ?_;go_wp2_with fail;refine (PS1 _ _ (Q1.out.call br0.drew)).out.mono ?_;rintro e w1 ⟨rfl,hb1⟩;have x1:=hid (show Below W.heap.size W w1 from br0.drew.trans hb1);clear hb1;go_wp2_with fail;refine⟨KK.out _ x1.out,?_⟩;refine a0c (i:=3) (by kernel_rfl) (by rfl) (by rfl) ?_;go_wp2_with fail;refine (PS2 _ _ (Q2.out.call x1.out)).out.mono ?_;rintro e w2 ⟨rfl,hb2⟩;have x2:=hid (a0a x1.out hb2);clear hb2;go_wp2_with fail;refine⟨KK.out _ x2.out,?_⟩;refine b0e (is:=[4,5]) (g:=0) (by kernel_rfl) rfl (KK.out _ x2.out) (by kernel_rfl) ?_
 iterate 2
  refine⟨_,rfl,?_⟩;apply Exists.intro
  refine⟨.inl ⟨by rfl,?_⟩,?_⟩
  .rintro W' ⟨q1,q2,q3,q4,q5,q6⟩;go_simp;try with_reducible rfl
  go_frame
 refine H8 (by kernel_rfl) ?_ _;simp only[b0h];by_cases hne:s1=s2
 .subst hne;have t0:(s1 != s1)=false:=by simp
  go_wp2_with fail;refine a0m [0,1,2,3,5,6,7,8] 4 (fun w'=>w'.cell? ⟨w.heap.size,0,none⟩=some (.bool m1)/\w'.cell? ⟨w.heap.size,1,none⟩=some (.slice a1 k1 c1)/\w'.cell? ⟨w.heap.size,2,none⟩=some (.slice a2 k2 c2)/\w'.cell? ⟨w.heap.size+1,0,none⟩=some (.bool m2)/\w'.cell? ⟨w.heap.size+1,1,none⟩=some (.slice a3 k3 c3)/\w'.cell? ⟨w.heap.size+1,2,none⟩=some (.slice a4 k4 c4)) (by kernel_rfl) (by kernel_rfl) (by kernel_rfl) (by kernel_rfl) (KK.out _ x2.out.drew) ?_
  iterate 8
   refine⟨_,rfl,?_⟩;apply Exists.intro
   refine⟨.inl ⟨by rfl,?_⟩,?_⟩
   .rintro W' ⟨q1,q2,q3,q4,q5,q6⟩;go_simp;try with_reducible rfl
   go_frame
  refine a0c (i:=4) (by kernel_rfl) (by rfl) (by rfl) ?_;go_wp2_with fail;refine (PM1 _ _ _ (N1'.out.call x2.out.drew) (D2'.out.call x2.out.drew)).out.mono ?_;rintro e w3 ⟨⟨v3,rfl,hv3⟩,hb3⟩;have x3:=hid (show Below W.heap.size W w3 from a0a x2.out.drew hb3);have V3:=hid hv3;clear hb3 hv3;go_wp2_with fail;refine⟨KK.out _ x3.out,?_⟩;refine a0c (i:=9) (by kernel_rfl) (by rfl) (by rfl) ?_;go_wp2_with fail;refine (PM2 _ _ _ (N2'.out.call x3.out) (D1'.out.call x3.out)).out.mono ?_;rintro e w4 ⟨⟨v4,rfl,hv4⟩,hb4⟩;have x4:=hid (a0a x3.out hb4);have V4:=hid hv4;have V34:=hid (V3.out.call hb4);clear hb4 hv4;go_wp2_with fail;refine⟨KK.out _ x4.out,?_⟩;refine a0c (i:=10) (by kernel_rfl) (by rfl) (by rfl) ?_;go_wp2_with fail;refine (PC _ _ _ V34.out V4.out).out.mono ?_;rintro e w5 ⟨rfl,hb5⟩;have x5:=hid (a0a x4.out hb5);clear hb5;go_wp2_with fail;refine⟨KK.out _ x5.out,?_⟩;refine b0e (is:=[11]) (g:=0) (by kernel_rfl) rfl (KK.out _ x5.out) (by kernel_rfl) ?_
  iterate 1
   refine⟨_,rfl,?_⟩;apply Exists.intro
   refine⟨.inl ⟨by rfl,?_⟩,?_⟩
   .rintro W' ⟨q1,q2,q3,q4,q5,q6⟩;go_simp;try with_reducible rfl
   go_frame
  refine H8 (by kernel_rfl) ?_ _;simp only[b0h];obtain⟨e0,e1,e2,e3,e4,e5⟩:=KK.out _ x5.out;have yy:=hid (a0a HY.out x5.out);cases m1
  .go_wp2_with fail;go_ret
   exact⟨by rw[<- HZ.out,U0 (fun h=>h rfl),U0 (fun h=>by have:=HM1.out.1 h;simp at this)];rfl,yy.out⟩
  .go_wp2_with fail;go_ret
   exact⟨by rw[<- HZ.out,U0 (fun h=>h rfl),J2 (HM1.out.2 (by simp))];rfl,yy.out⟩
 .have t0:(s1 != s2)=true:=by simpa using hne
  have HNE:=hid hne;have yy:=hid (a0a HY.out x2.out);clear hne;go_wp2_with fail;go_ret
  exact⟨by rw[<- HZ.out,J2 HNE.out];rfl,yy.out⟩
open Go.Shelf
open Go.Lib (decDigits nDigits)
def wI (z:Int)(s:ByteArray):Int:=if qE s=0 then z else 0
def xE (x:Int)(s t:ByteArray):Int:=wE (wE x t) s
def tI (z:Int)(s t:ByteArray):Int:=wI (wI z t) s
def q0j (w:World)(s:ByteArray)(F:Nat)(cs:Array Value)(R:Int)(x:Int)(hs:s.size<=1000000)(hL:Lay w)
 (hen:∀ args w,(callFunc F args).run Tryz.prog w=.ok (.enter F args) w)
 (hF:∀ W v,qE s=0->Below w.heap.size w W->IsQ .u64 W v (vQ s)->Lay W->Calls Tryz.prog F (#[v]++cs) W fun e w'=>e=.returned (.tuple #[.int .i64 R,.int .i64 x])/\Below W.heap.size W w'):
 Calls Tryz.prog 246 #[.string s,.func (.func F) #[] cs] w fun e w'=>e=.returned (.tuple #[.int .i64 (wI R s),.int .i64 (wE x s)])/\Below w.heap.size w w':=by
 have HP:=hid (l0P w s hs hL);have HL:=hid hL;have HF:=hid hF;clear hF hs hL;by_cases h1:qE s=0
 .have e1:wI R s=R:=J2 h1;have e2:wE x s=x:=J2 h1;rw[e1,e2];have HQ:=hid h1;rw[h1]at HP;clear h1 e1 e2;go_enter Tryz.func246,Tryz.ntmps246;go_wp2_with fail;refine HP.out.mono ?_;rintro e w1 ⟨⟨v,rfl,hv,-⟩,hb1⟩;have hq:=v0t HQ.out (hv rfl);have y1:=hid hb1;obtain⟨N,D,hvv,hN,hD⟩:=hv rfl;subst hvv;obtain⟨a,c,rfl,_⟩:=hN.openI;obtain⟨a',c',rfl,_⟩:=hD.openI;obtain⟨k,hk⟩:=gn ((limbs (bN (iD (cW s)))).length);obtain⟨k',hk'⟩:=gn ((limbs (bN (qD s))).length);obtain⟨m,hm⟩:=gn (iM (cW s));rw[hk,hk',hm]at hq;rw[hk,hk',hm];have X2:=hid (Blk.new w1 #[.bool m,.slice a k c,.slice a' k' c'] 126);have b2:=hid ((Z3 w1.heap.size w1).alloc nr0 (.cells #[.bool m,.slice a k c,.slice a' k' c'] 126));have y2:=hid (a0a y1.out b2.out);have Q2:=hid (hq.call b2.out);have r0:=X2.out.cell 0;have r1:=X2.out.cell 1;have r2:=X2.out.cell 2;simp at r0 r1 r2;clear hb1 hv hN hD hk hk' hm hq b2;go_wp2_with fail;refine (HF.out _ _ HQ.out y2.out Q2.out (HL.out.call y2.out)).mono ?_;rintro e w3 ⟨rfl,hb3⟩;have y3:=hid (a0a y2.out hb3);clear hb3;go_wp2_with fail;go_ret2
  exact⟨rfl,y3.out⟩
 .have e1:wI R s=0:=U0 h1;have e2:wE x s=qE s:=U0 h1;rw[e1,e2];obtain⟨y,hy⟩:=gn (qE s);rw[hy]at HP h1 |-;have q1:(y != 0)=true:=by simpa using h1
  have H1:=hid h1;clear e1 e2 hy h1;go_enter Tryz.func246,Tryz.ntmps246;go_wp2_with fail;refine HP.out.mono ?_;rintro e w1 ⟨⟨v,rfl,-,hv⟩,hb1⟩;have hv':=hv H1.out;subst hv';have y1:=hid hb1;have y2:=hid (y1.out.alloc y1.out.size (.cells #[.bool false,.slice none 0 0,.slice none 0 0] 126));clear hb1 hv;go_wp2_with fail;go_ret2
  exact⟨rfl,y2.out⟩
def q0k (w:World)(v u:Value)(p q:Rat)(F g1 g2:Nat)(R:Int)(x:Int)(hv:IsQ .u64 w v p)(hu:IsQ .u64 w u q)(hL:Lay w)
 (hen:∀ args w,(callFunc F args).run Tryz.prog w=.ok (.enter F args) w)
 (c1:w.cell? ⟨g1,0,none⟩=some (.func (.func F) #[] #[])) (m:Bool) (a a':Option Addr) (k c k' c':Nat) (hv0:v=.agg #[.bool m,.slice a k c,.slice a' k' c'])
 (c2:Blk w g2 #[.bool m,.slice a k c,.slice a' k' c'] 126)
 (hF:∀ W v u,IsQ .u64 W v p->IsQ .u64 W u q->Lay W->Calls Tryz.prog F #[v,u] W fun e w'=>e=.returned (.tuple #[.int .i64 R,.int .i64 x])/\Below W.heap.size W w'):
 Calls Tryz.prog 248 #[u,.pointer (some ⟨g1,0,none⟩),.pointer (some ⟨g2,0,none⟩)] w fun e w'=>e=.returned (.tuple #[.int .i64 R,.int .i64 x])/\Below w.heap.size w w':=by
 have HF:=hid hF;have HL:=hid hL;obtain⟨N,D,rfl,hN,hD⟩:=hu.ex;obtain⟨a1,d1,rfl,_⟩:=hN.openI;obtain⟨a2,d2,rfl,_⟩:=hD.openI;obtain⟨k1,hk1⟩:=gn ((limbs q.num.natAbs).length);obtain⟨k2,hk2⟩:=gn ((limbs q.den).length);obtain⟨mu,hmu⟩:=gn (decide (q.num<0));rw[hk1,hk2,hmu]at hu;rw[hk1,hk2,hmu];subst hv0;have X2:=hid (Blk.new w #[.bool mu,.slice a1 k1 d1,.slice a2 k2 d2] 126);have b2:=hid ((Z3 w.heap.size w).alloc nr0 (.cells #[.bool mu,.slice a1 k1 d1,.slice a2 k2 d2] 126));have V2:=hid (hv.call b2.out);have U2:=hid (hu.call b2.out);have C1:=(b2.out.cell (a0e c1)).trans c1;have C2:=hid (c2.call b2.out);have r0:=X2.out.cell 0;have r1:=X2.out.cell 1;have r2:=X2.out.cell 2;have s0:=C2.out.cell 0;have s1:=C2.out.cell 1;have s2:=C2.out.cell 2;simp at r0 r1 r2 s0 s1 s2;clear hk1 hk2 hmu hN hD hv hu c1 c2 hF hL;go_enter Tryz.func248,Tryz.ntmps248;go_wp2_with fail;refine (HF.out _ _ _ V2.out U2.out (HL.out.call b2.out)).mono ?_;rintro e w3 ⟨rfl,hb3⟩;have y3:=hid (a0a b2.out hb3);clear hb3;go_wp2_with fail;go_ret2
 exact⟨rfl,y3.out⟩
def t0z (w:World)(v:Value)(t:ByteArray)(p:Rat)(F g1 g2:Nat)(R:Int)(x:Int)(ht:t.size<=1000000)(hv:IsQ .u64 w v p)(hL:Lay w)
 (hen:∀ args w,(callFunc F args).run Tryz.prog w=.ok (.enter F args) w)
 (c1:w.cell? ⟨g1,0,none⟩=some (.string t)) (c2:w.cell? ⟨g2,0,none⟩=some (.func (.func F) #[] #[]))
 (hF:∀ W v u,qE t=0->IsQ .u64 W v p->IsQ .u64 W u (vQ t)->Lay W->Calls Tryz.prog F #[v,u] W fun e w'=>e=.returned (.tuple #[.int .i64 R,.int .i64 x])/\Below W.heap.size W w'):
 Calls Tryz.prog 247 #[v,.pointer (some ⟨g1,0,none⟩),.pointer (some ⟨g2,0,none⟩)] w fun e w'=>e=.returned (.tuple #[.int .i64 (wI R t),.int .i64 (wE x t)])/\Below w.heap.size w w':=by
 have HF:=hid hF;have HL:=hid hL;have HEN:=hid hen;obtain⟨N,D,rfl,hN,hD⟩:=hv.ex;obtain⟨a1,d1,rfl,_⟩:=hN.openI;obtain⟨a2,d2,rfl,_⟩:=hD.openI;obtain⟨k1,hk1⟩:=gn ((limbs p.num.natAbs).length);obtain⟨k2,hk2⟩:=gn ((limbs p.den).length);obtain⟨mu,hmu⟩:=gn (decide (p.num<0));rw[hk1,hk2,hmu]at hv;rw[hk1,hk2,hmu];have X2:=hid (Blk.new w #[.bool mu,.slice a1 k1 d1,.slice a2 k2 d2] 126);have b2:=hid ((Z3 w.heap.size w).alloc nr0 (.cells #[.bool mu,.slice a1 k1 d1,.slice a2 k2 d2] 126));have V2:=hid (hv.call b2.out);have C1:=(b2.out.cell (a0e c1)).trans c1;have C2:=hid ((b2.out.cell (a0e c2)).trans c2);have L2:=hid (HL.out.call b2.out);obtain⟨w2,hw2⟩:=gn (w.alloc (.cells #[.bool mu,.slice a1 k1 d1,.slice a2 k2 d2] 126));obtain⟨g3,hg3⟩:=gn (w.heap.size)
 have W2:=hid (q0j w2 t 248 #[.pointer (some ⟨g2,0,none⟩),.pointer (some ⟨g3,0,none⟩)] R x ht (hw2 ▸ L2.out) (Ch Tryz.func248 (by kernel_rfl) rfl)
  (fun W u hq hb hu hLW=>by
   subst hw2;subst hg3;have hVW:=V2.out.call hb;have hX:=X2.out.call hb;have hC:=(hb.cell (a0e C2.out)).trans C2.out;exact q0k W _ u p (vQ t) F g2 w.heap.size R x hVW hu hLW HEN.out hC mu a1 a2 k1 d1 k2 d2 rfl hX (fun W v u h1 h2 h3=>HF.out W v u hq h1 h2 h3)))
 rw[hw2]at C1;clear hk1 hk2 hmu hN hD hv c1 c2 hF hL hen;go_enter Tryz.func247,Tryz.ntmps247;go_wp2_with fail;refine W2.out.mono ?_;rintro e w3 ⟨rfl,hb3⟩;have y3:=hid (a0a b2.out (hw2 ▸ hb3));clear hb3;go_wp2_with fail;go_ret2
 exact⟨rfl,y3.out⟩
def w0D (w:World)(s t:ByteArray)(F:Nat)(R:Int)(x:Int)(hs:s.size<=1000000)(ht:t.size<=1000000)(hL:Lay w)
 (hen:∀ args w,(callFunc F args).run Tryz.prog w=.ok (.enter F args) w)
 (hF:∀ W v u,qE s=0->qE t=0->IsQ .u64 W v (vQ s)->IsQ .u64 W u (vQ t)->Lay W->Calls Tryz.prog F #[v,u] W fun e w'=>e=.returned (.tuple #[.int .i64 R,.int .i64 x])/\Below W.heap.size W w'):
 Calls Tryz.prog 187 #[.string s,.string t,.func (.func F) #[] #[]] w fun e w'=>e=.returned (.tuple #[.int .i64 (tI R s t),.int .i64 (xE x s t)])/\Below w.heap.size w w':=by
 have HF:=hid hF;have HL:=hid hL;have HEN:=hid hen;have HT:=hid ht;have b1:=hid ((Z3 w.heap.size w).alloc nr0 (.cells #[.string t] 23));obtain⟨w1,hw1⟩:=gn (w.alloc (.cells #[.string t] 23));obtain⟨g1,hg1⟩:=gn (w.heap.size);have X1:=hid (Blk.new w #[.string t] 23);rw[hw1]at b1;rw[hw1,hg1]at X1;have b2:=hid ((Z3 w1.heap.size w1).alloc nr0 (.cells #[.func (.func F) #[] #[]] 184));obtain⟨w2,hw2⟩:=gn (w1.alloc (.cells #[.func (.func F) #[] #[]] 184));have X2:=hid (Blk.new w1 #[.func (.func F) #[] #[]] 184);have X12:=hid (X1.out.call b2.out);have y2:=hid (a0a b1.out b2.out);have hg2:w1.heap.size=g1+1:=by rw[<- hw1,<- hg1];simp
 rw[hw2]at b2 X12 y2;rw[hw2,hg2]at X2;have L2:=hid (HL.out.call y2.out)
 have W2:=hid (q0j w2 s 247 #[.pointer (some ⟨g1,0,none⟩),.pointer (some ⟨g1+1,0,none⟩)] (wI R t) (wE x t) hs L2.out (Ch Tryz.func247 (by kernel_rfl) rfl)
  (fun W v hq hb hv hLW=>by
   have hX1:=(X12.out.call hb).cell 0;have hX2:=(X2.out.call hb).cell 0;exact t0z W v t (vQ s) F g1 (g1+1) R x HT.out hv hLW HEN.out hX1 hX2 (fun W v u h0 h1 h2 h3=>HF.out W v u hq h0 h1 h2 h3)))
 have HW1:=hid hw1;have HW2:=hid hw2;have HG1:=hid hg1;clear hF hL hen hs ht hw1 hw2 hg1 hg2 b1;go_enter Tryz.func187,Tryz.ntmps187;go_wp2_with fail;have hw1:=HW1.out;have hw2:=HW2.out;have hg1:=HG1.out;rw[hw1,hg1,hw2];refine W2.out.mono ?_;rintro e w3 ⟨rfl,hb3⟩;have y3:=hid (a0a y2.out hb3);clear hb3 hw1 hw2 hg1;go_wp2_with fail;go_ret2
 exact⟨rfl,by have:=y3.out;exact this⟩
def c2I (s t:ByteArray):tI (m0Q (vQ s) (vQ t)) s t=cmB s t:=by
 unfold tI wI cmB;by_cases h1:qE s=0<;>by_cases h2:qE t=0<;>simp[h1,h2]
def c2E (s t:ByteArray):xE 0 s t=cmE s t:=by
 unfold xE wE cmE;by_cases h1:qE s=0<;>by_cases h2:qE t=0<;>simp[h1,h2]
def z0t (w:World)(v u:Value)(p q:Rat)(hp:IsQ .u64 w v p)(hq:IsQ .u64 w u q)(sp:Sml 1000 p)(sq:Sml 1000 q)(hL:Lay w):
 Calls Tryz.prog 188 #[v,u] w fun e w'=>e=.returned (.tuple #[.int .i64 (m0Q p q),.int .i64 0])/\Below w.heap.size w w':=by
 have F1:=fun V v u hv hu=>hid (b1M V v u p q hv hu (O0 sp.n (by omega)) (O0 sp.d (by omega)) (O0 sq.n (by omega)) (O0 sq.d (by omega)))
 have HC:=hid (s0g p q);obtain⟨Z,hZ⟩:=gn (cmF p q);rw[hZ]at F1 HC;rw[<- HC.out];obtain⟨N1,D1,rfl,hn1,hd1⟩:=hp.ex;obtain⟨N2,D2,rfl,hn2,hd2⟩:=hq.ex;obtain⟨a1,c1,rfl,_⟩:=hn1.openI;obtain⟨a2,c2,rfl,_⟩:=hd1.openI;obtain⟨a3,c3,rfl,_⟩:=hn2.openI;obtain⟨a4,c4,rfl,_⟩:=hd2.openI;obtain⟨k1,hk1⟩:=gn ((limbs p.num.natAbs).length);obtain⟨k2,hk2⟩:=gn ((limbs p.den).length);obtain⟨k3,hk3⟩:=gn ((limbs q.num.natAbs).length);obtain⟨k4,hk4⟩:=gn ((limbs q.den).length);obtain⟨m1,hm1⟩:=gn (decide (p.num<0));obtain⟨m2,hm2⟩:=gn (decide (q.num<0));rw[hk1,hk2,hm1]at hp |-;rw[hk3,hk4,hm2]at hq |-;have X1:=hid (Blk.new w #[.bool m1,.slice a1 k1 c1,.slice a2 k2 c2] 126);have b1:=hid ((Z3 w.heap.size w).alloc nr0 (.cells #[.bool m1,.slice a1 k1 c1,.slice a2 k2 c2] 126));have Y1:=hid (X1.out.alloc (.cells #[.bool m2,.slice a3 k3 c3,.slice a4 k4 c4] 126));have X2:=hid (Blk.new (w.alloc (.cells #[.bool m1,.slice a1 k1 c1,.slice a2 k2 c2] 126)) #[.bool m2,.slice a3 k3 c3,.slice a4 k4 c4] 126);have b2:=hid (b1.out.alloc b1.out.size (.cells #[.bool m2,.slice a3 k3 c3,.slice a4 k4 c4] 126));have P2:=hid (hp.call b2.out);have Q2:=hid (hq.call b2.out);have r0:=Y1.out.cell 0;have r1:=Y1.out.cell 1;have r2:=Y1.out.cell 2;have s0:=X2.out.cell 0;have s1:=X2.out.cell 1;have s2:=X2.out.cell 2;simp at r0 r1 r2 s0 s1 s2;clear hk1 hk2 hk3 hk4 hm1 hm2 hn1 hn2 hd1 hd2 hp hq hL sp sq hZ;go_enter Tryz.func188,Tryz.ntmps188;go_wp2_with fail;refine (F1 _ _ _ P2.out Q2.out).out.mono ?_;rintro e w3 ⟨rfl,hb3⟩;have y3:=hid (a0a b2.out hb3);clear hb3;go_wp2_with fail;go_ret2
 exact⟨rfl,y3.out⟩
def b1v (w:World)(s t:ByteArray)(hs:s.size<=1000000)(ht:t.size<=1000000)(hL:Lay w):
 Calls Tryz.prog 112 #[.string s,.string t] w fun e w'=>e=.returned (.tuple #[.int .i64 (cmB s t),.int .i64 (cmE s t)])/\Below w.heap.size w w':=by
 have H:=hid (w0D w s t 188 (m0Q (vQ s) (vQ t)) 0 hs ht hL (Ch Tryz.func188 (by kernel_rfl) rfl)
  (fun W v u h1 h2 hv hu hLW=>z0t W v u _ _ hv hu (d0U h1) (d0U h2) hLW))
 rw[c2I,c2E]at H;obtain⟨B,hB⟩:=gn (cmB s t);obtain⟨E,hE⟩:=gn (cmE s t);rw[hB,hE]at H |-;clear hB hE hs ht hL;go_enter Tryz.func112,Tryz.ntmps112;go_wp2_with fail;refine H.out.mono ?_;rintro e w3 ⟨rfl,hb3⟩;have y3:=hid hb3;clear hb3;go_wp2_with fail;go_ret2
 exact⟨rfl,y3.out⟩
def l0s (w:World)(s t:ByteArray)(hs:s.size<=1000000)(ht:t.size<=1000000)(hL:Lay w):
 Calls Tryz.prog 146 #[.string s,.string t,.int .i64 1] w fun e w'=>e=.returned (.tuple #[.string (mnB s t),.int .i64 (cmE s t)])/\Below w.heap.size w w':=by
 have H:=hid (b1v w s t hs ht hL);unfold mnB;have h3:=k0K s t;obtain⟨B,hB⟩:=gn (cmB s t);obtain⟨E,hE⟩:=gn (cmE s t);rw[hB]at h3;rw[hB,hE]at H |-;clear hB hE hs ht hL;by_cases he:E=0
 .subst he;rcases h3 with rfl | rfl | rfl
  .go_enter Tryz.func146,Tryz.ntmps146;go_wp2_with fail;refine H.out.mono ?_;rintro e w3 ⟨rfl,hb3⟩;have y3:=hid hb3;clear hb3;go_wp2_with fail;go_ret2
   exact⟨rfl,y3.out⟩
  .go_enter Tryz.func146,Tryz.ntmps146;go_wp2_with fail;refine H.out.mono ?_;rintro e w3 ⟨rfl,hb3⟩;have y3:=hid hb3;clear hb3;go_wp2_with fail;go_ret2
   exact⟨rfl,y3.out⟩
  .go_enter Tryz.func146,Tryz.ntmps146;go_wp2_with fail;refine H.out.mono ?_;rintro e w3 ⟨rfl,hb3⟩;have y3:=hid hb3;clear hb3;go_wp2_with fail;go_ret2
   exact⟨rfl,y3.out⟩
 .rw[U0 he];have q1:(E != 0)=true:=by simpa using he
  clear he h3;go_enter Tryz.func146,Tryz.ntmps146;go_wp2_with fail;refine H.out.mono ?_;rintro e w3 ⟨rfl,hb3⟩;have y3:=hid hb3;clear hb3;go_wp2_with fail;go_ret2
  exact⟨rfl,y3.out⟩
def b1t (w:World)(s t:ByteArray)(hs:s.size<=1000000)(ht:t.size<=1000000)(hL:Lay w):
 Calls Tryz.prog 52 #[.string s,.string t] w fun e w'=>e=.returned (.tuple #[.string (mnB s t),.int .i64 (cmE s t)])/\Below w.heap.size w w':=by
 have H:=hid (l0s w s t hs ht hL);obtain⟨B,hB⟩:=gn (mnB s t);obtain⟨E,hE⟩:=gn (cmE s t);rw[hB,hE]at H |-;clear hB hE hs ht hL;go_enter Tryz.func52,Tryz.ntmps52;go_wp2_with fail;refine H.out.mono ?_;rintro e w3 ⟨rfl,hb3⟩;have y3:=hid hb3;clear hb3;go_wp2_with fail;go_ret2
 exact⟨rfl,y3.out⟩
def b1u (w:World)(n:Nat)(h:n<=9223372036854775807)(hL:Lay w):
 Calls Tryz.prog 51 #[.int .i64 (n:Nat)] w fun e w'=>e=.returned (.string (a0f n))/\Below w.heap.size w w':=by
 have H:=hid (v0g w n h hL);obtain⟨s,hs⟩:=gn (a0f n);rw[hs]at H |-;clear hs h hL;go_enter Tryz.func51,Tryz.ntmps51;go_wp2_with fail;refine H.out.mono ?_;rintro e w3 ⟨rfl,hb3⟩;have y3:=hid hb3;clear hb3;go_wp2_with fail;go_ret
 exact⟨rfl,y3.out⟩
def w0F (w:World)(v:Value)(q:Rat)(n g1:Nat)(z:Int)(hp:IsQ .u64 w v q)(sp:Sml 1000 q)(h0:q≠0)(hn1:1<=n)(hn:n<=1000000000)(hzn:z = -(n:Int))(hL:Lay w)(c1:w.cell? ⟨g1,0,none⟩=some (.int .i64 z)):
 Calls Tryz.prog 156 #[v,.pointer (some ⟨g1,0,none⟩)] w fun e w'=>e=.returned (.tuple #[.string (c0p (q⁻¹ ^ n)),.int .i64 (c0G (q⁻¹ ^ n))])/\Below w.heap.size w w':=by
 have FS:=fun V v hv=>hid (r0E V v q hv)
 have FI:=fun V v hv=>hid (b1L V v q hv h0)
 have sg:=b1n h0;have spi:=w0e h0 sp;obtain⟨sx,hz⟩:=gn (sgQ q);rw[hz]at FS sg;obtain⟨p,hpq⟩:=gn (q⁻¹);rw[hpq]at FI spi |-;have F1:=fun V v hv hV=>hid (q0W V v p.num.natAbs n hv (O0 spi.n (by omega)) (by omega) hV)
 have F2:=fun V v hv hV=>hid (q0W V v p.den n hv (O0 spi.d (by omega)) (by omega) hV)
 obtain⟨e1,e2,e3⟩:=g0H p n;have HOV:=hid (fun h=>m0O (q:=p) (n:=n) h);have F3:=fun V v hv hV (h1:nDigits (p.num.natAbs ^ n)<=4000) (h2:nDigits (p.den ^ n)<=4000)=>hid (o0M V v (p ^ n) hv (by rw[e2];exact O0 (a0n h1) (by omega)) (by rw[e3];exact O0 (a0n h2) (by omega)) hV)
 obtain⟨B,hB⟩:=gn (c0p (p ^ n));obtain⟨E,hE⟩:=gn (c0G (p ^ n));rw[hB,hE]at F3 HOV |-;clear hB hE;have HL:=hid hL;obtain⟨N1,D1,rfl,hn1',hd1⟩:=hp.ex;obtain⟨a1,c1',rfl,_⟩:=hn1'.openI;obtain⟨a2,c2',rfl,_⟩:=hd1.openI;obtain⟨k1,hk1⟩:=gn ((limbs q.num.natAbs).length);obtain⟨k2,hk2⟩:=gn ((limbs q.den).length);obtain⟨mq,hmq⟩:=gn (decide (q.num<0));rw[hk1,hk2,hmq]at hp |-;have X1:=hid (Blk.new w #[.bool mq,.slice a1 k1 c1',.slice a2 k2 c2'] 126);have b1:=hid ((Z3 w.heap.size w).alloc nr0 (.cells #[.bool mq,.slice a1 k1 c1',.slice a2 k2 c2'] 126));have HP:=hid (hp.call b1.out);have r0:=X1.out.cell 0;have r1:=X1.out.cell 1;have r2:=X1.out.cell 2;have C1:=(b1.out.cell (a0e c1)).trans c1;simp at r0 r1 r2;have q0:decide (z<0)=true:=E7 (by omega);obtain⟨u,hu⟩:∃ u:Int,18446744073709551616-(n:Int)=u:=⟨_,rfl⟩;have w0:IntKind.u64.wrap z=u:=by simp[IntKind.wrap,IntKind.bits,IntKind.signed];omega
 have w1:IntKind.u64.wrap (-u)=(n:Int):=by simp[IntKind.wrap,IntKind.bits,IntKind.signed];omega
 have E1:=hid e1;have E2:=hid e2;have E3:=hid e3;clear hk1 hk2 hmq hn1' hd1 hp hL sp spi e1 e2 e3 c1 hn hn1 h0 hz hpq hzn hu;go_enter Tryz.func156,Tryz.ntmps156;go_wp2_with fail;refine (FS _ _ HP.out).out.mono ?_;rintro e w2 ⟨rfl,hb2⟩;have y2:=hid (a0a b1.out hb2);have X2:=hid (X1.out.call hb2);have C2:=(hb2.cell (a0e C1)).trans C1;have HP2:=hid (HP.out.call hb2);clear hb2 r0 r1 r2 C1;have r0:=X2.out.cell 0;have r1:=X2.out.cell 1;have r2:=X2.out.cell 2;simp at r0 r1 r2;go_wp2_with fail;refine (FI _ _ HP2.out).out.mono ?_;rintro e w3 ⟨⟨vi,rfl,hvi⟩,hb3⟩;have y3:=hid (a0a y2.out hb3);have X3:=hid (X2.out.call hb3);obtain⟨N3,D3,rfl,hn3,hd3⟩:=hvi.ex;obtain⟨a3,c3,rfl,_⟩:=hn3.openI;obtain⟨a4,c4,rfl,_⟩:=hd3.openI;obtain⟨k3,hk3⟩:=gn ((limbs p.num.natAbs).length);obtain⟨k4,hk4⟩:=gn ((limbs p.den).length);obtain⟨m1,hm1⟩:=gn (decide (p.num<0));rw[hk3,hk4,hm1]at hvi |-;rw[hk3]at hn3;rw[hk4]at hd3;have E1':=E1.out;rw[hm1]at E1';have E1:=hid E1';have HN3:=hid hn3;have HD3:=hid hd3;clear hb3 r0 r1 r2 C2 hk3 hk4 hm1 hvi hn3 hd3 E1';have r0:=X3.out.cell 0;have r1:=X3.out.cell 1;have r2:=X3.out.cell 2;have f0:=X3.out.free 0;have f1:=X3.out.free 1;have f2:=X3.out.free 2;simp at r0 r1 r2;obtain⟨s1,s2⟩:=c0W X3.out m1 a3 a4 k3 c3 k4 c4;have N2:=hid (s1 _ _ _ HN3.out);have D2:=hid (s1 _ _ _ HD3.out);have X0:=hid s2;have y0:Hid (Below w.heap.size w (((w3.setCell ⟨w.heap.size,0,none⟩ (.bool m1)).setCell ⟨w.heap.size,1,none⟩ (.slice a3 k3 c3)).setCell ⟨w.heap.size,2,none⟩ (.slice a4 k4 c4))):=((y3.out.setCell nr0 _).setCell nr0 _).setCell nr0 _;clear s1 s2;go_wp2_with fail;clear f0 f1 f2;refine (F1 _ _ N2.out (HL.out.call y0.out)).out.mono ?_;rintro e w3 ⟨hr3,hb3⟩;have y3:=hid (a0a y0.out hb3);have X3:=hid (X0.out.call hb3);have D3:=hid (D2.out.call hb3);clear hb3 r0 r1 r2;have r0:=X3.out.cell 0;have r1:=X3.out.cell 1;have r2:=X3.out.cell 2;simp at r0 r1 r2;rcases hr3 with ⟨l3,v3,rfl,hv3⟩ | ⟨l3,rfl⟩
 .obtain⟨a3,c3,rfl,_⟩:=hv3.openI;obtain⟨k3,hk3⟩:=gn ((limbs (p.num.natAbs ^ n)).length);rw[hk3]at hv3 |-;have V3:=hid hv3;have L3:=hid l3;clear hk3 hv3 l3;go_wp2_with fail;refine (F2 _ _ D3.out (HL.out.call y3.out)).out.mono ?_;rintro e w4 ⟨hr4,hb4⟩;have y4:=hid (a0a y3.out hb4);have X4:=hid (X3.out.call hb4);have V4:=hid (V3.out.call hb4);clear hb4 r0 r1 r2;have r0:=X4.out.cell 0;have r1:=X4.out.cell 1;have r2:=X4.out.cell 2;simp at r0 r1 r2;rcases hr4 with ⟨l4,v4,rfl,hv4⟩ | ⟨l4,rfl⟩
  .obtain⟨a4,c4,rfl,_⟩:=hv4.openI;obtain⟨k4,hk4⟩:=gn ((limbs (p.den ^ n)).length);rw[hk4]at hv4 |-;have W4:=hid hv4;have L4:=hid l4;clear hk4 hv4 l4;have M:=hid (show IsQ .u64 w4 (.agg #[.bool (m1 && decide (n%2=1)),.slice a3 k3 c3,.slice a4 k4 c4]) (p ^ n) from⟨_,_,by rw[E1.out],by rw[E2.out];exact V4.out,by rw[E3.out];exact W4.out⟩);obtain⟨Q,hQ⟩:=gn (p ^ n);rw[hQ]at F3 M;clear hQ HOV F1 F2;have F4:=F3 _ _ M.out (HL.out.call y4.out) L3.out L4.out;cases m1
   focus
    simp only[Nd]at F4
   rotate_left
   focus
    simp only[Ej]at F4;have e9:((n:Int)%2==1)=decide (n%2=1):=by
     rw[Ay,Dk,K6];omega
    rw[<- e9]at F4;clear e9
   all_goals
    go_wp2_with fail;refine F4.out.mono ?_;rintro e w5 ⟨rfl,hb5⟩;have y5:=hid (a0a y4.out hb5);clear hb5;go_wp2_with fail;go_ret2
    exact⟨rfl,y5.out⟩
  .have e7:=hid (HOV.out (.inr l4));clear l4;go_wp2_with fail;go_ret2
   exact⟨by rw[e7.out.1,e7.out.2];rfl,y4.out⟩
 .have e7:=hid (HOV.out (.inl l3));clear l3;go_wp2_with fail;refine (F2 _ _ D3.out (HL.out.call y3.out)).out.mono ?_;rintro e w4 ⟨hr4,hb4⟩;have y4:=hid (a0a y3.out hb4);rcases hr4 with ⟨l4,v4,rfl,hv4⟩ | ⟨l4,rfl⟩
  .obtain⟨a4,c4,rfl,_⟩:=hv4.openI;obtain⟨k4,hk4⟩:=gn ((limbs (p.den ^ n)).length);rw[hk4];clear hk4 hv4 l4 hb4;go_wp2_with fail;go_ret2
   exact⟨by rw[e7.out.1,e7.out.2];rfl,y4.out⟩
  .clear l4 hb4;go_wp2_with fail;go_ret2
   exact⟨by rw[e7.out.1,e7.out.2];rfl,y4.out⟩
def pnB (n:Nat)(s:ByteArray):ByteArray:=z0z (fun q=>q⁻¹ ^ n) s
def pnE (n:Nat)(s:ByteArray):Int:=z0y (fun q=>q⁻¹ ^ n) s
def Nc:=@Rat.pow_zero
def z0q (w:World)(s:ByteArray)(n:Nat)(z:Int)(hs:s.size<=1000000)(hq:qE s=0)(h0:vQ s≠0)(hn:n<=1000000000)(hzn:z = -(n:Int))(hL:Lay w):
 Calls Tryz.prog 57 #[.string s,.int .i64 z] w fun e w'=>e=.returned (.tuple #[.string (pnB n s),.int .i64 (pnE n s)])/\Below w.heap.size w w':=by
 by_cases hn0:n=0
 .subst hn0;obtain rfl:z=((0:Nat):Int):=by omega
  refine (b1r w s 0 hs (by omega) hL).mono ?_;rintro e w' ⟨rfl,hb⟩;refine⟨?_,hb⟩;unfold pwB pwE pnB pnE z0z z0y;simp only[Nc]
 have HL:=hid hL;have b1:=hid ((Z3 w.heap.size w).alloc nr0 (.cells #[.int .i64 z] 3));have X1:=hid (Blk.new w #[.int .i64 z] 3);obtain⟨g1,hg1⟩:=gn (w.heap.size);obtain⟨w1,hw1⟩:=gn (w.alloc (.cells #[.int .i64 z] 3));have L1:=hid (HL.out.call b1.out);rw[hw1]at b1 X1 L1;rw[hg1]at X1
 have W1:=hid (m0M w1 s 156 #[.pointer (some ⟨g1,0,none⟩)] (c0p ((vQ s)⁻¹ ^ n)) (c0G ((vQ s)⁻¹ ^ n)) hs L1.out (Ch Tryz.func156 (by kernel_rfl) rfl)
  (fun W v hq hb hv hLW=>w0F W v (vQ s) n g1 z hv (d0U hq) h0 (by omega) hn hzn hLW ((X1.out.call hb).cell 0)))
 have e1:wB (c0p ((vQ s)⁻¹ ^ n)) s=pnB n s:=rfl;have e2:wE (c0G ((vQ s)⁻¹ ^ n)) s=pnE n s:=rfl;rw[e1,e2]at W1;obtain⟨B,hB⟩:=gn (pnB n s);obtain⟨E,hE⟩:=gn (pnE n s);rw[hB,hE]at W1 |-;have HW:=hid hw1;have HG:=hid hg1;clear hB hE hs hL hn e1 e2 hw1 hg1 hq h0 hn0 hzn;go_enter Tryz.func57,Tryz.ntmps57;go_wp2_with fail;have hw1:=HW.out;have hg1:=HG.out;rw[hw1,hg1];refine W1.out.mono ?_;rintro e w2 ⟨rfl,hb2⟩;have y2:=hid (a0a b1.out hb2);clear hb2 hw1 hg1;go_wp2_with fail;go_ret2
 exact⟨rfl,y2.out⟩
theorem MRow.nilS (w:World):MRow w (.slice none 0 0) []:=MRow.nil w
def v0B (w:World)(v:Value)(c:List Int)(a:ByteArray)(n:Int)(hv:Row w v (zs c))(ha:a.size<=100000)(hL:LayB w):
 Calls Tryz.prog 26 #[v,.string a,.int .i64 n] w fun e w'=>(∃ u,e=.returned (.tuple #[u,.int .i64 (flE c a n)])/\MRow w' u (flR c a n))/\Below w.heap.size w w':=by
 by_cases h0:flE c a n=0
 .have hE:=h0;unfold flE at h0
  split at h0
  .rename_i h1;exact absurd h0 h1
  .rename_i h1
   split at h0
   .cases h0
   .rename_i h2
    split at h0
    .cases h0
    .rename_i h3
     obtain⟨m,rfl⟩:∃ m:Nat,n=(m:Nat):=⟨n.toNat,by omega⟩;rw[hE];have e2:flR c a (m:Nat)=a0y (fkP (gV (bN (cW a)) (bN (qD a)) false m) m c):=by unfold flR;rw[J2 hE,Be]
     rw[e2];refine r0C w v c a m hv ha (Af h1) (by omega) ?_ hL;have:¬ (256:Int)<((m*c.length:Nat):Int):=by rwa[By]
     omega
 .have e2:flR c a n = []:=U0 h0;rw[e2];have HQ:=hid (e0m w v c a hv ha hL.l);obtain⟨s,cp,rfl,q1,q2,q3⟩:=hv.openZ;obtain⟨L,hLL⟩:=gn (c.length);unfold flE at h0 |-;obtain⟨z,hz⟩:=gn (qnE c a);have hz0:=hz;rw[hz]at HQ h0 |-;rw[hLL]at HQ h0 q1 |-;by_cases c0:z=0
  case' neg=>
   rw[J2 c0];have t0:(z==0)=false:=by rw[U4];exact c0
   clear hv q3 hLL hz hz0 h0 c0 ha hL
  rotate_left
  rw[c0]at HQ;rw[U0 (by rw[c0];simp)]at h0 |-;by_cases c1:n<0\/32<n
  focus
   rw[J2 c1];obtain⟨p,hp⟩:=gn (decide (n<0));obtain⟨q,hq⟩:=gn (decide (32<n));have hpq:(p || q)=true:=by rw[<- hp,<- hq];simpa using c1
   clear hv q3 hLL hz hz0 h0 c0 c1 ha hL;cases p
   focus
    obtain rfl:q=true:=by simpa using hpq
    clear hpq
   rotate_left
   focus
    clear hpq hq
  rotate_left 2
  focus
   rw[U0 c1]at h0 |-;have hq:=k0f (hz0.trans c0);rw[hLL]at hq;obtain⟨-,k2,-,-⟩:=hq;obtain⟨m,rfl⟩:∃ m:Nat,n=(m:Nat):=⟨n.toNat,by omega⟩;by_cases c2:256<((m:Nat):Int)*((L:Nat):Int)
   focus
    rw[J2 c2];have t1:decide ((m:Int)<0)=false:=by simp
    have t2:decide ((32:Int)<(m:Int))=false:=by simp;omega
    obtain⟨M,hM⟩:∃ M:Int,(m:Int)*(L:Int)=M:=⟨_,rfl⟩;have hM2:M<=100000:=by
     rw[<- hM];have h5:m*L<=32*256:=Bk (by omega) k2;have:((m*L:Nat):Int)<=100000:=by omega
     rwa[By]at this
    rw[hM]at c2;have wm:IntKind.i64.wrap ((m:Int)*(L:Int))=M:=by rw[hM,Q0 _ ⟨by omega,by omega⟩]
    have t3:decide (256<M)=true:=E7 c2;clear hv q3 hLL hz hz0 h0 c0 c1 c2 ha hL hM hM2 k2
   rotate_left
   .rw[U0 c2]at h0;exact absurd rfl h0
  all_goals
   go_enter Tryz.func26,Tryz.ntmps26;go_wp2_with fail;refine HQ.out.mono ?_;rintro e w0 ⟨rfl,hb0⟩;go_wp2_with fail;go_ret2
   exact⟨⟨_,rfl,MRow.nilS _⟩,hb0⟩
def x0K (w:World)(a:ByteArray)(n many:Int)(ha:a.size<=100000)(hL:Lay w):
 Calls Tryz.prog 22 #[.string a,.int .i64 n,.int .i64 many] w fun e w'=>e=.returned (.tuple #[.string (a1m a n many),.int .i64 (a1l a n many)])/\Below w.heap.size w w':=by
 have HR:=hid (i0Y w a ha hL);unfold a1m a1l;by_cases h0:j0r a n many=0
 .rw[U0 (by rw[h0];simp),U0 (by rw[h0];simp)];have h0':=h0;unfold j0r at h0'
  split at h0'
  .rename_i h1;exact absurd h0' h1
  rename_i h1
  have h1:gPE a=0:=Af h1
  split at h0'
  .cases h0'
  rename_i h2
  rw[h1]at HR;have ge:glE a n 256=0:=by unfold glE;rw[U0 (by rw[h1];simp),U0 (by omega)]
  have HO:=fun V hV=>hid (o0J V a n ha hV)
  rw[ge]at HO;obtain⟨m,rfl⟩:∃ m:Nat,many=(m:Nat):=⟨many.toNat,by omega⟩;have HI:=fun V hV=>hid (b1u V m (by omega) hV)
  have HT:=fun V hV=>hid (n0n V (glB a n false) (a0f m) (O0 (n0e _ _ _) (by omega)) (a0N (by have:=a0l (n:=m) (k:=3) (by omega) (by omega);omega)) hV)
  have HM:=fun V hV=>hid (b1t V (d0j (· * ·) (glB a n false) (a0f m)) ⟨#[49]⟩ (O0 (r0t _ _ _) (by omega)) (by decide) hV)
  unfold b1i;rw[Be];obtain⟨G,hG⟩:=gn (glB a n false);obtain⟨I,hI⟩:=gn (a0f m);rw[hG]at HO HT HM |-;rw[hI]at HI HT HM |-;obtain⟨T,hT⟩:=gn (d0j (· * ·) G I);rw[hT]at HT HM |-;obtain⟨B,hB⟩:=gn (mnB T ⟨#[49]⟩);obtain⟨E,hE⟩:=gn (cmE T ⟨#[49]⟩);rw[hB,hE]at HM |-;have t1:decide (n<0)=false:=M6 (by omega);have t2:decide (256<n)=false:=M6 (by omega);obtain⟨M,hMM⟩:∃ M:Int,((m:Nat):Int)=M:=⟨_,rfl⟩;rw[hMM]at h2 HI |-;have t3:decide (M<1)=false:=M6 (by omega);have t4:decide (256<M)=false:=M6 (by omega);have HL:=hid hL;clear ha hL h0 h0' h1 h2 ge hG hI hT hB hE hMM;go_enter Tryz.func22,Tryz.ntmps22;go_wp2_with fail;refine HR.out.mono ?_;rintro e w1 ⟨rfl,hb1⟩;have y1:=hid hb1;clear hb1;go_wp2_with fail;refine (HO _ (HL.out.call y1.out)).out.mono ?_;rintro e w2 ⟨rfl,hb2⟩;have y2:=hid (a0a y1.out hb2);clear hb2;go_wp2_with fail;refine (HI _ (HL.out.call y2.out)).out.mono ?_;rintro e w3 ⟨rfl,hb3⟩;have y3:=hid (a0a y2.out hb3);clear hb3;go_wp2_with fail;refine (HT _ (HL.out.call y3.out)).out.mono ?_;rintro e w4 ⟨rfl,hb4⟩;have y4:=hid (a0a y3.out hb4);clear hb4;go_wp2_with fail;refine (HM _ (HL.out.call y4.out)).out.mono ?_;rintro e w5 ⟨rfl,hb5⟩;have y5:=hid (a0a y4.out hb5);clear hb5;go_wp2_with fail;go_ret2
  exact⟨rfl,y5.out⟩
 .rw[J2 h0,J2 h0];unfold j0r at h0 |-;obtain⟨z,hz⟩:=gn (gPE a);rw[hz]at HR h0 |-;by_cases c0:z=0
  case' neg=>
   rw[J2 c0];have t0:(z==0)=false:=by rw[U4];exact c0
   clear hz h0 c0 ha hL
  rotate_left
  subst c0;rw[U0 (by simp)]at h0 |-;by_cases c1:n<0\/256<n\/many<1\/256<many
  focus
   rw[J2 c1];obtain⟨p1,h1⟩:=gn (decide (n<0));obtain⟨p2,h2⟩:=gn (decide (256<n));obtain⟨p3,h3⟩:=gn (decide (many<1));obtain⟨p4,h4⟩:=gn (decide (256<many));have hpq:(p1 || (p2 || (p3 || p4)))=true:=by rw[<- h1,<- h2,<- h3,<- h4];simpa using c1
   clear hz h0 c1 ha hL;cases p1
   case' true=>
    clear hpq h2 h3 h4
   rotate_left
   cases p2
   case' true=>
    clear hpq h3 h4
   rotate_left
   cases p3
   case' true=>
    clear hpq h4
   rotate_left
   obtain rfl:p4=true:=by simpa using hpq
   clear hpq
  rotate_left 4
  .rw[U0 c1]at h0;exact absurd rfl h0
  all_goals
   go_enter Tryz.func22,Tryz.ntmps22;go_wp2_with fail;refine HR.out.mono ?_;rintro e w0 ⟨rfl,hb0⟩;go_wp2_with fail;go_ret2
   exact⟨rfl,hb0⟩
def r0D (w:World)(a:ByteArray)(reach:Int)(one:Bool)(ha:a.size<=100000)(hL:Lay w):
 Calls Tryz.prog 24 #[.string a,.int .i64 reach,.bool one] w fun e w'=>e=.returned (.tuple #[.string (ffB a reach one),.int .i64 (ffE a reach one)])/\Below w.heap.size w w':=by
 have HR:=hid (i0Y w a ha hL);unfold ffB ffE;by_cases h0:ffX a reach=0
 .rw[U0 (by rw[h0];simp),U0 (by rw[h0];simp)];have h0':=h0;unfold ffX at h0'
  split at h0'
  .rename_i h1;exact absurd h0' h1
  rename_i h1
  have h1:n0b a=0:=Af h1
  split at h0'
  .cases h0'
  rename_i h2
  obtain⟨g1,g2⟩:=l0H h1;rw[g1]at HR;obtain⟨hq,-⟩:=r0a h1;have hne:=b1F h1;obtain⟨r,rfl⟩:∃ r:Nat,reach=(r:Nat):=⟨reach.toNat,by omega⟩;have HP:=fun V hV=>hid (z0q V a (ffM (r:Nat) one) (-((ffM (r:Nat) one:Nat):Int)) (by omega) hq hne (by unfold ffM;split<;>simp<;>omega) rfl hV)
  have e1:pnB (ffM (r:Nat) one) a=t0D (ffM (r:Nat) one) a:=rfl;have e2:pnE (ffM (r:Nat) one) a=t0C (ffM (r:Nat) one) a:=rfl;rw[e1,e2]at HP;have hM:ffM (r:Nat) one=if one=true then r else 2*r:=by unfold ffM;rw[Be]
  obtain⟨B,hB⟩:=gn (t0D (ffM (r:Nat) one) a);obtain⟨E,hE⟩:=gn (t0C (ffM (r:Nat) one) a);rw[hB,hE]at HP |-;rw[hM]at HP;have t0:(a.toList == [48])=false:=a0L g2;have HL:=hid hL;cases one
  focus
   simp only[Bi,Ew]at HP;have wr2:IntKind.i64.wrap ((r:Int)*2)=((2*r:Nat):Int):=by rw[Q0 _ ⟨by omega,by omega⟩];omega
   have hneg:IntKind.i64.wrap (-((2*r:Nat):Int)) = -((2*r:Nat):Int):=by rw[Q0 _ ⟨by omega,by omega⟩]
   obtain⟨z,hz⟩:∃ z:Int,((2*r:Nat):Int)=z:=⟨_,rfl⟩;obtain⟨R,hR⟩:∃ R:Int,((r:Nat):Int)=R:=⟨_,rfl⟩;rw[hz]at HP wr2 hneg;rw[hR]at wr2 h2 |-;have t1:decide (R<0)=false:=M6 (by omega);have t2:decide (10000<R)=false:=M6 (by omega);clear ha hL h0 h0' h1 h2 g1 g2 hq hne e1 e2 hM hB hE hz hR
  rotate_left
  focus
   simp only[Fm]at HP;have hneg:IntKind.i64.wrap (-(r:Int)) = -(r:Int):=by rw[Q0 _ ⟨by omega,by omega⟩]
   obtain⟨R,hR⟩:∃ R:Int,((r:Nat):Int)=R:=⟨_,rfl⟩;rw[hR]at HP hneg h2 |-;have t1:decide (R<0)=false:=M6 (by omega);have t2:decide (10000<R)=false:=M6 (by omega);clear ha hL h0 h0' h1 h2 g1 g2 hq hne e1 e2 hM hB hE hR
  all_goals
   go_enter Tryz.func24,Tryz.ntmps24;go_wp2_with fail;refine HR.out.mono ?_;rintro e w1 ⟨rfl,hb1⟩;have y1:=hid hb1;clear hb1;go_wp2_with fail;refine (HP _ (HL.out.call y1.out)).out.mono ?_;rintro e w2 ⟨rfl,hb2⟩;have y2:=hid (a0a y1.out hb2);clear hb2;go_wp2_with fail;go_ret2
   exact⟨rfl,y2.out⟩
 .rw[J2 h0,J2 h0];unfold ffX at h0 |-;by_cases hiv:n0b a=0
  focus
   rw[U0 (by rw[hiv];simp)]at h0 |-;obtain⟨g1,g2⟩:=l0H hiv;rw[g1]at HR;have ta:(a.toList == [48])=false:=a0L g2;by_cases c1:reach<0\/10000<reach
   focus
    rw[J2 c1];obtain⟨p1,h1⟩:=gn (decide (reach<0));obtain⟨p2,h2⟩:=gn (decide (10000<reach));have hpq:(p1 || p2)=true:=by rw[<- h1,<- h2];simpa using c1
    clear h0 c1 ha hL g1 g2 hiv;cases p1
    case' true=>
     clear hpq h2
    rotate_left
    obtain rfl:p2=true:=by simpa using hpq
    clear hpq
   rotate_left 2
   .rw[U0 c1]at h0;exact absurd rfl h0
  rotate_left 2
  focus
   rw[J2 hiv];unfold n0b at hiv |-;obtain⟨z,hz⟩:=gn (gPE a);rw[hz]at HR hiv |-;by_cases c0:z=0
   case' neg=>
    rw[J2 c0];have t0:(z==0)=false:=by rw[U4];exact c0
    clear hz h0 c0 ha hL hiv
   rotate_left
   subst c0;rw[U0 (by simp)]at hiv |-;by_cases ca:a=⟨#[48]⟩
   focus
    subst ca;rw[J2 rfl];clear hz h0 ha hL hiv
   rotate_left
   .rw[U0 ca]at hiv;exact absurd rfl hiv
  all_goals
   go_enter Tryz.func24,Tryz.ntmps24;go_wp2_with fail;refine HR.out.mono ?_;rintro e w0 ⟨rfl,hb0⟩;go_wp2_with fail;go_ret2
   exact⟨rfl,hb0⟩
def numB_two':a0f 2=⟨#[50]⟩:=by unfold a0f;rw[a0u (by omega)];rfl
end
section
open Go.RowKit Go.Shelf
def t0V (w:World)(L:List (ByteArray×ByteArray))(n:Nat)(hn:L.length=n)(hL:n<=1000):MRow (w.alloc (.cells (a0O L).toArray 42)) (.slice (some ⟨w.heap.size,0,none⟩) n n) L:=by
 subst hn;refine⟨some ⟨w.heap.size,0,none⟩,L.length,rfl,J4 _,by omega,fun i x h=>⟨w.heap.size,0,rfl,by simp,?_,?_⟩⟩
 .rw[J8,(Blk.new w _ _).cell,J5];exact (c0M h).1
 .rw[J8,(Blk.new w _ _).cell,J5];exact (c0M h).2
def t0g (w:World)(L:List Int)(n:Nat)(hn:L.length=n)(hL:n<=1000):Row (w.alloc (.cells (zs L).toArray 3)) (.slice (some ⟨w.heap.size,0,none⟩) n n) (zs L):=
 Row.of_blk (Blk.new w _ _) (by rw[zs_length];exact hn) (by unfold maxLen;omega) (fun i x h=>by rw[J5];exact h) nr0 (by unfold maxLen;omega)
open Go.Lib (decDigits nDigits)
def h0u:ByteArray:=⟨#[49,47,50]⟩
def c1c:pkA [3,5,5] h0u [⟨#[49]⟩,⟨#[49]⟩,⟨#[49]⟩]=(1,true)/\pkE [3,5,5] h0u [⟨#[49]⟩,⟨#[49]⟩,⟨#[49]⟩]=0:=by decide +kernel
def c1b:flE [1,1] h0u 2=0/\flR [1,1] h0u 2 = [(⟨#[48]⟩,⟨#[55,47,49,54]⟩),(⟨#[49]⟩,⟨#[49,47,56]⟩),(⟨#[108,97,116,101]⟩,⟨#[55,47,49,54]⟩)]:=by
 have h:flE [1,1] h0u 2=0:=by decide +kernel
 refine⟨h,?_⟩;unfold flR;rw[J2 h];have e:fkP (gV (bN (cW h0u)) (bN (qD h0u)) false (2:Int).toNat) (2:Int).toNat [1,1] = [(⟨#[48]⟩,⟨#[55,47,49,54]⟩),(⟨#[49]⟩,⟨#[49,47,56]⟩),(⟨#[108,97,116,101]⟩,⟨#[55,47,49,54]⟩)]:=by decide +kernel
 rw[e];exact List.mergeSort_of_pairwise (by decide +kernel)
def p0X (w:World)(L:List Int)(cs:Array Value)(n b:Nat)(hc:cs=(zs L).toArray)(hb:w.heap.size=b)(hn:L.length=n)(hL:n<=1000):Row (w.alloc (.cells cs 3)) (.slice (some ⟨b,0,none⟩) n n) (zs L):=by
 subst hc hb;exact t0g w L n hn hL
def w0o (w:World)(L:List ByteArray)(cs:Array Value)(n b:Nat)(hc:cs=(d0k L).toArray)(hb:w.heap.size=b)(hn:L.length=n)(hL:n<=1000):Row (w.alloc (.cells cs 26)) (.slice (some ⟨b,0,none⟩) n n) (d0k L):=by
 subst hc hb;exact Row.of_blk (Blk.new w _ _) (by rw[strs_length];exact hn) (by unfold maxLen;omega) (fun i x h=>by rw[J5];exact h) nr0 (by unfold maxLen;omega)
def p0o (w:World)(hL:LayB w):
 Calls Tryz.prog 19 #[] w fun e w'=>e=.returned (.bool true)/\Below w.heap.size w w':=by
 have HL:=hid hL;have PP:=fun V v u hv hu hV=>hid (r0B V v u [3,5,5] h0u [⟨#[49]⟩,⟨#[49]⟩,⟨#[49]⟩] hv hu (by decide) (by decide) hV)
 have PL:=fun V v hv hV=>hid (v0B V v [1,1] h0u 2 hv (by decide) hV)
 rw[c1c.1,c1c.2]at PP;rw[c1b.1,c1b.2]at PL;unfold h0u at PP PL;have PS:=fun V u v hu hv=>hid (q0Y V u v [(⟨#[48]⟩,⟨#[55,47,49,54]⟩),(⟨#[49]⟩,⟨#[49,47,56]⟩),(⟨#[108,97,116,101]⟩,⟨#[55,47,49,54]⟩)] [(⟨#[48]⟩,⟨#[55,47,49,54]⟩),(⟨#[49]⟩,⟨#[49,47,56]⟩),(⟨#[108,97,116,101]⟩,⟨#[55,47,49,54]⟩)] hu hv)
 rw[E7 rfl]at PS;clear hL;have A1:=(Z3 w.heap.size w).alloc nr0 (.cells #[.int .i64 3,.int .i64 5,.int .i64 5] 3);have A2:=hid (A1.alloc A1.size (.cells #[.string ⟨#[49]⟩,.string ⟨#[49]⟩,.string ⟨#[49]⟩] 26));have R1:=hid ((p0X w [3,5,5] _ 3 w.heap.size rfl rfl rfl (by omega)).call (br0.alloc nr0 (.cells #[.string ⟨#[49]⟩,.string ⟨#[49]⟩,.string ⟨#[49]⟩] 26)));have R2:=hid (w0o (w.alloc (.cells #[.int .i64 3,.int .i64 5,.int .i64 5] 3)) [⟨#[49]⟩,⟨#[49]⟩,⟨#[49]⟩] _ 3 (w.heap.size+1) rfl (by simp) rfl (by omega));clear A1;go_enter Tryz.func19,Tryz.ntmps19;go_wp2_with fail;refine (PP _ _ _ R1.out R2.out (HL.out.call A2.out).l).out.mono ?_;rintro e w1 ⟨rfl,hb1⟩;have y1:=hid (a0a A2.out hb1);clear hb1;go_wp2_with fail;have A3:=hid ((Z3 w1.heap.size w1).alloc nr0 (.cells #[.int .i64 1,.int .i64 1] 3));have R3:=hid (p0X w1 [1,1] _ 2 w1.heap.size rfl rfl rfl (by omega));refine (PL _ _ R3.out (HL.out.call (a0a y1.out A3.out))).out.mono ?_;rintro e w2 ⟨⟨u,rfl,hu⟩,hb2⟩;have y2:=hid (a0a y1.out (a0a A3.out hb2));have U2:=hid hu;obtain⟨a2,k2,rfl,-,-,-⟩:=hu.ex;clear hb2 hu;have A4:=hid ((Z3 w2.heap.size w2).alloc nr0 (.cells #[.string ⟨#[48]⟩,.string ⟨#[55,47,49,54]⟩,.string ⟨#[49]⟩,.string ⟨#[49,47,56]⟩,.string ⟨#[108,97,116,101]⟩,.string ⟨#[55,47,49,54]⟩] 42));have R4:=hid (t0V w2 [(⟨#[48]⟩,⟨#[55,47,49,54]⟩),(⟨#[49]⟩,⟨#[49,47,56]⟩),(⟨#[108,97,116,101]⟩,⟨#[55,47,49,54]⟩)] 3 rfl (by omega));go_wp2_with fail;refine (PS _ _ _ (U2.out.call A4.out) R4.out).out.mono ?_;rintro e w3 ⟨rfl,hb3⟩;go_wp2_with fail;go_ret
 exact⟨rfl,a0a y2.out (a0a A4.out hb3)⟩
end
section
open Go.RowKit
open Go.Lib (decDigits nDigits)
structure CutR (s W B D:ByteArray)(S M I fb:Bool)(k:Nat):Prop where
 sl:∀ w,Calls Tryz.prog 171 #[.string s] w fun e w'=>e=.returned (.int .i64 k)/\w=w'
 kle:k<=s.size
 cutW:s.extract 0 k=W
 cutB:S=true->s.extract (k+1) s.size=B
 has:S=decide (k<s.size)
 int:∀ w,Calls Tryz.prog 172 #[.string W] w fun e w'=>e=.returned (.tuple #[.bool M,.string D,.bool I])/\w=w'
 form:∀ w,Calls Tryz.prog 173 #[.string B] w fun e w'=>e=.returned (.bool fb)/\w=w'
def s0c (s:ByteArray)(hs:s.size<=9223372036854775807):CutR s (cW s) (cB s) (iD (cW s)) (cS s) (iM (cW s)) (iB (cW s)) (fB (cB s)) (cW s).size:=by
 have key:∀ k,i0M s.data.toList k->k=(cW s).size:=by
  intro k hk;obtain⟨h1,h2,-⟩:=j0N hk;rw[h2];simp;omega
 have ex:∃ k,i0M s.data.toList k:=by
  rcases f0S s.data.toList with hn | ⟨A,B,hA,e⟩
  .exact⟨s.data.toList.length,J4 _,fun j b _ hb=>hn b (C7 hb),fun h=>absurd h (Jn _)⟩
  .refine⟨A.length,by rw[e];simp,fun j b hj hb=>?_,fun _=>by rw[e];simp⟩;rw[e,I9 hj]at hb;exact hA b (C7 hb)
 obtain⟨k,hk⟩:=ex;obtain⟨h1,h2,h3,h4⟩:=j0N hk;have hk':=key k hk;subst hk'
 exact {
  sl:=fun w=>(t0q w s (by omega)).mono (by
   rintro e w' ⟨⟨j,rfl,hj⟩,rfl⟩;rw[key j hj];exact⟨rfl,rfl⟩)
  kle:=h1
  cutW:=h2.symm
  cutB:=fun h=>(h4 (by rw[h3]at h;simpa using h)).symm
  has:=h3
  int:=fun w=>h0G w (cW s) (by have:=j0k s;omega)
  form:=fun w=>e0C w (cB s) (by have:=m0g s;omega) }
def RetR (x:Int)(m:Bool)(n d:Nat)(e:Ending)(w':World):Prop:=∃ v,e=.returned (.tuple #[v,.int .i64 x])/\(x=0->∃ N D,v=.agg #[.bool m,N,D]/\IsN .i64 w' N n/\IsN .i64 w' D d)/\(x≠0->v=.agg #[.bool false,.slice none 0 0,.slice none 0 0])
theorem RetR.err {x:Int}{m:Bool}{n d:Nat}{w':World}(h:x≠0):RetR x m n d (.returned (.tuple #[.agg #[.bool false,.slice none 0 0,.slice none 0 0],.int .i64 x])) w':=⟨_,rfl,fun e=>absurd e h,fun _=>rfl⟩
def Kk:=@Go.Proofs.Tryz.results71
def z0h (w:World)(s W B D:ByteArray)(S M I fb:Bool)(k:Nat)(hs:s.size<=9223372036854775807)(HC:CutR s W B D S M I fb k)
 (h:(I && (!S || (decide (D≠⟨#[48]⟩) && fb && decide (B≠⟨#[48]⟩) && decide (B≠⟨#[49]⟩))))=false):
 Calls Tryz.prog 71 #[.string s] w fun e w'=>e=.returned (.tuple #[.agg #[.bool false,.slice none 0 0,.slice none 0 0],.int .i64 3])/\Below w.heap.size w w':=by
 have key:(I=false)\/(I=true/\S=true/\(D=⟨#[48]⟩\/(¬ D=⟨#[48]⟩/\(fb=false\/(fb=true/\(B=⟨#[48]⟩\/(¬ B=⟨#[48]⟩/\B=⟨#[49]⟩))))))):=by
  by_cases h1:D=⟨#[48]⟩<;>by_cases h2:B=⟨#[48]⟩<;>by_cases h3:B=⟨#[49]⟩<;>cases I<;>cases S<;>cases fb<;>simp[h1,h2,h3]at h |-
 have HK:=hid HC;have kle:=HC.kle;have hlt:=HC.has;have cw:=hid HC.cutW;have cb:=hid HC.cutB;clear HC h;have t0:=hid (Blk.new w #[.bool false,.slice none 0 0,.slice none 0 0] 81);have t1:=hid ((Z3 w.heap.size w).alloc nr0 (.cells #[.bool false,.slice none 0 0,.slice none 0 0] 81));have d0:=t0.out.cell 0;have d1:=t0.out.cell 1;have d2:=t0.out.cell 2;have e0:=t0.out.free 0;have e1:=t0.out.free 1;have e2:=t0.out.free 2;simp at d0 d1 d2;have ht:∀ {b:Bool},b=decide (k<s.size)->decide (k<s.size)=b:=fun h=>h.symm
 have kle2:S=true->k+1<=s.size:=fun h=>by rw[h]at hlt;have:=M9 hlt.symm;omega
 have wk2:S=true->IntKind.i64.wrap ((k:Int)+1)=(k:Int)+1:=fun h=>by have:=kle2 h;rw[Q0 _ ⟨by omega,by omega⟩]
 rcases key with rfl | ⟨rfl,rfl,rfl | ⟨h1,rfl | ⟨rfl,rfl | ⟨h2,rfl⟩⟩⟩⟩
 focus
  cases S
  focus
   have q0:=ht hlt
  rotate_left
  focus
   have q0:=ht hlt;have kle3:=kle2 rfl;have wk:=wk2 rfl
 rotate_left 2
 focus
  have q0:=ht hlt;have kle3:=kle2 rfl;have wk:=wk2 rfl
 rotate_left
 focus
  have q0:=ht hlt;have kle3:=kle2 rfl;have wk:=wk2 rfl;have i1:=a0L (l:=[48]) h1
 rotate_left
 focus
  have q0:=ht hlt;have kle3:=kle2 rfl;have wk:=wk2 rfl;have i1:=a0L (l:=[48]) h1
 rotate_left
 focus
  have q0:=ht hlt;have kle3:=kle2 rfl;have wk:=wk2 rfl;have i1:=a0L (l:=[48]) h1
 all_goals
  clear hlt ht kle2 wk2;go_enter Tryz.func71,Tryz.ntmps71
  go_wp2_with (first
   | (go_at_call 171;refine (HK.out.sl _).mono ?_;rintro e w1 ⟨rfl,rfl⟩)
   | (go_at_call 172;rw[cw.out];refine (HK.out.int _).mono ?_;rintro e w2 ⟨rfl,rfl⟩)
   | (go_at_call 173;(first | rw[cb.out trivial] | rw[cb.out rfl]);refine (HK.out.form _).mono ?_;rintro e w3 ⟨rfl,rfl⟩)
   | fail)
  obtain⟨s1,s2⟩:=c0W t0.out false none none 0 0 0 0;have f0:=s2.cell 0;have f1:=s2.cell 1;have f2:=s2.cell 2;simp at f0 f1 f2;refine Z6 (v:=.tuple #[.agg #[.bool false,.slice none 0 0,.slice none 0 0],.int .i64 3]) (by simp[results,Kk,go_sem,f0,f1,f2]) rfl ⟨rfl,?_⟩
  first | exact t1.out | exact ((t1.out.setCell nr0 _).setCell nr0 _).setCell nr0 _
def w0r (w:World)(s W B D:ByteArray)(S M fb:Bool)(k:Nat)(hs:s.size<=9223372036854775807)(HC:CutR s W B D S M true fb k)
 (h:S=false\/(S=true/\¬ D=⟨#[48]⟩/\¬ B=⟨#[48]⟩/\¬ B=⟨#[49]⟩/\fb=true)) (hl:4000<D.size\/(¬ 4000<D.size/\S=true/\4000<B.size)):
 Calls Tryz.prog 71 #[.string s] w fun e w'=>e=.returned (.tuple #[.agg #[.bool false,.slice none 0 0,.slice none 0 0],.int .i64 5])/\Below w.heap.size w w':=by
 have HK:=hid HC;have kle:=HC.kle;have hlt:=HC.has;have cw:=hid HC.cutW;have cb:=hid HC.cutB;clear HC;have t0:=hid (Blk.new w #[.bool false,.slice none 0 0,.slice none 0 0] 81);have t1:=hid ((Z3 w.heap.size w).alloc nr0 (.cells #[.bool false,.slice none 0 0,.slice none 0 0] 81));have d0:=t0.out.cell 0;have d1:=t0.out.cell 1;have d2:=t0.out.cell 2;have e0:=t0.out.free 0;have e1:=t0.out.free 1;have e2:=t0.out.free 2;simp at d0 d1 d2;have kle2:S=true->k+1<=s.size:=fun h=>by rw[h]at hlt;have:=M9 hlt.symm;omega
 have wk2:S=true->IntKind.i64.wrap ((k:Int)+1)=(k:Int)+1:=fun h=>by have:=kle2 h;rw[Q0 _ ⟨by omega,by omega⟩]
 have q0:=hlt.symm;clear hlt;rcases h with rfl | ⟨rfl,h1,h2,h3,rfl⟩
 focus
  have q1:decide ((4000:Int)<(D.size:Int))=true:=by
   rcases hl with hl | ⟨_,hl,_⟩
   .simp;omega
   .cases hl
  clear hl kle2 wk2
 rotate_left
 focus
  have kle3:=kle2 rfl;have wk:=wk2 rfl;have i1:=a0L (l:=[48]) h1;have i2:=a0L (l:=[48]) h2;have i3:=a0L (l:=[49]) h3;clear kle2 wk2;rcases hl with hl | ⟨hl,-,hl2⟩
  focus
   have q1:decide ((4000:Int)<(D.size:Int))=true:=by simp;omega
   clear hl
  rotate_left
  focus
   have q1:decide ((4000:Int)<(D.size:Int))=false:=by simp;omega
   have q2:decide ((4000:Int)<(B.size:Int))=true:=by simp;omega
   clear hl hl2
 all_goals
  go_enter Tryz.func71,Tryz.ntmps71
  go_wp2_with (first
   | (go_at_call 171;refine (HK.out.sl _).mono ?_;rintro e w1 ⟨rfl,rfl⟩)
   | (go_at_call 172;rw[cw.out];refine (HK.out.int _).mono ?_;rintro e w2 ⟨rfl,rfl⟩)
   | (go_at_call 173;(first | rw[cb.out trivial] | rw[cb.out rfl]);refine (HK.out.form _).mono ?_;rintro e w3 ⟨rfl,rfl⟩)
   | fail)
  obtain⟨s1,s2⟩:=c0W t0.out false none none 0 0 0 0;have f0:=s2.cell 0;have f1:=s2.cell 1;have f2:=s2.cell 2;simp at f0 f1 f2;refine Z6 (v:=.tuple #[.agg #[.bool false,.slice none 0 0,.slice none 0 0],.int .i64 5]) (by simp[results,Kk,go_sem,f0,f1,f2]) rfl ⟨rfl,?_⟩
  first | exact t1.out | exact ((t1.out.setCell nr0 _).setCell nr0 _).setCell nr0 _
def RetRF (B:Nat)(x:Int)(m:Bool)(n d:Nat)(e:Ending)(w':World):Prop:=∃ v,e=.returned (.tuple #[v,.int .i64 x])/\(x=0->∃ N D,v=.agg #[.bool m,N,D]/\IsN .i64 w' N n/\IsN .i64 w' D d/\(∀ g,N.ownBlock=some g->B<=g)/\(∀ g,D.ownBlock=some g->B<=g))/\(x≠0->v=.agg #[.bool false,.slice none 0 0,.slice none 0 0])
theorem RetRF.err {B:Nat}{x:Int}{m:Bool}{n d:Nat}{w':World}(h:x≠0):RetRF B x m n d (.returned (.tuple #[.agg #[.bool false,.slice none 0 0,.slice none 0 0],.int .i64 x])) w':=⟨_,rfl,fun e=>absurd e h,fun _=>rfl⟩
def m0G (w:World)(s W B D:ByteArray)(M:Bool)(k:Nat)(hs:s.size<=1000000)(HC:CutR s W B D true M true true k)
 (h1:¬ D=⟨#[48]⟩) (h2:¬ B=⟨#[48]⟩) (h3:¬ B=⟨#[49]⟩) (hl1:¬ 4000<D.size) (hl2:¬ 4000<B.size) (hd1:allDig D.data.toList) (hd2:allDig B.data.toList):
 Calls Tryz.prog 71 #[.string s] w fun e w'=>RetRF w.heap.size (if Nat.gcd (bN D) (bN B)=1 then 0 else 3) M (bN D) (bN B) e w'/\Below w.heap.size w w':=by
 obtain⟨xc,hxc⟩:∃ x:Int,(if Nat.gcd (bN D) (bN B)=1 then 0 else 3)=x:=⟨_,rfl⟩;rw[hxc];have HXC:=hid hxc;clear hxc;have HK:=hid HC;have kle:=HC.kle;have hlt:=HC.has;have cw:=hid HC.cutW;have cb:=hid HC.cutB;clear HC;have t0:=hid (Blk.new w #[.bool false,.slice none 0 0,.slice none 0 0] 81);have t1:=hid ((Z3 w.heap.size w).alloc nr0 (.cells #[.bool false,.slice none 0 0,.slice none 0 0] 81));have wk:IntKind.i64.wrap ((k:Int)+1)=(k:Int)+1:=by rw[Q0 _ ⟨by omega,by omega⟩]
 have kle3:k+1<=s.size:=by have:=M9 hlt.symm;omega
 have q0:=hlt.symm;clear hlt;have i1:=a0L (l:=[48]) h1;have i2:=a0L (l:=[48]) h2;have i3:=a0L (l:=[49]) h3;have q1:decide ((4000:Int)<(D.size:Int))=false:=by simp;omega
 have q2:decide ((4000:Int)<(B.size:Int))=false:=by simp;omega
 have L1:=hid (e0W hd1 hl1);have L2:=hid (e0W hd2 hl2);have P1:=fun W=>hid (d0G W D hd1 (by omega))
 have P2:=fun W=>hid (d0G W B hd2 (by omega))
 clear hd1 hd2 h1 h2 h3 hl1 hl2;go_enter Tryz.func71,Tryz.ntmps71
 go_wp2_with (first
  | (go_at_call 171;refine (HK.out.sl _).mono ?_;rintro e w1 ⟨rfl,rfl⟩)
  | (go_at_call 172;rw[cw.out];refine (HK.out.int _).mono ?_;rintro e w2 ⟨rfl,rfl⟩)
  | (go_at_call 173;(first | rw[cb.out trivial] | rw[cb.out rfl]);refine (HK.out.form _).mono ?_;rintro e w3 ⟨rfl,rfl⟩)
  | fail)
 refine (P1 _).out.mono ?_;rintro e w4 ⟨⟨v4,rfl,hv4,hf4⟩,hb4⟩;have F4:=hid (fun g hg=>O0 t1.out.size (hf4 g hg));have x4:=hid (t0.out.call hb4);have y4:=hid (a0a t1.out hb4);have N4:=hid hv4;clear hb4 hv4 hf4;obtain⟨a4,c4,rfl,_⟩:=N4.out.openI;obtain⟨k1,hk1⟩:=gn ((limbs (dv D.data.toList)).length);rw[hk1]at N4 F4 |-;clear P1;go_wp2_with fail;refine (P2 _).out.mono ?_;rintro e w5 ⟨⟨v5,rfl,hv5,hf5⟩,hb5⟩;have F5:=hid (fun g hg=>O0 y4.out.size (hf5 g hg));have x5:=hid (x4.out.call hb5);have y5:=hid (a0a y4.out hb5);have N5:=hid (N4.out.call hb5);have D5:=hid hv5;clear hb5 hv5 hf5;obtain⟨a5,c5,rfl,_⟩:=D5.out.openI;obtain⟨k2,hk2⟩:=gn ((limbs (dv B.data.toList)).length);rw[hk2]at D5 F5 |-;clear P2;go_wp2_with fail;have z5:=hid (Blk.new w5 #[.bool M,.slice a4 k1 c4,.slice a5 k2 c5] 81);have b5:=hid ((Z3 w5.heap.size w5).alloc nr0 (.cells #[.bool M,.slice a4 k1 c4,.slice a5 k2 c5] 81));have g0:=z5.out.cell 0;have g1:=z5.out.cell 1;have g2:=z5.out.cell 2;simp at g0 g1 g2;go_wp2_with fail;refine (g0F _ _ _ _ _ (N5.out.call b5.out) (D5.out.call b5.out) L1.out L2.out).mono ?_;rintro e w6 ⟨⟨v6,rfl,hv6⟩,hb6⟩;have z6:=hid (z5.out.call hb6);have x6:=hid ((x5.out.call b5.out).call hb6);have y6:=hid (a0a (a0a y5.out b5.out) hb6);have N6:=hid ((N5.out.call b5.out).call hb6);have D6:=hid ((D5.out.call b5.out).call hb6);have G6:=hid hv6;clear hb6 hv6 g0 g1 g2;go_wp2_with fail;refine (q0d _).mono ?_;rintro e w7 ⟨⟨v7,rfl,hv7⟩,hb7⟩;have z7:=hid (z6.out.call hb7);have x7:=hid (x6.out.call hb7);have y7:=hid (a0a y6.out hb7);have N7:=hid (N6.out.call hb7);have D7:=hid (D6.out.call hb7);have G7:=hid (G6.out.call hb7);have O7:=hid hv7;clear hb7 hv7;go_wp2_with fail;refine (b0k _ _ _ _ _ G7.out O7.out).mono ?_;rintro e w8 ⟨rfl,hb8⟩;have z8:=hid (z7.out.call hb8);have x8:=hid (x7.out.call hb8);have y8:=hid (a0a y7.out hb8);have N8:=hid (N7.out.call hb8);have D8:=hid (D7.out.call hb8);clear hb8;have d0:=x8.out.cell 0;have d1:=x8.out.cell 1;have d2:=x8.out.cell 2;have e0:=x8.out.free 0;have e1:=x8.out.free 1;have e2:=x8.out.free 2;have g0:=z8.out.cell 0;have g1:=z8.out.cell 1;have g2:=z8.out.cell 2;simp at d0 d1 d2 g0 g1 g2;by_cases hG:Nat.gcd (bN D) (bN B)=1
 .have hO:b0d (Nat.gcd (dv D.data.toList) (dv B.data.toList)) 1=0:=by rw[show Nat.gcd (dv D.data.toList) (dv B.data.toList)=1 from hG];exact c0F
  have X0:=hid (show xc=0 from by rw[<- HXC.out,J2 hG]);rw[hO];clear hO hG;go_wp2_with fail;obtain⟨s1,s2⟩:=c0W x8.out M a4 a5 k1 c4 k2 c5;have f0:=s2.cell 0;have f1:=s2.cell 1;have f2:=s2.cell 2;simp at f0 f1 f2;refine Z6 (v:=.tuple #[.agg #[.bool M,.slice a4 k1 c4,.slice a5 k2 c5],.int .i64 0]) (by simp[results,Kk,go_sem,f0,f1,f2]) rfl ⟨by rw[X0.out];exact⟨_,rfl,fun _=>⟨_,_,rfl,s1 _ _ _ N8.out,s1 _ _ _ D8.out,F4.out,F5.out⟩,fun h=>absurd rfl h⟩,?_⟩;exact ((y8.out.setCell nr0 _).setCell nr0 _).setCell nr0 _
 .have hO:(b0d (Nat.gcd (dv D.data.toList) (dv B.data.toList)) 1 != 0)=true:=by
   have hG':¬ Nat.gcd (dv D.data.toList) (dv B.data.toList)=1:=hG;unfold b0d
   split
   .rfl
   .split
    .rfl
    .omega
  have X0:=hid (show xc=3 from by rw[<- HXC.out,U0 hG]);obtain⟨t,ht⟩:=gn (b0d (Nat.gcd (dv D.data.toList) (dv B.data.toList)) 1);rw[ht]at hO |-;clear ht hG;go_wp2_with fail;obtain⟨s1,s2⟩:=c0W x8.out false none none 0 0 0 0;have f0:=s2.cell 0;have f1:=s2.cell 1;have f2:=s2.cell 2;simp at f0 f1 f2;refine Z6 (v:=.tuple #[.agg #[.bool false,.slice none 0 0,.slice none 0 0],.int .i64 3]) (by simp[results,Kk,go_sem,f0,f1,f2]) rfl ⟨by rw[X0.out];exact RetRF.err (by decide),?_⟩;exact ((y8.out.setCell nr0 _).setCell nr0 _).setCell nr0 _
def q0a (w:World)(s W B D:ByteArray)(M fb:Bool)(k:Nat)(hs:s.size<=1000000)(HC:CutR s W B D false M true fb k)
 (hl1:¬ 4000<D.size) (hd1:allDig D.data.toList):
 Calls Tryz.prog 71 #[.string s] w fun e w'=>RetRF w.heap.size 0 M (bN D) 1 e w'/\Below w.heap.size w w':=by
 have HK:=hid HC;have kle:=HC.kle;have hlt:=HC.has;have cw:=hid HC.cutW;have cb:=hid HC.cutB;clear HC;have t0:=hid (Blk.new w #[.bool false,.slice none 0 0,.slice none 0 0] 81);have t1:=hid ((Z3 w.heap.size w).alloc nr0 (.cells #[.bool false,.slice none 0 0,.slice none 0 0] 81));have q0:=hlt.symm;clear hlt;have q1:decide ((4000:Int)<(D.size:Int))=false:=by simp;omega
 have L1:=hid (e0W hd1 hl1);have L2:Hid ((limbs 1).length<=1000000):=by show _<=_;rw[c0O];decide
 have P1:=fun W=>hid (d0G W D hd1 (by omega))
 have P2:∀ W,Hid (Calls Tryz.prog 151 #[.string ⟨#[49]⟩] W fun e w'=>RetFr W.heap.size .i64 1 e w'/\Below W.heap.size W w'):=fun W=>hid (d0G W ⟨#[49]⟩ (by intro b hb;simp at hb;subst hb;rfl) (Nq (S4 _)))
 have hO:b0d (Nat.gcd (dv D.data.toList) 1) 1=0:=by rw[Nf];exact c0F
 have HO:=hid hO;clear hd1 hl1 hO;go_enter Tryz.func71,Tryz.ntmps71
 go_wp2_with (first
  | (go_at_call 171;refine (HK.out.sl _).mono ?_;rintro e w1 ⟨rfl,rfl⟩)
  | (go_at_call 172;rw[cw.out];refine (HK.out.int _).mono ?_;rintro e w2 ⟨rfl,rfl⟩)
  | (go_at_call 173;(first | rw[cb.out trivial] | rw[cb.out rfl]);refine (HK.out.form _).mono ?_;rintro e w3 ⟨rfl,rfl⟩)
  | fail)
 refine (P1 _).out.mono ?_;rintro e w4 ⟨⟨v4,rfl,hv4,hf4⟩,hb4⟩;have F4:=hid (fun g hg=>O0 t1.out.size (hf4 g hg));have x4:=hid (t0.out.call hb4);have y4:=hid (a0a t1.out hb4);have N4:=hid hv4;clear hb4 hv4 hf4;obtain⟨a4,c4,rfl,_⟩:=N4.out.openI;obtain⟨k1,hk1⟩:=gn ((limbs (dv D.data.toList)).length);rw[hk1]at N4 F4 |-;clear P1;go_wp2_with fail;refine (P2 _).out.mono ?_;rintro e w5 ⟨⟨v5,rfl,hv5,hf5⟩,hb5⟩;have F5:=hid (fun g hg=>O0 y4.out.size (hf5 g hg));have x5:=hid (x4.out.call hb5);have y5:=hid (a0a y4.out hb5);have N5:=hid (N4.out.call hb5);have D5:=hid hv5;clear hb5 hv5 hf5;obtain⟨a5,c5,rfl,_⟩:=D5.out.openI;obtain⟨k2,hk2⟩:=gn ((limbs 1).length);rw[hk2]at D5 F5 |-;clear P2;go_wp2_with fail;have z5:=hid (Blk.new w5 #[.bool M,.slice a4 k1 c4,.slice a5 k2 c5] 81);have b5:=hid ((Z3 w5.heap.size w5).alloc nr0 (.cells #[.bool M,.slice a4 k1 c4,.slice a5 k2 c5] 81));have g0:=z5.out.cell 0;have g1:=z5.out.cell 1;have g2:=z5.out.cell 2;simp at g0 g1 g2;go_wp2_with fail;refine (g0F _ _ _ _ _ (N5.out.call b5.out) (D5.out.call b5.out) L1.out L2.out).mono ?_;rintro e w6 ⟨⟨v6,rfl,hv6⟩,hb6⟩;have z6:=hid (z5.out.call hb6);have x6:=hid ((x5.out.call b5.out).call hb6);have y6:=hid (a0a (a0a y5.out b5.out) hb6);have N6:=hid ((N5.out.call b5.out).call hb6);have D6:=hid ((D5.out.call b5.out).call hb6);have G6:=hid hv6;clear hb6 hv6 g0 g1 g2;go_wp2_with fail;refine (q0d _).mono ?_;rintro e w7 ⟨⟨v7,rfl,hv7⟩,hb7⟩;have z7:=hid (z6.out.call hb7);have x7:=hid (x6.out.call hb7);have y7:=hid (a0a y6.out hb7);have N7:=hid (N6.out.call hb7);have D7:=hid (D6.out.call hb7);have G7:=hid (G6.out.call hb7);have O7:=hid hv7;clear hb7 hv7;go_wp2_with fail;refine (b0k _ _ _ _ _ G7.out O7.out).mono ?_;rintro e w8 ⟨rfl,hb8⟩;have z8:=hid (z7.out.call hb8);have x8:=hid (x7.out.call hb8);have y8:=hid (a0a y7.out hb8);have N8:=hid (N7.out.call hb8);have D8:=hid (D7.out.call hb8);clear hb8;have d0:=x8.out.cell 0;have d1:=x8.out.cell 1;have d2:=x8.out.cell 2;have e0:=x8.out.free 0;have e1:=x8.out.free 1;have e2:=x8.out.free 2;have g0:=z8.out.cell 0;have g1:=z8.out.cell 1;have g2:=z8.out.cell 2;simp at d0 d1 d2 g0 g1 g2;rw[HO.out];go_wp2_with fail;obtain⟨s1,s2⟩:=c0W x8.out M a4 a5 k1 c4 k2 c5;have f0:=s2.cell 0;have f1:=s2.cell 1;have f2:=s2.cell 2;simp at f0 f1 f2;refine Z6 (v:=.tuple #[.agg #[.bool M,.slice a4 k1 c4,.slice a5 k2 c5],.int .i64 0]) (by simp[results,Kk,go_sem,f0,f1,f2]) rfl ⟨⟨_,rfl,fun _=>⟨_,_,rfl,s1 _ _ _ N8.out,s1 _ _ _ D8.out,F4.out,F5.out⟩,fun h=>absurd rfl h⟩,?_⟩;exact ((y8.out.setCell nr0 _).setCell nr0 _).setCell nr0 _
theorem RetRF.ret {B:Nat}{x:Int}{m:Bool}{n d:Nat}{e:Ending}{w':World}(h:RetRF B x m n d e w'):RetR x m n d e w':=by
 obtain⟨v,h1,h2,h3⟩:=h;refine⟨v,h1,fun h=>?_,h3⟩;obtain⟨N,D,k1,k2,k3,-,-⟩:=h2 h;exact⟨N,D,k1,k2,k3⟩
def w0s (w:World)(s W B D:ByteArray)(M:Bool)(k:Nat)(hs:s.size<=1000000)(HC:CutR s W B D true M true true k)
 (h1:¬ D=⟨#[48]⟩) (h2:¬ B=⟨#[48]⟩) (h3:¬ B=⟨#[49]⟩) (hl1:¬ 4000<D.size) (hl2:¬ 4000<B.size) (hd1:allDig D.data.toList) (hd2:allDig B.data.toList):
 Calls Tryz.prog 71 #[.string s] w fun e w'=>RetR (if Nat.gcd (bN D) (bN B)=1 then 0 else 3) M (bN D) (bN B) e w'/\Below w.heap.size w w':=
 (m0G w s W B D M k hs HC h1 h2 h3 hl1 hl2 hd1 hd2).mono fun _ _ h=>⟨h.1.ret,h.2⟩
def z0g (w:World)(s W B D:ByteArray)(M fb:Bool)(k:Nat)(hs:s.size<=1000000)(HC:CutR s W B D false M true fb k)
 (hl1:¬ 4000<D.size) (hd1:allDig D.data.toList):
 Calls Tryz.prog 71 #[.string s] w fun e w'=>RetR 0 M (bN D) 1 e w'/\Below w.heap.size w w':=
 (q0a w s W B D M fb k hs HC hl1 hd1).mono fun _ _ h=>⟨h.1.ret,h.2⟩
def i0s (w:World)(s:ByteArray)(hs:s.size<=1000000):
 Calls Tryz.prog 71 #[.string s] w fun e w'=>RetR (qE s) (iM (cW s)) (bN (iD (cW s))) (bN (qD s)) e w'/\Below w.heap.size w w':=by
 have HC:=s0c s (by omega);by_cases hq:qB s=true
 .have hi:=c0k hq;rw[hi]at HC;have hdD:=e0Q (d0b hi);have hcS:cS s=false\/(cS s=true/\¬ iD (cW s)=⟨#[48]⟩/\¬ cB s=⟨#[48]⟩/\¬ cB s=⟨#[49]⟩/\fB (cB s)=true):=by
   have hq':=hq;unfold qB at hq';simp only[F9,Ai,Bv,K6]at hq';rcases hq'.2 with h | h
   .exact .inl h
   .cases hc:cS s
    .exact .inl rfl
    .exact .inr ⟨rfl,h.1.1.1,h.1.2,h.2,h.1.1.2⟩
  by_cases hl:qL s=true
  .have e:qE s=5:=by simp[qE,hq,hl]
   rw[e];unfold qL at hl;simp only[Ai,K6]at hl;refine (w0r w s _ _ _ _ _ _ _ (by omega) HC hcS ?_).mono ?_
   .by_cases h4:4000<(iD (cW s)).size
    .exact .inl h4
    .refine .inr ⟨h4,?_⟩;rcases hcS with hc | ⟨hc,-⟩
     .rw[d0H hc]at hl;exact absurd (hl.resolve_left h4) (by decide)
     .rw[c0e hc]at hl;exact⟨hc,hl.resolve_left h4⟩
   .rintro e w' ⟨rfl,hb⟩;exact⟨RetR.err (by decide),hb⟩
  .have hl':qL s=false:=by simpa using hl
   have hl1:¬ 4000<(iD (cW s)).size/\¬ 4000<(qD s).size:=by
    unfold qL at hl';simpa using hl'
   rcases hcS with hc | ⟨hc,h1,h2,h3,h4⟩
   .rw[hc]at HC;have e:qE s=0:=by simp[qE,hq,hl',qG,hc]
    rw[e,d0H hc];exact z0g w s _ _ _ _ _ _ hs HC hl1.1 hdD
   .rw[hc,h4]at HC;have hl2:=hl1.2;rw[c0e hc]at hl2;have e:qE s=if Nat.gcd (bN (iD (cW s))) (bN (cB s))=1 then 0 else 3:=by
     simp only[qE,hq,hl',qG,hc,c0e hc];by_cases hg:Nat.gcd (bN (iD (cW s))) (bN (cB s))=1<;>simp[hg]
    rw[e,c0e hc];exact w0s w s _ _ _ _ _ hs HC h1 h2 h3 hl1.1 hl2 hdD (e0Q h4)
 .have hq':qB s=false:=by simpa using hq
  have e:qE s=3:=by simp[qE,hq']
  rw[e];refine (z0h w s _ _ _ _ _ _ _ _ (by omega) HC hq').mono ?_;rintro e w' ⟨rfl,hb⟩;exact⟨RetR.err (by decide),hb⟩
def RetQE (s:ByteArray)(e:Ending)(w':World):Prop:=∃ v,e=.returned (.tuple #[v,.int .i64 (qE s)])/\(qE s=0->IsQ .i64 w' v (vQ s))/\(qE s≠0->v=.agg #[.bool false,.slice none 0 0,.slice none 0 0])
def c0X (w:World)(s:ByteArray)(hs:s.size<=1000000):
 Calls Tryz.prog 71 #[.string s] w fun e w'=>RetQE s e w'/\Below w.heap.size w w':=by
 refine (i0s w s hs).mono ?_;rintro e w' ⟨⟨v,rfl,h1,h2⟩,hb⟩;refine⟨⟨v,rfl,fun h=>?_,h2⟩,hb⟩;obtain⟨N,D,rfl,hN,hD⟩:=h1 h;obtain⟨e1,e2,e3⟩:=i0e h;exact⟨N,D,by rw[e1],by rw[e2];exact hN,by rw[e3];exact hD⟩
end
section
open Go.RowKit
def w0y (w:World)(v:Value)(q:Rat)(h:IsQ .i64 w v q)(h0:q≠0):
 Calls Tryz.prog 121 #[v] w fun e w'=>k0T .i64 q⁻¹ e w'/\Below w.heap.size w w':=by
 obtain⟨N,D,rfl,hn,hd⟩:=h.ex;obtain⟨m,hm⟩:=gn (decide (q.num<0));have HN:=hid hn;have HD:=hid hd;have HM:=hid hm;have H0:=hid h0;rw[hm];obtain⟨a1,c1,rfl,_⟩:=hn.openI;obtain⟨a2,c2,rfl,_⟩:=hd.openI;clear hn hd hm h0 h;go_enter Tryz.func121,Tryz.ntmps121;go_wp2_with fail;obtain⟨p1,p2,p3⟩:=g0U H0.out;have B:=((Z3 w.heap.size w).alloc nr0 (.cells #[.bool m,.slice a1 (limbs q.num.natAbs).length c1,.slice a2 (limbs q.den).length c2] 81)).alloc (by simp) (.cells #[.bool m,.slice a2 (limbs q.den).length c2,.slice a1 (limbs q.num.natAbs).length c1] 81);refine Z6 (v:=.agg #[.bool m,.slice a2 (limbs q.den).length c2,.slice a1 (limbs q.num.natAbs).length c1]) (by simp[results,Tryz.results121,go_sem]) rfl ⟨⟨_,rfl,⟨_,_,rfl.trans ?_,by rw[p2];exact HD.out.call B,by rw[p3];exact HN.out.call B⟩⟩,B⟩;rw[p1,HM.out]
def q0K {q:Rat}{m:Bool}(hm:decide (q.num<0)=m):decide ((-q).num<0)=(!m && decide (0<q.num.natAbs))/\(-q).num.natAbs=q.num.natAbs/\(-q).den=q.den:=by
 refine⟨?_,by rw[Ir,Ij],Md q⟩;rw[Ir,<- hm,Ay];simp only[F9,Bv,K6,D9];omega
def g0D (w:World)(v:Value)(q:Rat)(h:IsQ .i64 w v q):
 Calls Tryz.prog 76 #[v] w fun e w'=>k0T .i64 (-q) e w'/\Below w.heap.size w w':=by
 obtain⟨N,D,rfl,hn,hd⟩:=h.ex;obtain⟨m,hm⟩:=gn (decide (q.num<0));have HN:=hid hn;have HD:=hid hd;have HP:=hid (q0K hm);rw[hm];obtain⟨a1,c1,rfl,_⟩:=hn.openI;obtain⟨a2,c2,rfl,_⟩:=hd.openI;clear hn hd hm h;obtain⟨l,hl⟩:=gn ((limbs q.num.natAbs).length);have hz:decide (0<l)=decide (0<q.num.natAbs):=by
  have h1:l=0↔q.num.natAbs=0:=by rw[<- hl,Ei,b0N]
  exact Fh.2 (by omega)
 have HZ:=hid hz;have HL:=hid hl;rw[hl];clear hz hl;go_enter Tryz.func76,Tryz.ntmps76;go_wp2_with fail
 all_goals
  obtain⟨p1,p2,p3⟩:=HP.out;rw[<- HZ.out]at p1;refine Z6 (v:=.agg #[_,.slice a1 l c1,.slice a2 (limbs q.den).length c2]) (by simp[results,Tryz.results76,go_sem];rfl) rfl ⟨⟨_,rfl,⟨.slice a1 l c1,.slice a2 (limbs q.den).length c2,?_,?_,?_⟩⟩,?_⟩
  .rw[p1];clear HP HZ HL HN HD;simp_all
  .have hh:=HN.out;rw[HL.out]at hh;rw[p2];exact hh.call (((Z3 w.heap.size w).alloc nr0 _).alloc (by simp) _)
  .rw[p3];exact HD.out.call (((Z3 w.heap.size w).alloc nr0 _).alloc (by simp) _)
  .exact (((Z3 w.heap.size w).alloc nr0 _).alloc (by simp) _)
def b1c (m1 m2:Bool)(x y:Nat)(m:Bool)(s:Nat):Prop:=
 (m1=m2/\m=m1/\s=x+y)\/((m1==m2)=false/\x<y/\m=m2/\s=y-x)\/((m1==m2)=false/\y<=x/\m=m1/\s=x-y)
def q0S {a b p:Nat}(ha:(limbs a).length<=p)(hb:(limbs b).length<=p):(limbs (a+b)).length<=p+1:=by
 refine a0g.2 ?_;have h1:=a0g.1 ha;have h2:=a0g.1 hb;rw[I8];omega
def z0x {x y:Nat}(h:y<=x):decide (b0d x y<0)=false:=by
 unfold b0d
 split
 .omega
 .split<;>simp
def j0Y (w:World)(m1 m2 m:Bool)(N1 D1 N2 D2:Value)(n1 d1 n2 d2 s:Nat)(hn1:IsN .i64 w N1 n1)(hd1:IsN .i64 w D1 d1)(hn2:IsN .i64 w N2 n2)(hd2:IsN .i64 w D2 d2)
 (l1:(limbs n1).length<=100000) (l2:(limbs d1).length<=100000) (l3:(limbs n2).length<=100000) (l4:(limbs d2).length<=100000) (p1:0<d1) (p2:0<d2) (key:b1c m1 m2 (n1*d2) (n2*d1) m s):
 Calls Tryz.prog 75 #[.agg #[.bool m1,N1,D1],.agg #[.bool m2,N2,D2]] w fun e w'=>RetQF w.heap.size (qmk m s (d1*d2)) e w'/\Below w.heap.size w w':=by
 have HN1:=hid hn1;have HD1:=hid hd1;have HN2:=hid hn2;have HD2:=hid hd2;have L1:=hid (O0 (a0H l1 l4) (show 100000+100000<=1000000 by omega));have L2:=hid (O0 (a0H l3 l2) (show 100000+100000<=1000000 by omega));have L3:=hid (O0 (a0H l2 l4) (show 100000+100000<=1000000 by omega));have H1:=hid (O0 l1 (show 100000<=1000000 by omega));have H2:=hid (O0 l2 (show 100000<=1000000 by omega));have H3:=hid (O0 l3 (show 100000<=1000000 by omega));have H4:=hid (O0 l4 (show 100000<=1000000 by omega));have hD:=hid (Dr p1 p2);have LS:Hid ((limbs s).length<=1000000):=by
  have q1:=a0H l1 l4;have q2:=a0H l3 l2;have q3:=q0S q1 q2;have q4:(limbs s).length<=(limbs (n1*d2+n2*d1)).length:=a0h (by rcases key with ⟨-,-,rfl⟩ | ⟨-,-,-,rfl⟩ | ⟨-,-,-,rfl⟩<;>omega);show _<=_
  omega
 clear l1 l2 l3 l4 p1 p2;obtain⟨a1,c1,rfl,_⟩:=hn1.openI;obtain⟨a2,c2,rfl,_⟩:=hd1.openI;obtain⟨a3,c3,rfl,_⟩:=hn2.openI;obtain⟨a4,c4,rfl,_⟩:=hd2.openI;obtain⟨k1,hk1⟩:=gn ((limbs n1).length);obtain⟨k2,hk2⟩:=gn ((limbs d1).length);obtain⟨k3,hk3⟩:=gn ((limbs n2).length);obtain⟨k4,hk4⟩:=gn ((limbs d2).length);rw[hk1]at HN1 |-;rw[hk2]at HD1 |-;rw[hk3]at HN2 |-;rw[hk4]at HD2 |-;clear hn1 hd1 hn2 hd2 hk1 hk2 hk3 hk4;obtain⟨x,hx⟩:=gn (n1*d2);obtain⟨y,hy⟩:=gn (n2*d1);obtain⟨z,hz⟩:=gn (d1*d2);rw[hx,hy]at key;rw[hx]at L1;rw[hy]at L2;rw[hz]at hD L3 |-;have HX:=hid hx;have HY:=hid hy;have HZ:=hid hz;clear hx hy hz;unfold b1c at key;have KEY:=hid key;clear key;go_enter Tryz.func75,Tryz.ntmps75;go_wp2_with fail;obtain⟨W,hW⟩:=gn (((w.alloc (.cells #[.bool m1,.slice a1 k1 c1,.slice a2 k2 c2] 81)).alloc (.cells #[.bool m2,.slice a3 k3 c3,.slice a4 k4 c4] 81)).alloc (.cells #[.bool false,.slice none 0 0,.slice none 0 0] 81));rw[hW];have X0:Below w.heap.size w W:=by rw[<- hW];exact ((br0.alloc nr0 _).alloc (by simp) _).alloc (by simp;omega) _
 have Y0:Blk W w.heap.size #[.bool m1,.slice a1 k1 c1,.slice a2 k2 c2] 81:=by rw[<- hW];exact ((Blk.new w _ _).alloc _).alloc _
 have Y1:Blk W (w.heap.size+1) #[.bool m2,.slice a3 k3 c3,.slice a4 k4 c4] 81:=by rw[<- hW];exact (Blk.made (w.alloc _) _ _ (by simp)).alloc _
 have Y2:Blk W (w.heap.size+1+1) #[.bool false,.slice none 0 0,.slice none 0 0] 81:=by rw[<- hW];exact Blk.made ((w.alloc _).alloc _) _ _ (by simp)
 have K:Hid (∀ w',Below W.heap.size W w'->w'.cell? ⟨w.heap.size,0,none⟩=some (.bool m1)/\w'.cell? ⟨w.heap.size,1,none⟩=some (.slice a1 k1 c1)/\w'.cell? ⟨w.heap.size,2,none⟩=some (.slice a2 k2 c2)/\w'.cell? ⟨w.heap.size+1,0,none⟩=some (.bool m2)/\w'.cell? ⟨w.heap.size+1,1,none⟩=some (.slice a3 k3 c3)/\w'.cell? ⟨w.heap.size+1,2,none⟩=some (.slice a4 k4 c4)):=fun w' hb=>⟨(Y0.call hb).cell 0,(Y0.call hb).cell 1,(Y0.call hb).cell 2,(Y1.call hb).cell 0,(Y1.call hb).cell 1,(Y1.call hb).cell 2⟩
 have HY0:=hid Y0;have HY1:=hid Y1;have HY2:=hid Y2;have HX0:=hid X0;obtain⟨i0,i1,i2,i3,i4,i5⟩:=K W br0;clear Y0 Y1 Y2 X0 hW;have XN1:=hid (HN1.out.call HX0.out);have XD1:=hid (HD1.out.call HX0.out);have XN2:=hid (HN2.out.call HX0.out);have XD2:=hid (HD2.out.call HX0.out)
 go_region_held3 (fun w'=>w'.cell? ⟨w.heap.size,0,none⟩=some (.bool m1)/\w'.cell? ⟨w.heap.size,1,none⟩=some (.slice a1 k1 c1)/\w'.cell? ⟨w.heap.size,2,none⟩=some (.slice a2 k2 c2)/\w'.cell? ⟨w.heap.size+1,0,none⟩=some (.bool m2)/\w'.cell? ⟨w.heap.size+1,1,none⟩=some (.slice a3 k3 c3)/\w'.cell? ⟨w.heap.size+1,2,none⟩=some (.slice a4 k4 c4))
  (first
   | exact K.out _ br0.drew
   | exact K.out _ bb2.out
   | exact K.out _ bb1.out)
  (first
   | (go_at_call_of 176 (Value.slice a1 k1 c1);refine (b0m _ _ _ n1 d2 (XN1.out.call (by first | exact bb2.out | exact br0.drew)) (XD2.out.call (by first | exact bb2.out | exact br0.drew)) H1.out H4.out).mono ?_;rintro e w1 ⟨⟨v1,rfl,hv1⟩,hb1⟩;have bb1:=hid (a0a (by first | exact bb2.out | exact br0.drew) hb1))
   | (go_at_call_of 176 (Value.slice a3 k3 c3);refine (b0m _ _ _ n2 d1 (XN2.out.call (by first | exact bb1.out | exact br0.drew)) (XD1.out.call (by first | exact bb1.out | exact br0.drew)) H3.out H2.out).mono ?_;rintro e w2 ⟨⟨v2,rfl,hv2⟩,hb2⟩;have bb2:=hid (a0a (by first | exact bb1.out | exact br0.drew) hb2)))
 have V2:=hid hv2;have V1:=hid (hv1.call hb2);rw[HX.out]at V1;rw[HY.out]at V2;clear hv1 hv2 hb1 hb2 i0 i1 i2 i3 i4 i5;obtain⟨i0,i1,i2,i3,i4,i5⟩:=K.out _ bb2.out;go_wp2_with fail;refine (b0m _ _ _ d1 d2 (XD1.out.call bb2.out) (XD2.out.call bb2.out) H2.out H4.out).mono ?_;rintro e w3 ⟨⟨v3,rfl,hv3⟩,hb3⟩;have bb3:=hid (a0a bb2.out hb3);rw[HZ.out]at hv3;have V3:=hid hv3;have V1':=hid (V1.out.call hb3);have V2':=hid (V2.out.call hb3);clear hv3 hb3 i0 i1 i2 i3 i4 i5 V1 V2;obtain⟨i0,i1,i2,i3,i4,i5⟩:=K.out _ bb3.out;obtain⟨ja1,jc1,rfl,_⟩:=V1'.out.openI;obtain⟨ja2,jc2,rfl,_⟩:=V2'.out.openI;obtain⟨ja3,jc3,rfl,_⟩:=V3.out.openI;obtain⟨jk1,hj1⟩:=gn ((limbs x).length);obtain⟨jk2,hj2⟩:=gn ((limbs y).length);obtain⟨jk3,hj3⟩:=gn ((limbs z).length);rw[hj1]at V1' |-;rw[hj2]at V2' |-;rw[hj3]at V3 |-;clear hj1 hj2 hj3;have K2:Hid (∀ w1 x y z,Below W.heap.size W w1->∀ w',((w1.setCell ⟨w.heap.size+1+1,0,none⟩ x).setCell ⟨w.heap.size+1+1,1,none⟩ y).setCell ⟨w.heap.size+1+1,2,none⟩ z=w'->w'.cell? ⟨w.heap.size,0,none⟩=some (.bool m1)/\w'.cell? ⟨w.heap.size,1,none⟩=some (.slice a1 k1 c1)/\w'.cell? ⟨w.heap.size,2,none⟩=some (.slice a2 k2 c2)/\w'.cell? ⟨w.heap.size+1,0,none⟩=some (.bool m2)/\w'.cell? ⟨w.heap.size+1,1,none⟩=some (.slice a3 k3 c3)/\w'.cell? ⟨w.heap.size+1,2,none⟩=some (.slice a4 k4 c4)):=by
  rintro w1 x y z hb _ rfl;have Z0:=(((HY0.out.call hb).other (a:=⟨w.heap.size+1+1,0,none⟩) (by simp;omega) x).other (a:=⟨w.heap.size+1+1,1,none⟩) (by simp;omega) y).other (a:=⟨w.heap.size+1+1,2,none⟩) (by simp;omega) z;have Z1:=(((HY1.out.call hb).other (a:=⟨w.heap.size+1+1,0,none⟩) (by simp) x).other (a:=⟨w.heap.size+1+1,1,none⟩) (by simp) y).other (a:=⟨w.heap.size+1+1,2,none⟩) (by simp) z;exact⟨Z0.cell 0,Z0.cell 1,Z0.cell 2,Z1.cell 0,Z1.cell 1,Z1.cell 2⟩
 have key:=KEY.out;clear KEY;rcases key with ⟨rfl,rfl,rfl⟩ | ⟨hne,hlt,rfl,rfl⟩ | ⟨hne,hle,rfl,rfl⟩
 focus
  go_wp2_with fail
  go_region_held3 (fun w'=>w'.cell? ⟨w.heap.size,0,none⟩=some (.bool m)/\w'.cell? ⟨w.heap.size,1,none⟩=some (.slice a1 k1 c1)/\w'.cell? ⟨w.heap.size,2,none⟩=some (.slice a2 k2 c2)/\w'.cell? ⟨w.heap.size+1,0,none⟩=some (.bool m)/\w'.cell? ⟨w.heap.size+1,1,none⟩=some (.slice a3 k3 c3)/\w'.cell? ⟨w.heap.size+1,2,none⟩=some (.slice a4 k4 c4))
   (first
    | exact K.out _ (by first | exact bb3.out.drew | exact a0j bb3.out _)
    | exact K2.out _ _ _ _ bb6.out _ rfl
    | exact K.out _ bb6.out
    | exact K.out _ bb5.out)
   (first
    | (go_at_call 150;refine (d0n _ _ _ x y (V1'.out.call (by first | exact br0.drew | exact a0j br0 _ | exact Z3 _ _)) (V2'.out.call (by first | exact br0.drew | exact a0j br0 _ | exact Z3 _ _)) L1.out L2.out).mono ?_;rintro e w5 ⟨⟨v5,rfl,hv5⟩,hb5⟩;have bb5:=hid (a0a (by first | exact bb3.out.drew | exact a0j bb3.out _ | exact bb3.out) hb5);have V5:=hid hv5;have Z5:=hid ((V3.out.call br0.drew).call hb5))
    | (go_at_call 175;refine (d0F _ _ _ _ (x+y) z V5.out Z5.out hD.out LS.out L3.out).mono ?_;rintro e w6 ⟨⟨v6,rfl,hv6⟩,hb6⟩;obtain⟨N6,D6,rfl,hN6,hD6,fN6,fD6⟩:=hv6;have bb6:=hid (a0a bb5.out hb6);obtain⟨a5,c5,rfl,_⟩:=hN6.openI;obtain⟨a6,c6,rfl,_⟩:=hD6.openI;have HN6:=hid hN6;have HD6:=hid hD6;have Z:=hid (HY2.out.call bb6.out);have t0:=Z.out.cell 0;have t1:=Z.out.cell 1;have t2:=Z.out.cell 2;have t3:=Z.out.free 0;have t4:=Z.out.free 1;have t5:=Z.out.free 2;have FN6:=hid (fun g e=>O0 HX0.out.size (O0 bb5.out.size (fN6 g e)));have FD6:=hid (fun g e=>O0 HX0.out.size (O0 bb5.out.size (fD6 g e)));clear hN6 hD6 fN6 fD6))
  go_wp2_with fail;obtain⟨s1,s2⟩:=c0W Z.out (decide ((qmk m (x+y) z).num<0)) a5 a6 (limbs (qmk m (x+y) z).num.natAbs).length c5 (limbs (qmk m (x+y) z).den).length c6;have f0:=s2.cell 0;have f1:=s2.cell 1;have f2:=s2.cell 2;simp at f0 f1 f2;refine Z6 (v:=.agg #[.bool (decide ((qmk m (x+y) z).num<0)),.slice a5 (limbs (qmk m (x+y) z).num.natAbs).length c5,.slice a6 (limbs (qmk m (x+y) z).den).length c6]) (by simp[results,Tryz.results75,go_sem,f0,f1,f2]) rfl ⟨⟨_,rfl,⟨_,_,rfl,s1 _ _ _ HN6.out,s1 _ _ _ HD6.out,FN6.out,FD6.out⟩⟩,?_⟩
 rotate_left
 focus
  have HLT:=hid hlt;have HLE:=hid (Di hlt);clear hlt;go_wp2_with fail;refine (b0k _ _ _ x y V1'.out V2'.out).mono ?_;rintro e w4 ⟨rfl,hb4⟩;have bb4:=hid (a0a bb3.out hb4);have W1:=hid (V1'.out.call hb4);have W2:=hid (V2'.out.call hb4);have W3:=hid (V3.out.call hb4);clear hb4 i0 i1 i2 i3 i4 i5;obtain⟨i0,i1,i2,i3,i4,i5⟩:=K.out _ bb4.out;rw[b0H HLT.out];go_wp2_with fail
  go_region_held3 (fun w'=>w'.cell? ⟨w.heap.size,0,none⟩=some (.bool m1)/\w'.cell? ⟨w.heap.size,1,none⟩=some (.slice a1 k1 c1)/\w'.cell? ⟨w.heap.size,2,none⟩=some (.slice a2 k2 c2)/\w'.cell? ⟨w.heap.size+1,0,none⟩=some (.bool m)/\w'.cell? ⟨w.heap.size+1,1,none⟩=some (.slice a3 k3 c3)/\w'.cell? ⟨w.heap.size+1,2,none⟩=some (.slice a4 k4 c4))
   (first
    | exact K.out _ (by first | exact bb4.out.drew | exact a0j bb4.out _)
    | exact K2.out _ _ _ _ bb6.out _ rfl
    | exact K.out _ bb6.out
    | exact K.out _ bb5.out)
   (first
    | (go_at_call 177;refine (e0E _ _ _ y x (W2.out.call (by first | exact br0.drew | exact a0j br0 _ | exact Z3 _ _)) (W1.out.call (by first | exact br0.drew | exact a0j br0 _ | exact Z3 _ _)) HLE.out L2.out).mono ?_;rintro e w5 ⟨⟨v5,rfl,hv5⟩,hb5⟩;have bb5:=hid (a0a (by first | exact bb4.out.drew | exact a0j bb4.out _ | exact bb4.out) hb5);have V5:=hid hv5;have Z5:=hid ((W3.out.call br0.drew).call hb5))
    | (go_at_call 175;refine (d0F _ _ _ _ (y-x) z V5.out Z5.out hD.out LS.out L3.out).mono ?_;rintro e w6 ⟨⟨v6,rfl,hv6⟩,hb6⟩;obtain⟨N6,D6,rfl,hN6,hD6,fN6,fD6⟩:=hv6;have bb6:=hid (a0a bb5.out hb6);obtain⟨a5,c5,rfl,_⟩:=hN6.openI;obtain⟨a6,c6,rfl,_⟩:=hD6.openI;have HN6:=hid hN6;have HD6:=hid hD6;have Z:=hid (HY2.out.call bb6.out);have t0:=Z.out.cell 0;have t1:=Z.out.cell 1;have t2:=Z.out.cell 2;have t3:=Z.out.free 0;have t4:=Z.out.free 1;have t5:=Z.out.free 2;have FN6:=hid (fun g e=>O0 HX0.out.size (O0 bb5.out.size (fN6 g e)));have FD6:=hid (fun g e=>O0 HX0.out.size (O0 bb5.out.size (fD6 g e)));clear hN6 hD6 fN6 fD6))
  go_wp2_with fail;obtain⟨s1,s2⟩:=c0W Z.out (decide ((qmk m (y-x) z).num<0)) a5 a6 (limbs (qmk m (y-x) z).num.natAbs).length c5 (limbs (qmk m (y-x) z).den).length c6;have f0:=s2.cell 0;have f1:=s2.cell 1;have f2:=s2.cell 2;simp at f0 f1 f2;refine Z6 (v:=.agg #[.bool (decide ((qmk m (y-x) z).num<0)),.slice a5 (limbs (qmk m (y-x) z).num.natAbs).length c5,.slice a6 (limbs (qmk m (y-x) z).den).length c6]) (by simp[results,Tryz.results75,go_sem,f0,f1,f2]) rfl ⟨⟨_,rfl,⟨_,_,rfl,s1 _ _ _ HN6.out,s1 _ _ _ HD6.out,FN6.out,FD6.out⟩⟩,?_⟩
 rotate_left
 focus
  have HLE:=hid hle;clear hle;go_wp2_with fail;refine (b0k _ _ _ x y V1'.out V2'.out).mono ?_;rintro e w4 ⟨rfl,hb4⟩;have bb4:=hid (a0a bb3.out hb4);have W1:=hid (V1'.out.call hb4);have W2:=hid (V2'.out.call hb4);have W3:=hid (V3.out.call hb4);clear hb4 i0 i1 i2 i3 i4 i5;obtain⟨i0,i1,i2,i3,i4,i5⟩:=K.out _ bb4.out;obtain⟨t,ht⟩:=gn (b0d x y);have q7:decide (t<0)=false:=by rw[<- ht];exact z0x HLE.out
  rw[ht];clear ht;go_wp2_with fail
  go_region_held3 (fun w'=>w'.cell? ⟨w.heap.size,0,none⟩=some (.bool m)/\w'.cell? ⟨w.heap.size,1,none⟩=some (.slice a1 k1 c1)/\w'.cell? ⟨w.heap.size,2,none⟩=some (.slice a2 k2 c2)/\w'.cell? ⟨w.heap.size+1,0,none⟩=some (.bool m2)/\w'.cell? ⟨w.heap.size+1,1,none⟩=some (.slice a3 k3 c3)/\w'.cell? ⟨w.heap.size+1,2,none⟩=some (.slice a4 k4 c4))
   (first
    | exact K.out _ (by first | exact bb4.out.drew | exact a0j bb4.out _)
    | exact K2.out _ _ _ _ bb6.out _ rfl
    | exact K.out _ bb6.out
    | exact K.out _ bb5.out)
   (first
    | (go_at_call 177;refine (e0E _ _ _ x y (W1.out.call (by first | exact br0.drew | exact a0j br0 _ | exact Z3 _ _)) (W2.out.call (by first | exact br0.drew | exact a0j br0 _ | exact Z3 _ _)) HLE.out L1.out).mono ?_;rintro e w5 ⟨⟨v5,rfl,hv5⟩,hb5⟩;have bb5:=hid (a0a (by first | exact bb4.out.drew | exact a0j bb4.out _ | exact bb4.out) hb5);have V5:=hid hv5;have Z5:=hid ((W3.out.call br0.drew).call hb5))
    | (go_at_call 175;refine (d0F _ _ _ _ (x-y) z V5.out Z5.out hD.out LS.out L3.out).mono ?_;rintro e w6 ⟨⟨v6,rfl,hv6⟩,hb6⟩;obtain⟨N6,D6,rfl,hN6,hD6,fN6,fD6⟩:=hv6;have bb6:=hid (a0a bb5.out hb6);obtain⟨a5,c5,rfl,_⟩:=hN6.openI;obtain⟨a6,c6,rfl,_⟩:=hD6.openI;have HN6:=hid hN6;have HD6:=hid hD6;have Z:=hid (HY2.out.call bb6.out);have t0:=Z.out.cell 0;have t1:=Z.out.cell 1;have t2:=Z.out.cell 2;have t3:=Z.out.free 0;have t4:=Z.out.free 1;have t5:=Z.out.free 2;have FN6:=hid (fun g e=>O0 HX0.out.size (O0 bb5.out.size (fN6 g e)));have FD6:=hid (fun g e=>O0 HX0.out.size (O0 bb5.out.size (fD6 g e)));clear hN6 hD6 fN6 fD6))
  go_wp2_with fail;obtain⟨s1,s2⟩:=c0W Z.out (decide ((qmk m (x-y) z).num<0)) a5 a6 (limbs (qmk m (x-y) z).num.natAbs).length c5 (limbs (qmk m (x-y) z).den).length c6;have f0:=s2.cell 0;have f1:=s2.cell 1;have f2:=s2.cell 2;simp at f0 f1 f2;refine Z6 (v:=.agg #[.bool (decide ((qmk m (x-y) z).num<0)),.slice a5 (limbs (qmk m (x-y) z).num.natAbs).length c5,.slice a6 (limbs (qmk m (x-y) z).den).length c6]) (by simp[results,Tryz.results75,go_sem,f0,f1,f2]) rfl ⟨⟨_,rfl,⟨_,_,rfl,s1 _ _ _ HN6.out,s1 _ _ _ HD6.out,FN6.out,FD6.out⟩⟩,?_⟩
 all_goals
  exact (((HX0.out.trans (bb6.out.mono (O0 nr0 HX0.out.size))).setCell (by simp;omega) _).setCell (by simp;omega) _).setCell (by simp;omega) _
def t0r (w:World)(v u:Value)(p q:Rat)(hp:IsQ .i64 w v p)(hq:IsQ .i64 w u q)
 (h1:(limbs p.num.natAbs).length<=100000) (h2:(limbs p.den).length<=100000) (h3:(limbs q.num.natAbs).length<=100000) (h4:(limbs q.den).length<=100000):
 Calls Tryz.prog 75 #[v,u] w fun e w'=>RetQF w.heap.size (p+q) e w'/\Below w.heap.size w w':=by
 obtain⟨N1,D1,rfl,hn1,hd1⟩:=hp.ex;obtain⟨N2,D2,rfl,hn2,hd2⟩:=hq.ex;have he:=q0m p q;have hw:=fun m s key=>j0Y w (decide (p.num<0)) (decide (q.num<0)) m N1 D1 N2 D2 _ _ _ _ s hn1 hd1 hn2 hd2 h1 h2 h3 h4 p.den_pos q.den_pos key
 rw[he];generalize decide (p.num<0)=m1 at *
 generalize decide (q.num<0)=m2 at *
 by_cases hm:m1=m2
 .subst hm;rw[m0A];exact hw m1 _ (.inl ⟨rfl,rfl,rfl⟩)
 .have hm':(m1==m2)=false:=by simpa using hm
  rcases Cc (p.num.natAbs*q.den) (q.num.natAbs*p.den) with hl | hl
  .rw[m0D hm hl];exact hw m2 _ (.inr (.inl ⟨hm',hl,rfl,rfl⟩))
  .rw[m0C hm hl];exact hw m1 _ (.inr (.inr ⟨hm',hl,rfl,rfl⟩))
def i0t (w:World)(v u:Value)(p q:Rat)(hp:IsQ .i64 w v p)(hq:IsQ .i64 w u q)
 (h1:(limbs p.num.natAbs).length<=100000) (h2:(limbs p.den).length<=100000) (h3:(limbs q.num.natAbs).length<=100000) (h4:(limbs q.den).length<=100000):
 Calls Tryz.prog 75 #[v,u] w fun e w'=>k0T .i64 (p+q) e w'/\Below w.heap.size w w':=
 (t0r w v u p q hp hq h1 h2 h3 h4).mono fun _ _ h=>⟨h.1.ret,h.2⟩
end
end Go.Proofs.YtfkpfpobmobnbaaGreatDoor
