import Derived.Test.YtfkpfpobmobnbaaGreatDoorPb3
import Derived.WalkSmall
import Derived.Maps.Own
import Derived.Maps.OwnIn
import Derived.Sort.CutIn
set_option linter.all false
set_option maxRecDepth 100000
set_option maxHeartbeats 8000000
namespace Go.Proofs.YtfkpfpobmobnbaaGreatDoor
open Go.Proofs.Tryz Go.RowKit
open Go.Lib (decDigits nDigits)
section
def r0C {q:Rat}(h:ovQ q):c0b q=⟨#[]⟩:=J3 h
def y0h {q:Rat}(h:¬ ovQ q):c0b q=txQ q:=J2 h
def r0z {q:Rat}(h:ovQ q):c0p q=5:=J3 h
def r0A {q:Rat}(h:¬ ovQ q):c0p q=0:=J2 h
def d0f (a b:ByteArray):(a++b).data.toList=a.data.toList++b.data.toList:=by simp
def a1f (n:Nat):txB false n 1=a0f n:=by apply b0f;simp[txB,a0f]
def a1d (n:Nat):txB true n 1=⟨#[45]⟩++a0f n:=by apply b0f;rw[d0f,b0U,a0t];simp
def a1e (n d:Nat)(h:d≠1):txB false n d=a0f n++(⟨#[47]⟩++a0f d):=by apply b0f;rw[d0f,d0f,b0U,a0t,a0t,J2 h];simp
def a1c (n d:Nat)(h:d≠1):txB true n d=⟨#[45]⟩++a0f n++(⟨#[47]⟩++a0f d):=by apply b0f;rw[d0f,d0f,d0f,b0U,a0t,a0t,J2 h];simp
def Fz:=@of_decide_eq_false
def s0F (w:World)(v:Value)(q:Rat)(h:IsQ .u64 w v q)(h1:(limbs q.num.natAbs).length<=1000000)(h2:(limbs q.den).length<=1000000)(hL:Lay w):
 qb 117 #[v] w (.tuple #[.string (c0b q),.int .i64 (c0p q)]):=by
 obtain⟨N,D,rfl,hn,hd⟩:=h.ex;obtain⟨m,hm⟩:=gn (decide (q.num<0));obtain⟨HN,HD,HM,HL,L1,L2⟩:=zf hn hd hm hL h1 h2;rw[hm];obtain⟨a1,c1,rfl,_⟩:=hn.openI;obtain⟨a2,c2,rfl,_⟩:=hd.openI;obtain⟨k1,hk1⟩:=gn ((limbs q.num.natAbs).length);obtain⟨k2,hk2⟩:=gn ((limbs q.den).length);rw[hk1]at HN |-;rw[hk2]at HD |-;obtain⟨b0,x0⟩:=zu ((J4 w.heap.size w).alloc nr (.cells #[.bool m,.slice a1 k1 c1,.slice a2 k2 c2] 126)) (Blk.new w #[.bool m,.slice a1 k1 c1,.slice a2 k2 c2] 126);obtain⟨N0,D0⟩:=zu (HN.out.call b0.out) (HD.out.call b0.out);clear hn hd hm h hk1 hk2 hL h1 h2;by_cases o1:4000<nDigits q.num.natAbs
 .have ho:ovQ q:=.inl o1;rw[r0C ho,r0z ho];have q0:decide ((4000:Int)<(nDigits q.num.natAbs:Nat))=true:=by simp;omega
  clear o1 ho;go_enter func117,ntmps117;go_wp2_with fail;refine nk (c0r _ _ _ N0.out (HL.out.call b0.out) L1.out) b0 fun w1 b1=>?_;go_wp2_with fail;go_ret2
  exact⟨rfl,b1.out⟩
 .have q0:decide ((4000:Int)<(nDigits q.num.natAbs:Nat))=false:=by simp;omega
  by_cases o2:4000<nDigits q.den
  .have ho:ovQ q:=.inr o2;rw[r0C ho,r0z ho];have q1:decide ((4000:Int)<(nDigits q.den:Nat))=true:=by simp;omega
   clear o1 ho o2;go_enter func117,ntmps117;go_wp2_with fail;refine nj (c0r _ _ _ N0.out (HL.out.call b0.out) L1.out) fun w1 hb1=>?_;have b1:=qx b0 hb1;have D1:=hid (D0.out.call hb1);have x1:=x0.out.call hb1;have r2:=x1.cell 2;simp at r2;clear hb1 x1;go_wp2_with fail;refine nk (c0r _ _ _ D1.out (HL.out.call b1.out) L2.out) b1 fun w2 b2=>?_;clear r2;go_wp2_with fail;go_ret2
   exact⟨rfl,b2.out⟩
  .have ho:¬ ovQ q:=fun h=>h.elim o1 o2
   rw[y0h ho,r0A ho];have q1:decide ((4000:Int)<(nDigits q.den:Nat))=false:=by simp;omega
   obtain⟨z,hz⟩:=gn (isO q.den);have HO:=fun W h=>hid (m0z W (.slice a2 k2 c2) q.den h)
   rw[hz]at HO;have HT:Hid (txQ q=txB m q.num.natAbs q.den):=by rw[<- HM.out];rfl
   have HZ:=hid hz;rw[HT.out];obtain⟨T,hT⟩:=gn (txB m q.num.natAbs q.den);have HTT:=hid hT;rw[hT];have HS1:=fun W hv hL=>hid (j0E W (.slice a1 k1 c1) q.num.natAbs hv hL L1.out)
   have HS2:=fun W hv hL=>hid (j0E W (.slice a2 k2 c2) q.den hv hL L2.out)
   have en:(⟨(Lib.decDigits q.num.natAbs).toArray⟩:ByteArray)=a0f q.num.natAbs:=rfl;have ed:(⟨(Lib.decDigits q.den).toArray⟩:ByteArray)=a0f q.den:=rfl;rw[en]at HS1;rw[ed]at HS2;obtain⟨sn,hsn⟩:=gn (a0f q.num.natAbs);obtain⟨sd,hsd⟩:=gn (a0f q.den);rw[hsn]at HS1;rw[hsd]at HS2;obtain⟨HSN,HSD⟩:=zu hsn hsd;have hs1:sn.size<=4000:=by rw[<- hsn,a0y];omega
   have hs2:sd.size<=4000:=by rw[<- hsd,a0y];omega
   clear o1 ho o2 hT hz en ed hsn hsd;go_enter func117,ntmps117;go_wp2_with fail;refine nj (c0r _ _ _ N0.out (HL.out.call b0.out) L1.out) fun w1 hb1=>?_;have b1:=qx b0 hb1;obtain⟨D1,x1,N1⟩:=zg (D0.out.call hb1) (x0.out.call hb1) (N0.out.call hb1);have r2:=x1.out.cell 2;simp at r2;clear hb1;go_wp2_with fail;refine nj (c0r _ _ _ D1.out (HL.out.call b1.out) L2.out) fun w2 hb2=>?_;have b2:=qx b1 hb2;obtain⟨D2,x2,N2⟩:=zg (D1.out.call hb2) (x1.out.call hb2) (N1.out.call hb2);have r1:=x2.out.cell 1;simp at r1;clear hb2 r2;go_wp2_with fail;refine ny (HS1 _ N2.out (HL.out.call b2.out)) fun w3 hb3=>?_;have b3:=qx b2 hb3;obtain⟨D3,x3⟩:=zu (D2.out.call hb3) (x2.out.call hb3);have r0:=x3.out.cell 0;have r2:=x3.out.cell 2;simp at r0 r2;clear hb3 r1 HS1;cases m
   .go_wp2_with fail;refine (HO _ D3.out).out.mono ?_;rintro e w4 ⟨rfl,rfl⟩;cases z
    .go_wp2_with fail;refine nw (HS2 _ D3.out (HL.out.call b3.out)) b3 fun w5 b5=>?_;clear r0 r2;go_wp2_with fail;go_ret2
     have hTe:T=sn++(⟨#[47]⟩++sd):=by rw[<- HTT.out,a1e _ _ (Fz HZ.out),HSN.out,HSD.out]
     exact⟨by rw[hTe];rfl,b5.out⟩
    .go_wp2_with fail;go_ret2
     have hTe:T=sn:=by rw[<- HTT.out,e0C.1 HZ.out,a1f,HSN.out]
     exact⟨by rw[hTe];rfl,b3.out⟩
   .go_wp2_with fail;refine zx (HO _ D3.out) ?_;cases z
    .go_wp2_with fail;refine nw (HS2 _ D3.out (HL.out.call b3.out)) b3 fun w5 b5=>?_;clear r0 r2;go_wp2_with fail;go_ret2
     have hTe:T=⟨#[45]⟩++sn++(⟨#[47]⟩++sd):=by rw[<- HTT.out,a1c _ _ (Fz HZ.out),HSN.out,HSD.out]
     exact⟨by rw[hTe];rfl,b5.out⟩
    .go_wp2_with fail;go_ret2
     have hTe:T=⟨#[45]⟩++sn:=by rw[<- HTT.out,e0C.1 HZ.out,a1d,HSN.out]
     exact⟨by rw[hTe];rfl,b3.out⟩
def mkE (n d:ByteArray):Int:=if iB n=false then 3 else if 4000<(iD n).size then 5 else if c0i d.data.toList≠0 then c0i d.data.toList else if d=⟨#[48]⟩ then 6 else c0p (qmk (iM n) (bN (iD n)) (bN d))
def mkB (n d:ByteArray):ByteArray:=if iB n=false then ⟨#[]⟩ else if 4000<(iD n).size then ⟨#[]⟩ else if c0i d.data.toList≠0 then ⟨#[]⟩ else if d=⟨#[48]⟩ then ⟨#[]⟩ else c0b (qmk (iM n) (bN (iD n)) (bN d))
def Ef:=@Nat.div_le_self
def x0X {m:Bool}{n d L:Nat}(hd:0<d)(h1:(limbs n).length<=L)(h2:(limbs d).length<=L):(limbs (qmk m n d).num.natAbs).length<=L/\(limbs (qmk m n d).den).length<=L:=by
 rw[h0t hd,j0r hd,b0r];exact⟨J0 (a0h (Ef _ _)) h1,J0 (a0h (Ef _ _)) h2⟩
def w0y (w:World)(n d:ByteArray)(hn:n.size<=1000000)(hd:d.size<=1000000)(hL:Lay w):
 qb 215 #[.string n,.string d] w (.tuple #[.string (mkB n d),.int .i64 (mkE n d)]):=by
 have HL:=hid hL;have hz:=s0q n;have HI:=fun V=>hid (l0p V n (by omega))
 have HC:=fun V=>hid (f0Q V d (by omega))
 have HP1:=fun V h=>hid (c0y V (iD n) h (by omega))
 have HP2:=fun V h=>hid (c0y V d h hd)
 cases hb:iB n
 focus
  have e1:mkB n d=⟨#[]⟩:=J3 hb;have e2:mkE n d=3:=J3 hb;rw[e1,e2];rw[hb]at HI;clear e1 e2 hb hz HP1 HP2 hn hd hL
 rotate_left
 focus
  have nb:¬ iB n=false:=by simp[hb]
  by_cases h1:4000<(iD n).size
  focus
   have e1:mkB n d=⟨#[]⟩:=by rw[mkB,J2 nb,J3 h1]
   have e2:mkE n d=5:=by rw[mkE,J2 nb,J3 h1]
   have q0:decide ((4000:Int)<((iD n).size:Nat))=true:=by simp;omega
   rw[e1,e2];rw[hb]at HI;clear e1 e2 hb hz HP1 HP2 hn hd hL h1 nb
  rotate_left
  .have q0:decide ((4000:Int)<((iD n).size:Nat))=false:=by simp;omega
   by_cases h2:c0i d.data.toList=0
   focus
    have nc:¬ c0i d.data.toList≠0:=fun h=>h h2
    by_cases h3:d=⟨#[48]⟩
    focus
     have e1:mkB n d=⟨#[]⟩:=by rw[mkB,J2 nb,J2 h1,J2 nc,J3 h3]
     have e2:mkE n d=6:=by rw[mkE,J2 nb,J2 h1,J2 nc,J3 h3]
     rw[e1,e2];rw[hb]at HI;rw[h2]at HC;clear e1 e2 hb hz HP1 HP2 hn hd hL h1 nb nc h2;subst h3
    rotate_left
    .have e1:mkB n d=c0b (qmk (iM n) (bN (iD n)) (bN d)):=by rw[mkB,J2 nb,J2 h1,J2 nc,J2 h3]
     have e2:mkE n d=c0p (qmk (iM n) (bN (iD n)) (bN d)):=by rw[mkE,J2 nb,J2 h1,J2 nc,J2 h3]
     rw[e1,e2];have d1:=f0u (d0q hb);obtain⟨d2,d3,d4⟩:=b0L h2;have hdp:0<bN d:=b1K (a0W.2 (by obtain⟨x,hx,_⟩:=h0P.1 h2;exact i0C.2 ⟨x,hx⟩)) h3;have l1:(limbs (bN (iD n))).length<=1000:=j0W d1 (by rw[a0A];omega);have l2:(limbs (bN d)).length<=1000:=d4;have HP1:=fun V=>HP1 V d1
     have HP2:=fun V=>HP2 V d2
     have HQ:=x0X (m:=iM n) hdp l1 l2;have HM:=fun V v u hv hu=>hid (s0G V (iM n) v u (bN (iD n)) (bN d) hv hu hdp (by omega) (by omega))
     obtain⟨Q,hQ⟩:=gn (qmk (iM n) (bN (iD n)) (bN d));rw[hQ]at HQ HM |-;have HN:=fun V v hv hL=>hid (s0F V v Q hv (by omega) (by omega) hL)
     rw[hb]at HI;rw[h2]at HC;have i1:=a0O (l:=[48]) h3;clear e1 e2 hb hz hn hd hL h1 nb nc h2 h3 d1 d2 d3 d4 hdp l1 l2 HQ hQ;go_enter func215,ntmps215;go_wp2_with fail;refine nz (HI _) fun w1 b1=>?_;go_wp2_with fail;refine nw (HC _) b1 fun w2 b2=>?_;go_wp2_with fail;refine nu (HP1 _) fun v3 w3 hv3 hb3=>?_;have b3:=qx b2 hb3;have V3:=hid hv3;clear hb3 hv3;go_wp2_with fail;refine nu (HP2 _) fun v4 w4 hv4 hb4=>?_;have b4:=qx b3 hb4;obtain⟨V4,W3⟩:=zu hv4 (V3.out.call hb4);clear hb4 hv4;go_wp2_with fail;refine nu (HM _ _ _ W3.out V4.out) fun v5 w5 hv5 hb5=>?_;have b5:=qx b4 hb5;have V5:=hid hv5;clear hb5 hv5;go_wp2_with fail;refine nw (HN _ _ V5.out (HL.out.call b5.out)) b5 fun w6 b6=>?_;go_wp2_with fail;go_ret2
     exact⟨rfl,b6.out⟩
   rotate_left
   focus
    have e1:mkB n d=⟨#[]⟩:=by rw[mkB,J2 nb,J2 h1,J3 h2]
    have e2:mkE n d=c0i d.data.toList:=by rw[mkE,J2 nb,J2 h1,J3 h2]
    rw[e1,e2];rw[hb]at HI;obtain⟨x,hx⟩:=gn (c0i d.data.toList);rw[hx]at HC h2 |-;have q2:(x != 0)=true:=by simpa using h2
    clear e1 e2 hb hz HP1 HP2 hn hd hL h1 nb h2 hx
   all_goals
    go_enter func215,ntmps215;go_wp2_with fail;refine nz (HI _) fun w1 b1=>?_;go_wp2_with fail;refine nw (HC _) b1 fun w2 b2=>?_;go_wp2_with fail;go_ret2
    exact⟨rfl,b2.out⟩
 all_goals
  go_enter func215,ntmps215;go_wp2_with fail;refine nz (HI _) fun w1 b1=>?_;go_wp2_with fail;go_ret2
  exact⟨rfl,b1.out⟩
def w0E {a b:Nat}(ha:nDigits a<=4000)(hb:nDigits b<=4000)(h0:b≠0):mkB (a0f a) (a0f b)=c0b (qmk false a b)/\mkE (a0f a) (a0f b)=c0p (qmk false a b):=by
 have e1:iM (a0f a)=false:=by
  unfold iM Lib.hasPrefix;rw[a0t];exact f0n a
 have e2:iD (a0f a)=a0f a:=b0Z e1;have e3:iB (a0f a)=true:=by
  unfold iB;rw[e1,e2,o0i];rfl
 have e4:c0i (a0f b).data.toList=0:=b0I hb;have e5:¬ (a0f b=⟨#[48]⟩):=by rw[<- a0q];exact b0W h0
 have e6:¬ 4000<(iD (a0f a)).size:=by rw[e2,a0y];omega
 constructor
 .rw[mkB,J2 (by simp[e3]),J2 e6,J2 (fun h=>h e4),J2 e5,e1,e2,b0A,b0A]
 .rw[mkE,J2 (by simp[e3]),J2 e6,J2 (fun h=>h e4),J2 e5,e1,e2,b0A,b0A]
theorem NoInt.slice (a:Option Addr)(n c:Nat):NoInt #[.slice a n c]:=by
 intro i k x h;rcases i with _ | i<;>simp at h
theorem NoInt.bool (m:Bool):NoInt #[.bool m]:=by
 intro i k x h;rcases i with _ | i<;>simp at h
structure PowS (w:World)(bs bf bl:Nat)(sq:Nat)(fits:Bool):Prop where
 sq:∃ a n c,Blk w bs #[.slice a n c] 124/\IsN .u64 w (.slice a n c) sq
 fits:Blk w bf #[.bool fits] 4
 lim:Blk w bl #[.int .i64 4000] 3
 n1:bs≠bf
 n2:bs≠bl
 n3:bf≠bl
def Gc:=@decide_eq_decide
def w0I (w:World)(bs bf bl sq B:Nat)(f:Bool)(h:PowS w bs bf bl sq f)(hs:B<=bs)(hf:B<=bf)(hB:B<=w.heap.size)(hlen:(limbs sq).length<=100000)(hL:Lay w)(hLB:t0H B):
 Calls prog 224 #[.pointer (some ⟨bs,0,none⟩),.pointer (some ⟨bl,0,none⟩),.pointer (some ⟨bf,0,none⟩)] w fun e w'=>
  (∃ v,e=.returned v)/\PowS w' bs bf bl (sq*sq) (decide (nDigits (sq*sq)<=4000))/\(∀ k v x,IsN k w v x->IsN k w' v x)/\Below B w w':=by
 obtain⟨⟨a,n,c,hbs,hv⟩,hbf,hbl,n1,n2,n3⟩:=h;have c0:w.cell? ⟨bs,0,none⟩=some (.slice a n c):=hbs.cell 0;obtain⟨HBS,HBF,HBL,HV,N1,N2,N3,HS,HF,HB,HL,HLB⟩:=ku hbs hbf hbl hv n1 n2 n3 hs hf hB hL hLB;have l2:=d0H hlen hlen;have HLM:=hid (show (limbs (sq*sq)).length<=1000000 by omega);obtain⟨S,hS⟩:=gn (sq*sq);have HM:=fun V h=>hid (i0b V (.slice a n c) (.slice a n c) sq sq h h (by omega) (by omega))
 rw[hS]at HM HLM |-;clear hbs hv hbf hbl n1 n2 n3 hs hf hB hlen hL l2 hS hLB;go_enter func224,ntmps224;go_wp2_with fail;refine nu (HM _ HV.out) fun v1 w1 hv1 hb1=>?_;obtain⟨a1,k1,d1,rfl⟩:∃ a k d,v1=.slice a k d:=by
  obtain⟨a,c,e,_⟩:=hv1.openI;exact⟨_,_,_,e⟩
 obtain⟨S1,F1,T1,B1,V1⟩:=zd (HBS.out.call hb1) (HBF.out.call hb1) (HBL.out.call hb1) hb1 hv1;have e0:=S1.out.free 0;have e1:=S1.out.cell 0;simp at e1;clear hb1 hv1 HM c0;go_wp2_with fail;obtain⟨w2,hw2⟩:=gn (w1.setCell ⟨bs,0,none⟩ (.slice a1 k1 d1));have s2:Blk w2 bs #[.slice a1 k1 d1] 124:=by rw[<- hw2];exact S1.out.set 0 _
 have f2:Blk w2 bf #[.bool f] 4:=by rw[<- hw2];exact F1.out.other (fun e=>N1.out e) _
 have t2:Blk w2 bl #[.int .i64 4000] 3:=by rw[<- hw2];exact T1.out.other (fun e=>N2.out e) _
 have v2:IsN .u64 w2 (.slice a1 k1 d1) S:=by rw[<- hw2];exact V1.out.setQ S1.out (NoInt.slice _ _ _) 0 _
 have k2:∀ k v x,IsN k w v x->IsN k w2 v x:=fun k v x h=>by rw[<- hw2];exact (h.call B1.out).setQ S1.out (NoInt.slice _ _ _) 0 _
 have b2:Below B w w2:=by rw[<- hw2];exact (B1.out.mono HB.out).setCell HS.out _
 have hsz:w.heap.size<=w2.heap.size:=by rw[<- hw2];simpa[World.setCell]using B1.out.size
 rw[hw2];obtain⟨S2,F2,T2,V2,K2,B2,SZ⟩:=kx s2 f2 t2 v2 k2 b2 hsz;have L2:Hid (Lay w2):=HL.out.below b2 HLB.out;clear s2 f2 t2 v2 k2 b2 hw2 e0 e1 hsz;have hS:w2.drew.cell? ⟨bs,0,none⟩=some (.slice a1 k1 d1)/\w2.drew.cell? ⟨bl,0,none⟩=some (.int .i64 4000):=⟨S2.out.cell 0,T2.out.cell 0⟩;refine a0j [0,2] 3 (fun W'=>W'.cell? ⟨bs,0,none⟩=some (.slice a1 k1 d1)/\W'.cell? ⟨bl,0,none⟩=some (.int .i64 4000)) (by kernel_rfl) (by kernel_rfl) (by kernel_rfl) (by kernel_rfl) hS ?_
 iterate 2
  refine⟨_,rfl,?_⟩;apply Exists.intro
  refine⟨.inl ⟨by rfl,?_⟩,?_⟩
  .rintro W' ⟨q1,q2⟩;go_simp;try with_reducible rfl
  go_frame
 clear hS;refine a0c (i:=1) (by kernel_rfl) rfl rfl ?_;go_wp2_with fail;refine nj (c0r _ _ S (V2.out.call br0.drew) (L2.out.call br0.drew) HLM.out) fun w3 hb3=>?_;have B3:=hid (show Below w2.heap.size w2 w3 from br0.drew.trans hb3);obtain⟨S3,F3,T3,V3⟩:=zc (S2.out.call B3.out) (F2.out.call B3.out) (T2.out.call B3.out) (V2.out.call B3.out);have hS:w3.cell? ⟨bs,0,none⟩=some (.slice a1 k1 d1)/\w3.cell? ⟨bl,0,none⟩=some (.int .i64 4000):=⟨S3.out.cell 0,T3.out.cell 0⟩;clear hb3;go_wp2_with fail;refine⟨hS,?_⟩;refine a0V (is:=[3]) (g:=1) (by kernel_rfl) rfl hS (by kernel_rfl) ?_
 iterate 1
  refine⟨_,rfl,?_⟩;apply Exists.intro
  refine⟨.inl ⟨by rfl,?_⟩,?_⟩
  ·(intro W' hW';clear hW';go_simp;try (with_reducible rfl))
  go_frame
 refine a0c (i:=4) (by kernel_rfl) rfl rfl ?_;have g0:=F3.out.free 0;have g1:=F3.out.cell 0;simp at g1;clear hS;go_wp2_with fail;have s4:=S3.out.other (a:=⟨bf,0,none⟩) (fun e=>N1.out e.symm) (.bool (decide ((nDigits S:Int)<=4000)));have f4:=F3.out.set 0 (.bool (decide ((nDigits S:Int)<=4000)));have t4:=T3.out.other (a:=⟨bf,0,none⟩) (fun e=>N3.out e) (.bool (decide ((nDigits S:Int)<=4000)));refine⟨⟨s4.cell 0,t4.cell 0⟩,?_⟩;refine J8 (by kernel_rfl) ?_ _;simp only[b0b];go_wp2_with fail
 go_end0
 refine⟨⟨_,rfl⟩,⟨⟨a1,k1,d1,s4,V3.out.setQ F3.out (NoInt.bool _) 0 _⟩,?_,t4,N1.out,N2.out,N3.out⟩,?_,?_⟩
 .have e:decide ((nDigits S:Int)<=4000)=decide (nDigits S<=4000):=Gc.2 (by omega);rw[<- e];exact f4
 .intro k v x h;exact ((K2.out k v x h).call B3.out).setQ F3.out (NoInt.bool _) 0 _
 .exact (B2.out.trans (B3.out.mono (J0 HB.out SZ.out))).setCell HF.out _
structure PowI (A sq out n:Nat)(fits:Bool):Prop where
 eq:out*sq ^ n=A
 two:2<=sq
 n1:1<=n
 small:nDigits out<=4000
 fit:fits=false->4000<nDigits sq
 len:fits=true->(limbs sq).length<=100000
 lim:(limbs sq).length<=200000
 pos:1<=out
theorem PowI.start {a n:Nat}(ha:2<=a)(hn:1<=n)(hl:(limbs a).length<=100000):PowI (a ^ n) a 1 n true:=
 ⟨Hn _,ha,hn,by rw[b0o];omega,fun h=>by (cases h),fun _=>hl,by omega,O4 _⟩
theorem PowI.sq_le {A sq out n:Nat}{fits:Bool}(h:PowI A sq out n fits):out*sq<=A:=by
 rw[<- h.eq];refine Ad _ ?_;have:=J6 (n:=sq) (by have:=h.two;omega) h.n1;rwa[Nat.pow_one]at this
theorem PowI.big {A sq out n:Nat}{fits:Bool}(h:PowI A sq out n fits)(hf:fits=false):4000<nDigits A:=by
 refine J7 (h.fit hf) (a0r ?_);exact J0 (Kt _ h.pos) h.sq_le
theorem PowI.bigO {A sq out n:Nat}{fits:Bool}(h:PowI A sq out n fits)(hb:4000<nDigits (out*sq)):4000<nDigits A:=
 J7 hb (a0r h.sq_le)
theorem PowI.done {A sq out n:Nat}{fits:Bool}(h:PowI A sq out n fits)(hn:n=1):out*sq=A:=by
 rw[<- h.eq,hn,Nat.pow_one]
def w0f {sq:Nat}(h:(limbs sq).length<=100000):(limbs (sq*sq)).length<=200000:=by
 have:=a0H h h;omega
theorem PowI.odd {A sq out n:Nat}{fits:Bool}(h:PowI A sq out n fits)(hf:fits=true)(ho:n%2=1)(hs:nDigits (out*sq)<=4000)(h2:1<=n / 2):PowI A (sq*sq) (out*sq) (n / 2) (decide (nDigits (sq*sq)<=4000)):=by
 have h4:=Ar h.two h.two;refine⟨?_,by omega,h2,hs,fun e=>?_,fun e=>?_,w0f (h.len hf),Eb h.pos (by have:=h.two;omega)⟩
 .rw[<- h.eq,A9,<- Nat.pow_two,<- Mr];have:sq*sq ^ (2*(n / 2))=sq ^ n:=by
   rw[<- Nat.pow_succ']
   congr 1
   omega
  rw[this]
 .have:=Fz e;omega
 .have:=a0n (Am e);omega
theorem PowI.even {A sq out n:Nat}{fits:Bool}(h:PowI A sq out n fits)(hf:fits=true)(ho:n%2=0):PowI A (sq*sq) out (n / 2) (decide (nDigits (sq*sq)<=4000)):=by
 have h4:=Ar h.two h.two;have h1:=h.n1;refine⟨?_,by omega,by omega,h.small,fun e=>?_,fun e=>?_,w0f (h.len hf),h.pos⟩
 .rw[<- h.eq,<- Nat.pow_two,<- Mr]
  congr 2
  omega
 .have:=Fz e;omega
 .have:=a0n (Am e);omega
def k0h (n:Nat)(e:Ending)(w':World):Prop:=
 (nDigits n<=4000/\∃ v,e=.returned (.tuple #[v,.bool true])/\IsN .u64 w' v n)\/(4000<nDigits n/\e=.returned (.tuple #[.slice none 0 0,.bool false]))
def v0l (w:World):IsN .u64 (w.alloc (.cells #[.int .u64 1] 161)) (.slice (some ⟨w.heap.size,0,none⟩) 1 1) 1:=by
 unfold IsN;rw[d0b];exact Row.of_blk (b:=w.heap.size) (n:=1) (c:=1) (cs:=#[.int .u64 1]) (Blk.new w _ _) rfl (by unfold maxLen;omega) (fun i x hx=>by simpa[b0p]using hx) nr (by unfold maxLen;omega)
def n0U {n:Nat}(h:n<18446744073709551616):(bits BinOp.and IntKind.u64 (n:Int) 1==1)=decide (n%2=1):=by
 rw[and_one_u64 _ (by omega) (by omega),Bk,Fi,H7];omega
def p0B (w:World)(v:Value)(a:Nat)(ha:IsN .u64 w v a):Calls prog 159 #[v,.int .u64 0,.int .i64 4000] w fun e w'=>k0h (a ^ 0) e w'/\Below w.heap.size w w':=by
 have H1:=hid (v0l (w.alloc (.cells #[.int .i64 4000] 3)));go_enter func159,ntmps159;go_wp2_with fail;go_ret2
 refine⟨.inl ⟨by rw[Dd,b0o];omega,_,rfl,by rw[Dd];simpa using H1.out⟩,(br0.alloc nr _).alloc (by simp) _⟩
def m0y (w:World)(v:Value)(a n:Nat)(ha:IsN .u64 w v a)(hs:a<=1)(hn:0<n)(hn2:n<18446744073709551616):Calls prog 159 #[v,.int .u64 n,.int .i64 4000] w fun e w'=>k0h (a ^ n) e w'/\Below w.heap.size w w':=by
 have hpow:=hid (show a ^ n=a/\nDigits a<=4000 from by
  rcases (show a=0\/a=1 by omega) with rfl | rfl
  .exact⟨Nat.zero_pow hn,by rw[c0J];omega⟩
  .exact⟨Nat.one_pow _,by rw[b0o];omega⟩)
 have b0:=hid ((J4 w.heap.size w).alloc nr (.cells #[.int .i64 4000] 3));have A0:=hid (ha.call b0.out);have q0:((n:Int)==0)=false:=by rw[M5];omega
 obtain⟨k1,d1,rfl,_⟩:=ha.openI;obtain⟨len,hlen⟩:=gn ((limbs a).length);rw[hlen]at A0 |-;clear ha hlen;rcases (show a=0\/a=1 by omega) with rfl | rfl
 focus
  have hz:isZ 0=true:=rfl;clear hs hn hn2;go_enter func159,ntmps159;go_wp2_with fail;refine (g0h _ _ _ A0.out).mono ?_;rintro e w1 ⟨rfl,rfl⟩;rw[hz]
 rotate_left
 focus
  have hz:isZ 1=false:=rfl;have ho:isO 1=true:=rfl;clear hs hn hn2;go_enter func159,ntmps159;go_wp2_with fail;refine (g0h _ _ _ A0.out).mono ?_;rintro e w1 ⟨rfl,rfl⟩;rw[hz];go_wp2_with fail;refine zv (m0z _ _ _ A0.out) ?_;rw[ho]
 all_goals
  go_wp2_with fail;go_ret2
  exact⟨.inl ⟨by rw[hpow.out.1];exact hpow.out.2,_,rfl,by rw[hpow.out.1];exact A0.out⟩,b0.out⟩
def Z6:=@decide_eq_false
def Z7:=@decide_eq_true
def s0d (w:World)(v:Value)(a N:Nat)(ha:IsN .u64 w v a)(hs:2<=a)(hl:(limbs a).length<=100000)(hn:0<N)(hn2:N<18446744073709551616)(hL:Lay w):Calls prog 159 #[v,.int .u64 N,.int .i64 4000] w fun e w'=>k0h (a ^ N) e w'/\Below w.heap.size w w':=by
 have b0:=hid ((J4 w.heap.size w).alloc nr (.cells #[.int .i64 4000] 3));obtain⟨A0,HA⟩:=zu (ha.call b0.out) ha;have q0:((N:Int)==0)=false:=by rw[M5];omega
 obtain⟨k1,d1,rfl,_⟩:=ha.openI;obtain⟨len,hlen⟩:=gn ((limbs a).length);have PI:=hid (PowI.start (n:=N) hs hn hl);rw[hlen]at A0 HA |-;have hz:isZ a=false:=Z6 (by omega);have ho:isO a=false:=Z6 (by omega);obtain⟨HN2,HL,HLL⟩:=zg hn2 hL hL.lt;obtain⟨R,hR⟩:=gn (a ^ N);rw[hR]at PI |-;clear ha hlen hs hl hn hn2 hL hR;go_enter func159,ntmps159;go_wp2_with fail;refine (g0h _ _ _ A0.out).mono ?_;rintro e w1 ⟨rfl,rfl⟩;rw[hz];clear hz;go_wp2_with fail;refine (m0z _ _ _ A0.out).mono ?_;rintro e w1 ⟨rfl,rfl⟩;rw[ho];clear ho;go_wp2_with fail;obtain⟨W0,hW0⟩:=gn (((((w.alloc (.cells #[.int .i64 4000] 3)).alloc (.cells #[.int .u64 1] 161)).alloc (.cells #[.slice k1 len d1] 124)).alloc (.cells #[.bool true] 4)));have b4:Below w.heap.size w W0:=by rw[<- hW0];exact (((br0.alloc nr _).alloc (by simp) _).alloc (by simp<;>omega) _).alloc (by simp<;>omega) _
 have x0:Blk W0 w.heap.size #[.int .i64 4000] 3:=by rw[<- hW0];exact (((Blk.new w _ _).alloc _).alloc _).alloc _
 have x1:Blk W0 (w.heap.size+1) #[.int .u64 1] 161:=by rw[<- hW0];exact ((Blk.made _ _ _ (by simp)).alloc _).alloc _
 have x2:Blk W0 (w.heap.size+1+1) #[.slice k1 len d1] 124:=by rw[<- hW0];exact (Blk.made _ _ _ (by simp)).alloc _
 have x3:Blk W0 (w.heap.size+1+1+1) #[.bool true] 4:=by rw[<- hW0];exact Blk.made _ _ _ (by simp)
 have o0:IsN .u64 W0 (.slice (some ⟨w.heap.size+1,0,none⟩) 1 1) 1:=by
  unfold IsN;rw[d0b];exact Row.of_blk (n:=1) (c:=1) x1 rfl (by unfold maxLen;omega) (fun i x hx=>by simpa[b0p]using hx) nr (by unfold maxLen;omega)
 have P0:PowS W0 (w.heap.size+1+1) (w.heap.size+1+1+1) w.heap.size a true:=⟨⟨_,_,_,x2,HA.out.call b4⟩,x3,x0,by omega,by omega,by omega⟩;rw[hW0];obtain⟨OO,PP,BB⟩:=zg o0 P0 b4;obtain⟨bs,hbs⟩:=gn (w.heap.size+1+1);rw[hbs]at PP |-;obtain⟨bf,hbf⟩:=gn (bs+1);rw[hbf]at PP |-;obtain⟨HBS,HBF⟩:=zu (show w.heap.size<=bs by omega) (show w.heap.size<=bf by omega);have e159:∀ args w,(callFunc 224 args).run prog w=.ok (.enter 224 args) w:=Cw func224 (by kernel_rfl) rfl;clear b4 x0 x1 x2 x3 o0 P0 hW0 hbs hbf A0 b0 q0
 go_loopw [1,8] (fun nn oo wr=>∃ (n out sq:Nat) (fits:Bool) (a1:Option Addr) (l1 c1:Nat),nn=.int .u64 (n:Nat)/\oo=.slice a1 l1 c1/\Hid (PowI R sq out n fits)/\Hid (IsN .u64 wr (.slice a1 l1 c1) out)/\Hid (PowS wr bs bf w.heap.size sq fits)/\Hid (Below w.heap.size w wr)/\n<18446744073709551616) (fun nn oo wr=>(intOf nn).toNat)
 case atStart=>exact⟨N,1,a,true,_,_,_,rfl,rfl,PI.out,OO.out,PP.out,BB.out,HN2.out⟩
 case round=>
  obtain⟨n,out,sq,fits,a1,l1,c1,rfl,rfl,hI,hO,hS,hB,hn⟩:=hrel;obtain⟨a2,l2,c2,h1,h2⟩:=hS.out.sq;obtain⟨HL1,HO,HV,HF,HT⟩:=zd (HL.out.call hB.out) h1 h2 hS.out.fits hS.out.lim;have k0:wr.cell? ⟨bs,0,none⟩=some (.slice a2 l2 c2):=h1.cell 0;have k1:wr.cell? ⟨bf,0,none⟩=some (.bool fits):=hS.out.fits.cell 0;obtain⟨HN,HN1,HLO,HLS⟩:=zc hn hI.out.n1 (a0n hI.out.small) hI.out.lim;clear h1 h2;by_cases ho:n%2=1
  .have q1:(bits BinOp.and IntKind.u64 (n:Int) 1==1)=true:=by rw[n0U hn];exact Z7 ho
   have HO1:=hid ho;clear ho hn;go_wp2_with fail;refine (i0b _ _ _ out sq hO.out HV.out (by have:=HLO.out;omega) (by have:=HLS.out;omega)).mono ?_;rintro e w1 ⟨⟨v1,rfl,hv1⟩,hb1⟩;have HLM:=hid (a0H HLO.out HLS.out);obtain⟨a3,c3,rfl,_⟩:=hv1.openI;obtain⟨l3,hl3⟩:=gn ((limbs (out*sq)).length);rw[hl3]at hv1 |-;obtain⟨V1,F1,T1⟩:=zg hv1 (HF.out.call hb1) (HT.out.call hb1);have B1:=qx hB hb1;have S1:Hid (PowS w1 bs bf w.heap.size sq fits):=⟨⟨_,_,_,HO.out.call hb1,HV.out.call hb1⟩,F1.out,T1.out,hS.out.n1,hS.out.n2,hS.out.n3⟩;have m1:w1.cell? ⟨bf,0,none⟩=some (.bool fits):=F1.out.cell 0;have m2:w1.cell? ⟨w.heap.size,0,none⟩=some (.int .i64 4000):=T1.out.cell 0;obtain⟨L1,B1x⟩:=zu (HL1.out.call hb1) hb1;clear hb1 hv1 k0 k1 hl3;cases fits
   .go_wp2_with fail;go_quiet (fail)
    go_wp2_with fail;go_ret2
    exact⟨.inr ⟨hI.out.big rfl,rfl⟩,a0k B1.out _⟩
   .go_wp2_with fail
    go_region_held3 (fun w'=>w'.cell? ⟨bf,0,none⟩=some (.bool true)/\w'.cell? ⟨w.heap.size,0,none⟩=some (.int .i64 4000))
     (first | exact⟨m1,m2⟩ | exact⟨F2.out.cell 0,T2.out.cell 0⟩)
     (first
      | (go_at_call 198;refine (c0r _ _ (out*sq) (V1.out.call br0.drew) (L1.out.call br0.drew) (by have:=HLM.out;omega)).mono ?_;rintro e w2 ⟨rfl,hb2⟩;have B2:=hid (show Below w1.heap.size w1 w2 from br0.drew.trans hb2);have F2:=hid (F1.out.call B2.out);have T2:=hid (T1.out.call B2.out)))
    have S2:Hid (PowS w2 bs bf w.heap.size sq true):=⟨⟨_,_,_,(HO.out.call B1x.out).call B2.out,(HV.out.call B1x.out).call B2.out⟩,F2.out,T2.out,hS.out.n1,hS.out.n2,hS.out.n3⟩;obtain⟨V2,L2⟩:=zu (V1.out.call B2.out) (L1.out.call B2.out);have BB2:=qx B1 B2.out;clear m1 m2;by_cases hd:4000<nDigits (out*sq)
    .have q2:decide ((4000:Int)<(nDigits (out*sq):Nat))=true:=by simp;omega
     have HD:=hid hd;rw[q2];clear hd q2;go_wp2_with fail;go_ret2
     exact⟨.inr ⟨hI.out.bigO HD.out,rfl⟩,BB2.out⟩
    .have q2:decide ((4000:Int)<(nDigits (out*sq):Nat))=false:=by simp;omega
     have HD:=hid (show nDigits (out*sq)<=4000 by omega);rw[q2];clear hd q2;have m1:w2.cell? ⟨bf,0,none⟩=some (.bool true):=F2.out.cell 0;by_cases h1:n=1
     .have HD1:=hid (hI.out.done h1);subst h1;go_wp2_with fail;go_ret2
      exact⟨.inl ⟨by rw[<- HD1.out];exact HD.out,_,rfl,by rw[<- HD1.out];exact V2.out⟩,BB2.out⟩
     .have h2:1<=n / 2:=by have:=HO1.out;omega
      have q3:((n:Int) / 2==0)=false:=by rw[M5];omega
      have HI2:=hid (hI.out.odd rfl HO1.out HD.out h2);clear h1 h2;go_wp2_with fail;refine (w0I _ bs bf w.heap.size sq w.heap.size true S2.out HBS.out HBF.out BB2.out.size (hI.out.len rfl) L2.out HLL.out).mono ?_;rintro e w5 ⟨⟨v5,rfl⟩,hp5,hk5,hb5⟩;obtain⟨P5,O5,B5⟩:=zg hp5 (hk5 _ _ _ V2.out) (BB2.out.trans hb5);clear hp5 hk5 hb5;go_wp2_with fail;go_roundw
      case rel=>exact⟨n / 2,out*sq,sq*sq,_,_,_,_,by rw[show ((n:Int) / 2)=((n / 2:Nat):Int) by omega],rfl,HI2,O5,P5,B5,by have:=HN.out;omega⟩
      case measure=>simp[intOf]<;>(have:=HN1.out;omega)
  .have q1:(bits BinOp.and IntKind.u64 (n:Int) 1==1)=false:=by rw[n0U hn];exact Z6 ho
   have h0:n%2=0:=by omega
   have h2:1<=n / 2:=by have:=HN1.out;omega
   have q3:((n:Int) / 2==0)=false:=by rw[M5];omega
   have H0:=hid h0;clear ho hn h0 h2;cases fits
   .go_wp2_with fail;go_ret2
    exact⟨.inr ⟨hI.out.big rfl,rfl⟩,hB.out⟩
   .have HI2:=hid (hI.out.even rfl H0.out);go_wp2_with fail;refine (w0I _ bs bf w.heap.size sq w.heap.size true hS.out HBS.out HBF.out hB.out.size (hI.out.len rfl) HL1.out HLL.out).mono ?_;rintro e w5 ⟨⟨v5,rfl⟩,hp5,hk5,hb5⟩;obtain⟨P5,O5,B5⟩:=zg hp5 (hk5 _ _ _ hO.out) (hB.out.trans hb5);clear hp5 hk5 hb5;go_wp2_with fail;go_roundw
    case rel=>exact⟨n / 2,out,sq*sq,_,_,_,_,by rw[show ((n:Int) / 2)=((n / 2:Nat):Int) by omega],rfl,HI2,O5,P5,B5,by have:=HN.out;omega⟩
    case measure=>simp[intOf]<;>(have:=HN1.out;omega)
def s0e (w:World)(v:Value)(a n:Nat)(ha:IsN .u64 w v a)(hl:(limbs a).length<=100000)(hn2:n<18446744073709551616)(hL:Lay w):Calls prog 159 #[v,.int .u64 n,.int .i64 4000] w fun e w'=>k0h (a ^ n) e w'/\Below w.heap.size w w':=by
 rcases H8 n with rfl | hn
 .exact p0B w v a ha
 .by_cases h:a<=1
  .exact m0y w v a n ha h hn hn2
  .exact s0d w v a n ha (by omega) hl hn hn2 hL
def v0d (w:World)(s:ByteArray)(n:Nat)(hs:c0i s.data.toList=0)(hn:n<=9223372036854775807)(hd:nDigits (bN s ^ n)<=4000)(hL:Lay w):
 qb 278 #[.string s,.int .i64 n] w (.tuple #[.string (a0f (bN s ^ n)),.int .i64 0]):=by
 obtain⟨d1,d2,d3⟩:=b0L hs;have HC:=fun V=>hid (f0Q V s (by omega))
 rw[hs]at HC;have HP:=fun V=>hid (c0y V s d1 (by omega))
 have hdv:dv s.data.toList=bN s:=rfl;rw[hdv]at HP;have HW:=fun V v hv hL=>hid (s0e V v (bN s) n hv (by omega) (by omega) hL)
 have HR:=fun V v hv hL=>hid (g0H V v (bN s ^ n) hv (by have:=a0n hd;omega) hL)
 have e1:n0G (bN s ^ n)=a0f (bN s ^ n):=by rw[n0G,J2 (by omega)]
 have e2:k0I (bN s ^ n)=0:=by rw[k0I,J2 (by omega)]
 rw[e1,e2]at HR;obtain⟨R,hR⟩:=gn (bN s ^ n);rw[hR]at HW HR hd |-;obtain⟨HD,HL⟩:=zu hd hL;have hn0:=qw n
 have hn1:(n:Int)<=9223372036854775807:=by omega
 have q0:decide ((n:Int)<0)=false:=by simp
 clear hs hn d1 d2 d3 hdv e1 e2 hR hd hL;go_enter func278,ntmps278;go_wp2_with fail;refine nz (HC _) fun w1 b1=>?_;go_wp2_with fail;refine nu (HP _) fun v2 w2 hv2 hb2=>?_;have b2:=qx b1 hb2;have V2:=hid hv2;clear hb2 hv2;go_wp2_with fail;refine (HW _ _ V2.out (HL.out.call b2.out)).out.mono ?_;rintro e w3 ⟨h3,hb3⟩;rcases h3 with ⟨-,v3,rfl,hv3⟩ | ⟨h3,-⟩
 .have b3:=qx b2 hb3;have V3:=hid hv3;clear hb3 hv3;go_wp2_with fail;refine nw (HR _ _ V3.out (HL.out.call b3.out)) b3 fun w4 b4=>?_;go_wp2_with fail;go_ret2
  exact⟨rfl,b4.out⟩
 .exact absurd h3 (by have:=HD.out;omega)
def Jm:=@Nat.pow_le_pow_left
def Hg:=@Nat.pow_lt_pow_right
def Ev:=@Nat.succ_pos
def i0g {n:Nat}(h:n<=1000):nDigits (2 ^ n)<=4000:=by
 have h1:2 ^ n<10 ^ (n+1):=by
  have h2:2 ^ n<=10 ^ n:=Jm (by omega) n;have h3:10 ^ n<10 ^ (n+1):=Hg (by omega) (by omega);omega
 exact J0 (a0l (Ev n) h1) (by omega)
def w0Z:bN ⟨#[50]⟩=2:=by decide
def v0E:c0i (⟨#[50]⟩:ByteArray).data.toList=0:=by decide
open Go.Shelf
def shB (m t:Nat):ByteArray:=c0b (qmk false m t)
def y0e (w:World)(m t:Nat)(hm:nDigits m<=4000)(ht:nDigits t<=4000)(h0:t≠0)(hL:Lay w):
 qb 215 #[.string (a0f m),.string (a0f t)] w (.tuple #[.string (shB m t),.int .i64 (c0p (qmk false m t))]):=by
 have h:=w0y w (a0f m) (a0f t) (a0M hm) (a0M ht) hL;have e:=w0E hm ht h0;rwa[e.1,e.2]at h
structure MRow (w:World)(v:Value)(L:List (ByteArray×ByteArray)):Prop where
 ex:∃ a c,v=.slice a L.length c/\L.length<=c/\c<=9223372036854775807/\∀ (i:Nat) (x:ByteArray×ByteArray),L[i]?=some x->∃ g o,a=some ⟨g,o,none⟩/\g<w.heap.size/\w.cell? ⟨g,o+2*i,none⟩=some (.string x.1)/\w.cell? ⟨g,o+2*i+1,none⟩=some (.string x.2)
theorem MRow.call {w w':World}{v:Value}{L:List (ByteArray×ByteArray)}(h:MRow w v L)(hb:Below w.heap.size w w'):MRow w' v L:=by
 obtain⟨a,c,rfl,h1,h2,h3⟩:=h.ex;refine⟨a,c,rfl,h1,h2,fun i x hx=>?_⟩;obtain⟨g,o,rfl,hg,k1,k2⟩:=h3 i x hx;exact⟨g,o,rfl,J7 hg hb.size,(hb.cell (p:=⟨g,o+2*i,none⟩) hg).trans k1,(hb.cell (p:=⟨g,o+2*i+1,none⟩) hg).trans k2⟩
theorem MRow.nil (w:World):MRow w (.slice none 0 0) []:=⟨none,0,rfl,O4 _,by omega,fun i x h=>by simp at h⟩
def y0s {x y:ByteArray}(h:¬ x=y):¬ x.toList=y.toList:=fun e=>h (by
 rw[Cy,Cy]at e;exact b0f e)
def Ki:=@Prod.mk.injEq
def s0h (w:World)(v u:Value)(L M:List (ByteArray×ByteArray))(hv:MRow w v L)(hu:MRow w u M):
 qb 18 #[v,u] w (.bool (decide (L=M))):=by
 obtain⟨a,c,rfl,h1,h2,h3⟩:=hv.ex;obtain⟨a',c',rfl,h1',h2',h3'⟩:=hu.ex;obtain⟨n,hn⟩:=gn (L.length);obtain⟨m,hm⟩:=gn (M.length);rw[hn]at h1 |-;rw[hm]at h1' |-;obtain⟨H3,H3',HN,HM⟩:=zc h3 h3' hn hm;clear hv hu h3 h3';by_cases hnm:n=m
 .subst hnm;have q0:((n:Int) != (n:Int))=false:=by simp
  clear hn hm;go_enter func18,ntmps18;go_wp2_with fail
  go_loopw [5] (fun ii wr=>∃ i:Nat,ii=.int .i64 (i:Nat)/\i<=n/\Hid (∀ j,j<i->L[j]?=M[j]?)/\Hid (Below w.heap.size w wr)) (fun ii wr=>n-(intOf ii).toNat)
  case atStart=>exact⟨0,rfl,K5 _,fun j hj=>absurd hj (by omega),J4 _ _⟩
  case round=>
   obtain⟨i,rfl,hi,hI,hB⟩:=hrel;by_cases hlt:i<n
   .obtain⟨x,hx⟩:∃ x,L[i]?=some x:=⟨_,List.getElem?_eq_getElem (by rw[HN.out];exact hlt)⟩;obtain⟨y,hy⟩:∃ x,M[i]?=some x:=⟨_,List.getElem?_eq_getElem (by rw[HM.out];exact hlt)⟩;obtain⟨g,o,rfl,hg,k1,k2⟩:=H3.out i x hx;obtain⟨g',o',rfl,hg',k1',k2'⟩:=H3'.out i y hy;obtain⟨x1,x2⟩:=x;obtain⟨y1,y2⟩:=y;obtain⟨HX,HY⟩:=zu hx hy;have m1:=(hB.out.cell (p:=⟨g,o+2*i,none⟩) hg).trans k1;have m2:=(hB.out.cell (p:=⟨g,o+2*i+1,none⟩) hg).trans k2;have m3:=(hB.out.cell (p:=⟨g',o'+2*i,none⟩) hg').trans k1';have m4:=(hB.out.cell (p:=⟨g',o'+2*i+1,none⟩) hg').trans k2';dsimp only at m1 m2 m3 m4;rw[Nat.mul_comm 2 i]at m1 m2 m3 m4;have b1:=qw i
    have b2:(i:Int)<(n:Int):=by omega
    have wi:IntKind.i64.wrap ((i:Int)+1)=(i:Int)+1:=by rw[U0 _ ⟨by omega,by omega⟩]
    clear k1 k2 k1' k2' hx hy hg hg';by_cases he1:x1=y1
    focus
     subst he1;by_cases he2:x2=y2
     .subst he2;go_wp2_with fail;refine a0j [0,1,2,3,4,5,6,7,8] 0 (fun w'=>w'.cell? ⟨g,o+i*2,none⟩=some (.string x1)/\w'.cell? ⟨g,o+i*2+1,none⟩=some (.string x2)/\w'.cell? ⟨g',o'+i*2,none⟩=some (.string x1)/\w'.cell? ⟨g',o'+i*2+1,none⟩=some (.string x2)) (by kernel_rfl) (by kernel_rfl) (by kernel_rfl) (by kernel_rfl) ⟨m1,m2,m3,m4⟩ ?_
      iterate 9
       refine⟨_,rfl,?_⟩;apply Exists.intro
       refine⟨.inl ⟨by rfl,?_⟩,?_⟩
       .rintro W' ⟨q1,q2,q3,q4⟩;go_simp;try with_reducible rfl
       go_frame
      refine J8 (by kernel_rfl) ?_ _;simp only[b0b];go_wp2_with fail;go_roundw
      case rel=>exact⟨i+1,rfl,by omega,fun j hj=>by
       rcases Ct j i with h | h
       .exact hI.out j h
       .obtain rfl:j=i:=by omega
        rw[HX.out,HY.out],hB.out.drew⟩
      case measure=>simp[intOf]<;>omega
     focus
      have n2:=y0s he2;have hne:decide (L=M)=false:=by
       rw[Ac];rintro rfl;have:=HX.out.symm.trans HY.out;simp only[Az,Ki]at this;exact he2 this.2
      have HNE:=hid hne;clear hne he2;go_wp2_with fail;refine a0j [0,1,2,3,4,5,6,7,8] 0 (fun w'=>w'.cell? ⟨g,o+i*2,none⟩=some (.string x1)/\w'.cell? ⟨g,o+i*2+1,none⟩=some (.string x2)/\w'.cell? ⟨g',o'+i*2,none⟩=some (.string x1)/\w'.cell? ⟨g',o'+i*2+1,none⟩=some (.string y2)) (by kernel_rfl) (by kernel_rfl) (by kernel_rfl) (by kernel_rfl) ⟨m1,m2,m3,m4⟩ ?_
    rotate_left
    focus
     have n1:=y0s he1;have hne:decide (L=M)=false:=by
      rw[Ac];rintro rfl;have:=HX.out.symm.trans HY.out;simp only[Az,Ki]at this;exact he1 this.1
     have HNE:=hid hne;clear hne he1;go_wp2_with fail;refine a0j [0,1,2,3,4,5,6,7,8] 0 (fun w'=>w'.cell? ⟨g,o+i*2,none⟩=some (.string x1)/\w'.cell? ⟨g,o+i*2+1,none⟩=some (.string x2)/\w'.cell? ⟨g',o'+i*2,none⟩=some (.string y1)/\w'.cell? ⟨g',o'+i*2+1,none⟩=some (.string y2)) (by kernel_rfl) (by kernel_rfl) (by kernel_rfl) (by kernel_rfl) ⟨m1,m2,m3,m4⟩ ?_
    all_goals
     iterate 9
      refine⟨_,rfl,?_⟩;apply Exists.intro
      refine⟨.inl ⟨by rfl,?_⟩,?_⟩
      .rintro W' ⟨q1,q2,q3,q4⟩;go_simp;try with_reducible rfl
      go_frame
     refine J8 (by kernel_rfl) ?_ _;simp only[b0b];go_wp2_with fail;go_ret
     exact⟨by rw[HNE.out];rfl,hB.out.drew⟩
   .obtain rfl:i=n:=by omega
    have hE:L=M:=by
     apply Aq
     intro j;by_cases hj:j<i
     .exact hI.out j hj
     .rw[U6 (by rw[HN.out];omega),U6 (by rw[HM.out];omega)]
    have HE:=hid hE;have q1:decide ((i:Int)<(i:Int))=false:=by simp
    clear hlt hE;go_wp2_with fail;go_ret
    exact⟨by rw[Z7 HE.out];rfl,hB.out⟩
 .have q0:((n:Int) != (m:Int))=true:=by rw[bne_iff_ne];omega
  have hne:decide (L=M)=false:=by
   rw[Ac];rintro rfl;exact hnm (hn.symm.trans hm)
  have HNE:=hid hne;clear hne hnm hn hm;go_enter func18,ntmps18;go_wp2_with fail;go_ret
  exact⟨by rw[HNE.out];rfl,J4 _ _⟩
open Go.Maps
attribute [local go_sem] Oper.semAt_some
def b0d:ByteArray:=⟨#[108,97,116,101]⟩
def c0W (q:Rat):(c0b q).size<=10000:=by
 unfold c0b
 split
 .exact (by decide:(0:Nat)<=10000)
 .rename_i h
  unfold ovQ at h;have h1:=a0A (txQ q);unfold txQ at h1 |-;rw[b0U]at h1;rw[<- h1];simp only[J5,I9];have e1:(if decide (q.num<0)=true then [45] else ([]:List UInt8)).length<=1:=by split<;>simp
  have e2:(if q.den=1 then [] else (47:UInt8)::decDigits q.den).length<=4001:=by
   split
   .simp
   .simp only[E8,I9];omega
  omega
end
section
open Go.Shelf
def LayS (w:World):Prop:=∃ ev,w.cell? ⟨0,0,none⟩=some ev/\(ev=.nilIface\/∃ te pe,ev=.iface te pe)
theorem LayS.call {w w':World}(h:LayS w)(hb:Below w.heap.size w w'):LayS w':=by
 obtain⟨ev,h1,h2⟩:=h;exact⟨ev,(hb.cell (Ey w _ h1)).trans h1,h2⟩
structure LayB (w:World):Prop where
 l:Lay w
 s:LayS w
theorem LayB.call {w w':World}(h:LayB w)(hb:Below w.heap.size w w'):LayB w':=⟨h.l.call hb,h.s.call hb⟩
def z0L (w:World)(h:LayS w):
 Calls prog 163 #[.string b0d] w fun e w'=>(∃ te pe,e=.returned (.tuple #[.int .i64 0,.iface te pe]))/\Below w.heap.size w w':=by
 obtain⟨ev,h1,h2⟩:=h;have:=Any.strconv_Atoi_err Tryz.laysC172 b0d (by decide) (by decide) ev w h1 h2
 change Calls prog 163 _ _ _ at this
 refine this.mono ?_;rintro e w' ⟨N,rfl,-,-,hb⟩;exact⟨⟨_,_,rfl⟩,hb⟩
end
section
open Go.ChangeShapes Go.WideShapes Go.ChangeAt
def o0O {H:Type}{enc:TypeId×Value->H}{P:Program}{w:World}{b0:Nat}{sp:Nat->Bool}{held:Bool}{fuel:Nat}{t:TypeId}{cs:List Value}{d:DataW H}{p:List MemPlace}{ms}(ht:P.underlying t=some (.interface ms))(h:DataW.trod enc P w b0 sp held fuel t cs=some (d,p)):cs = [.nilIface]\/∃ u v,cs = [.iface u v]:=by
 cases fuel with
 | zero=>simp[DataW.trod]at h
 | succ n=>
  rcases cs with _ | ⟨a,_ | ⟨b,r⟩⟩
  .simp[DataW.trod,ht]at h
  .cases a<;>simp[DataW.trod,ht]at h
   .exact .inr ⟨_,_,rfl⟩
   .exact .inl rfl
  .simp[DataW.trod,ht]at h
def k0u : prog.globalNamed "strconv.ErrSyntax" = some 0 := by kernel_rfl
def l0T:(prog.globals[0]?).map (·.type)=some 169:=by kernel_rfl
def y0x {W:World}(h:laidMetH prog Rows.noiseCallsRow.laid W)(hsh:W.ShapedOpen prog):LayB W:=by
 refine⟨b1o h hsh,?_⟩;rw[Ja _ _ _ (by kernel_rfl)]at h;obtain⟨ps,⟨g0,t0,cs0,f0,p0,q0,hg0,ht0,hv0,hd0,⟨g1,t1,cs1,f1,p1,q1,hg1,ht1,hv1,hd1,⟨g2,t2,cs2,f2,p2,q2,hg2,ht2,hv2,hd2,⟨g3,t3,cs3,f3,p3,q3,hg3,ht3,hv3,hd3,⟨g4,t4,cs4,f4,p4,q4,hg4,ht4,hv4,hd4,⟨g5,t5,cs5,f5,p5,q5,hg5,ht5,hv5,hd5,_,_⟩,_⟩,_⟩,_⟩,_⟩,_⟩,_,_⟩:=h;obtain rfl:=Ag (k0u.symm.trans hg5);obtain rfl:=Ag (l0T.symm.trans ht5);have h1:=o0O Ic hd5;unfold World.var? at hv5;rw[k0u]at hv5;simp only[Ht]at hv5
 split at hv5
 .rename_i cs t fr ho
  cases hv5
  rcases h1 with h1 | ⟨u,v,h1⟩
  .have e:cs5 = #[.nilIface]:=by cases cs5;simpa using h1
   exact⟨.nilIface,by simp[World.cell?,ho,e],.inl rfl⟩
  .have e:cs5 = #[.iface u v]:=by cases cs5;simpa using h1
   exact⟨.iface u v,by simp[World.cell?,ho,e],.inr ⟨_,_,rfl⟩⟩
 .cases hv5
end
def t0A:Nat->List (List UInt8)
 | 0=>[[]]
 | n+1=>(t0A n).flatMap fun l=>[l ++ [48],l ++ [49]]
theorem g0R:∀ {n:Nat} {l:List UInt8},l∈t0A n->l.length=n
 | 0,l,h=>by simp[t0A]at h;subst h;rfl
 | n+1,l,h=>by
  simp only[t0A,List.mem_flatMap]at h;obtain⟨m,hm,hl⟩:=h;have:=g0R hm;simp at hl;rcases hl with rfl | rfl<;>simp[this]
def Lc:=@List.flatMap_cons
theorem e0L:∀ n,(t0A n).length=2 ^ n
 | 0=>rfl
 | n+1=>by
  have h:∀ L:List (List UInt8),(L.flatMap fun l=>[l ++ [48],l ++ [49]]).length=2*L.length:=fun L=>by
   induction L with
   | nil=>rfl
   | cons a r ih=>rw[Lc,J5,ih,E8];simp;omega
  rw[t0A,h,e0L n,E9];omega
def a0m (c:Nat->Nat):Nat->Nat
 | 0=>0
 | i+1=>a0m c i+c i
theorem a0d {c d:Nat->Nat}:∀ {N:Nat},(∀ i,i<N->c i=d i)->a0m c N=a0m d N
 | 0,_=>rfl
 | N+1,h=>by rw[a0m,a0m,a0d (fun i hi=>h i (by omega)),h N (by omega)]
theorem c0c (c d:Nat->Nat):∀ N,a0m (fun i=>c i+d i) N=a0m c N+a0m d N
 | 0=>rfl
 | N+1=>by rw[a0m,a0m,a0m,c0c c d N];omega
theorem a0F:∀ N,a0m (fun _=>0) N=0
 | 0=>rfl
 | N+1=>by rw[a0m,a0F N]
theorem e0T (j:Nat):∀ N,a0m (fun i=>if j=i then 1 else 0) N=if j<N then 1 else 0
 | 0=>by simp[a0m]
 | N+1=>by
  rw[a0m,e0T j N];by_cases h1:j<N
  .rw[J3 h1,J2 (by omega),J3 (by omega)]
  .rw[J2 h1];by_cases h2:j=N
   .rw[J3 h2,J3 (by omega)]
   .rw[J2 h2,J2 (by omega)]
def Ji:=@List.countP_cons
def Dn:=@Bool.true_and
theorem l0y {α : Type}(g : α->Bool×Nat)(N:Nat):∀ L:List α,(∀ x∈L,(g x).1=true->(g x).2<N)->a0m (fun i=>L.countP (fun x=>(g x).1 && decide ((g x).2=i))) N+L.countP (fun x => !(g x).1)=L.length
 | [],_=>by simp[a0F]
 | x::r,h=>by
  have ih:=l0y g N r (fun y hy=>h y (Br _ hy));simp only[Ji];rw[c0c,E8];cases hx:(g x).1
  .simp only[Jd,Bool.not_false,Ew];rw[show a0m (fun i=>if false=true then 1 else 0) N=0 by simpa using a0F N];omega
  .have h1:=h x (Dg ..) hx;simp only[Dn,H7];rw[e0T,J3 h1];simp;omega
theorem b0q (f:Nat->Nat):∀ n,a0m f (n+1)=f 0+a0m (fun i=>f (i+1)) n
 | 0=>by simp[a0m]
 | n+1=>by rw[a0m,b0q f n,a0m];omega
theorem e0U (k:Nat)(f:Nat->Nat):∀ n,a0m (fun i=>k*f i) n=k*a0m f n
 | 0=>rfl
 | n+1=>by rw[a0m,a0m,e0U k f n,Al]
theorem h0c {f g:Nat->Nat}:∀ {n:Nat},(∀ i,i<n->f i<=g i)->a0m f n<=a0m g n
 | 0,_=>O4 _
 | n+1,h=>by
  rw[a0m,a0m];have:=h0c (n:=n) fun i hi=>h i (by omega)
  have:=h n (by omega);omega
def a0Q {f:Nat->Nat}{m n:Nat}(h:m<=n):a0m f m<=a0m f n:=by
 induction n with
 | zero=>rw[show m=0 by omega];exact O4 _
 | succ n ih=>
  rcases Ct n m with h1 | h1
  .rw[show m=n+1 by omega];exact O4 _
  .have:=ih h1;rw[a0m];omega
def q0v {f:Nat->Nat}{i n:Nat}(h:i<n):f i<=a0m f n:=by
 have h1:a0m f (i+1)<=a0m f n:=a0Q (by omega);rw[a0m]at h1;omega
def cvo (f g:Nat->Nat)(n:Nat):Nat:=a0m (fun s=>f s*g (n-s)) (n+1)
def a0L {f f' g g':Nat->Nat}{n:Nat}(h1:∀ s,s<=n->f s=f' s)(h2:∀ s,s<=n->g s=g' s):cvo f g n=cvo f' g' n:=by
 unfold cvo;refine a0d fun s hs=>?_
 rw[h1 s (by omega),h2 (n-s) (by omega)]
theorem o0h:∀ (n:Nat) (a:Nat->Nat->Nat),a0m (fun s=>a s (n-s)) (n+1)=a0m (fun s=>a (n-s) s) (n+1)
 | 0,a=>by simp[a0m]
 | n+1,a=>by
  have ih:=o0h n fun x y=>a (x+1) y
  rw[b0q];have e1:a0m (fun i=>a (i+1) (n+1-(i+1))) (n+1)=a0m (fun s=>a (s+1) (n-s)) (n+1):=a0d fun i _=>by rw[show n+1-(i+1)=n-i by omega]
  have e2:a0m (fun s=>a (n-s+1) s) (n+1)=a0m (fun s=>a (n+1-s) s) (n+1):=a0d fun i hi=>by rw[show n+1-i=n-i+1 by omega]
  rw[e1,ih,e2];show _=a0m (fun s=>a (n+1-s) s) (n+1)+a (n+1-(n+1)) (n+1)
  rw[Bq,Nl];omega
def g0O (f g:Nat->Nat)(n:Nat):cvo f g n=cvo g f n:=by
 unfold cvo;rw[o0h n fun x y=>f x*g y];exact a0d fun s _=>M9 _ _
theorem q0p:∀ (n:Nat) (a:Nat->Nat->Nat->Nat),a0m (fun s=>a0m (fun u=>a u (s-u) (n-s)) (s+1)) (n+1)=a0m (fun u=>a0m (fun t=>a u t (n-u-t)) (n-u+1)) (n+1)
 | 0,a=>by simp[a0m]
 | n+1,a=>by
  have ih:=q0p n fun x y z=>a (x+1) y z
  have e1:a0m (fun s=>a0m (fun u=>a u (s-u) (n+1-s)) (s+1)) (n+1+1)=a0m (fun s=>a 0 s (n+1-s)) (n+1+1)+a0m (fun s=>a0m (fun u=>a (u+1) (s-u) (n-s)) (s+1)) (n+1):=by
   have h:∀ s,a0m (fun u=>a u (s-u) (n+1-s)) (s+1)=a 0 s (n+1-s)+a0m (fun u=>a (u+1) (s-(u+1)) (n+1-s)) s:=fun s=>by rw[b0q,Nl]
   rw[a0d (fun s _=>h s),c0c]
   congr 1
   rw[b0q];simp only[a0m,F9];rw[<- a0m];refine a0d fun s _=>?_
   rw[show a0m (fun u=>a (u+1) (s+1-(u+1)) (n+1-(s+1))) s+a (s+1) (s+1-(s+1)) (n+1-(s+1))=a0m (fun u=>a (u+1) (s+1-(u+1)) (n+1-(s+1))) (s+1) from rfl];rw[show a0m (fun u=>a (u+1) (s-u) (n-s)) s+a (s+1) (s-s) (n-s)=a0m (fun u=>a (u+1) (s-u) (n-s)) (s+1) from rfl];refine a0d fun u _=>?_
   rw[show s+1-(u+1)=s-u by omega,show n+1-(s+1)=n-s by omega]
  rw[e1,ih,b0q (fun u=>a0m (fun t=>a u t (n+1-u-t)) (n+1-u+1))]
  congr 1
  refine a0d fun u hu=>?_
  rw[show n+1-(u+1)+1=n-u+1 by omega];exact a0d fun t _=>by rw[show n+1-(u+1)-t=n-u-t by omega]
def b0J (f g h:Nat->Nat)(n:Nat):cvo (cvo f g) h n=cvo f (cvo g h) n:=by
 unfold cvo;have e1:a0m (fun s=>a0m (fun s_1=>f s_1*g (s-s_1)) (s+1)*h (n-s)) (n+1)=a0m (fun s=>a0m (fun u=>f u*g (s-u)*h (n-s)) (s+1)) (n+1):=a0d fun s _=>by
  rw[M9,<- e0U];exact a0d fun u _=>M9 _ _
 have e2:a0m (fun s=>f s*a0m (fun s_1=>g s_1*h (n-s-s_1)) (n-s+1)) (n+1)=a0m (fun u=>a0m (fun t=>f u*g t*h (n-u-t)) (n-u+1)) (n+1):=a0d fun s _=>by
  rw[<- e0U];exact a0d fun u _=>by rw[A9]
 rw[e1,e2];exact q0p n fun x y z=>f x*g y*h z
def chi (c:Nat->Bool)(j:Nat):Nat:=if c j=true then 1 else 0
def c1a (c:Nat->Bool)(j:Nat):chi c j<=1:=by unfold chi;split<;>omega
def cvF (c:Nat->Bool)(f:Nat->Nat):Nat->Nat->Nat
 | _,0=>0
 | j,n+1=>(if c (j+1)=true then f n else 0)+cvF c f (j+1) n
theorem f0z {c:Nat->Bool}{f:Nat->Nat}:∀ (n j:Nat),(∀ i,j<i->c i=false)->cvF c f j n=0
 | 0,_,_=>rfl
 | n+1,j,h=>by
  rw[cvF,J2 (by simp[h (j+1) (by omega)]),f0z n (j+1) fun i hi=>h i (by omega)]
theorem t0e (c:Nat->Bool)(f:Nat->Nat):∀ n j,cvF c f j n=a0m (fun i=>chi c (j+i+1)*f (n-(i+1))) n
 | 0,j=>rfl
 | n+1,j=>by
  rw[cvF,t0e c f n (j+1),b0q]
  congr 1
  .unfold chi;rw[show j+0+1=j+1 by omega,show n+1-(0+1)=n by omega]
   split<;>simp
  .exact a0d fun i _=>by rw[show j+1+i+1=j+(i+1)+1 by omega,show n-(i+1)=n+1-(i+1+1) by omega]
def t0c (c:Nat->Bool)(f:Nat->Nat)(n:Nat):cvo (chi c) f n=(if c 0=true then f n else 0)+cvF c f 0 n:=by
 unfold cvo;rw[b0q,t0e]
 congr 1
 .unfold chi;rw[Nl]
  split<;>simp
 .exact a0d fun i _=>by rw[show 0+i+1=i+1 by omega]
def dlt (j:Nat):Nat:=if j=0 then 1 else 0
def m0P (f:Nat->Nat)(n:Nat):cvo dlt f n=f n:=by
 unfold cvo;rw[b0q];have:a0m (fun i=>dlt (i+1)*f (n-(i+1))) n=a0m (fun _=>0) n:=a0d fun i _=>by unfold dlt;simp
 rw[this,a0F];unfold dlt;simp
def pw2 (j:Nat):Nat:=2 ^ j
def sdx (N D:Nat):Nat->Nat×Bool
 | 0=>(N,decide (N≠0))
 | j+1=>if (sdx N D j).2=true then (if D<=2*(sdx N D j).1 then (2*(sdx N D j).1-D,decide (2*(sdx N D j).1≠D)) else (2*(sdx N D j).1,true)) else sdx N D j
def a0D (N D:Nat):Nat->Bool
 | 0=>false
 | j+1=>(sdx N D j).2 && decide (D<=2*(sdx N D j).1)
def a0i (N D:Nat):Nat->Bool
 | 0=>decide (N=0)
 | j+1=>(sdx N D j).2 && decide (2*(sdx N D j).1<=D)
theorem e0Z {N D j:Nat}(h:(sdx N D j).2=false):∀ i,j<=i->(sdx N D i).2=false
 | 0,hi=>by rw[show j=0 by omega]at h;exact h
 | i+1,hi=>by
  rcases Ct i j with h1 | h1
  .rw[<- show j=i+1 by omega];exact h
  .have:=e0Z h i h1;rw[sdx,J2 (by simp[this])];exact this
def h0z {N D j:Nat}(h:(sdx N D j).2=false)(i:Nat)(hi:j<i):a0D N D i=false:=by
 cases i with
 | zero=>rfl
 | succ i=>rw[a0D,e0Z h i (by omega)];rfl
def f0G {N D j:Nat}(h:(sdx N D j).2=false)(i:Nat)(hi:j<i):a0i N D i=false:=by
 cases i with
 | zero=>omega
 | succ i=>rw[a0i,e0Z h i (by omega)];rfl
theorem w0o {N D:Nat}(h:N<D):∀ j,(sdx N D j).1<D
 | 0=>h
 | j+1=>by
  have:=w0o h j;rw[sdx]
  split
  .split
   .dsimp only;omega
   .dsimp only;omega
  .exact this
def h0V (f:Nat->Bool)(n j:Nat):List Value:=(List.range (n+1)).map fun i=>.bool (decide (i<j) && f i)
@[simp] theorem tabL_length (f:Nat->Bool) (n j:Nat):(h0V f n j).length=n+1:=by simp[h0V]
def Fl:=@List.getElem?_range
def b0j {f:Nat->Bool}{n j i:Nat}(h:i<=n):(h0V f n j)[i]?=some (.bool (decide (i<j) && f i)):=by simp[h0V,Fl (show i<n+1 by omega)]
def g0w {f:Nat->Bool}{n j:Nat}(h:j<=n):(h0V f n j).set j (.bool (f j))=h0V f n (j+1):=by
 apply Aq
 intro i;rw[Db];by_cases hi:j=i
 .subst hi;rw[J3 rfl,J3 (by simp;omega),b0j h];simp
 .rw[J2 hi];by_cases h2:i<=n
  .rw[b0j h2,b0j h2]
   congr 2
   by_cases h3:i<j
   .simp[h3,show i<j+1 by omega]
   .simp[h3,show ¬ i<j+1 by omega]
  .rw[U6 (by simp;omega),U6 (by simp;omega)]
def k0t {f:Nat->Bool}{n j:Nat}(h:∀ i,j<=i->f i=false):∀ k,j<=k->h0V f n k=h0V f n j:=by
 intro k hk;apply Aq
 intro i;by_cases h2:i<=n
 .rw[b0j h2,b0j h2];by_cases h3:i<j
  .simp[h3,show i<k by omega]
  .simp[h i (by omega)]
 .rw[U6 (by simp;omega),U6 (by simp;omega)]
def k0s {f:Nat->Bool}{n j:Nat}(h:f j=false):h0V f n (j+1)=h0V f n j:=by
 apply Aq
 intro i;by_cases h2:i<=n
 .rw[b0j h2,b0j h2];by_cases h3:i<j
  .simp[h3,show i<j+1 by omega]
  .by_cases h4:i=j
   .subst h4;simp[h]
   .simp[h3,show ¬ i<j+1 by omega]
 .rw[U6 (by simp;omega),U6 (by simp;omega)]
def q0t (f:Nat->Bool)(n:Nat):h0V f n 0=List.replicate (n+1) (.bool false):=by
 apply Aq
 intro i;by_cases h2:i<=n
 .rw[b0j h2,Ae,J3 (by omega)];simp
 .rw[U6 (by simp;omega),U6 (by simp;omega)]
def g0o (f:Nat->Bool)(n:Nat):List Value:=(List.range (n+1)).map fun i=>.bool (f i)
def e0k {f:Nat->Bool}{n i:Nat}(h:i<=n):(g0o f n)[i]?=some (.bool (f i)):=by simp[g0o,Fl (show i<n+1 by omega)]
def e0S (f:Nat->Bool)(n:Nat){j:Nat}(h:n<j):h0V f n j=g0o f n:=by
 unfold g0o;apply Aq
 intro i;by_cases h2:i<=n
 .rw[b0j h2];simp[Fl (show i<n+1 by omega),show i<j by omega]
 .rw[U6 (by simp;omega),U6 (by simp;omega)]
def cw:Nat->(List UInt8->Bool)->Nat
 | 0,P=>if P []=true then 1 else 0
 | n+1,P=>cw n (fun l=>P (48::l))+cw n (fun l=>P (49::l))
theorem a0E:∀ {n:Nat} {P Q:List UInt8->Bool},(∀ l,l.length=n->P l=Q l)->cw n P=cw n Q
 | 0,P,Q,h=>by rw[cw,cw,h [] rfl]
 | n+1,P,Q,h=>by
  rw[cw,cw,a0E (n:=n) (fun l hl=>h (48::l) (by simp[hl])),a0E (n:=n) (fun l hl=>h (49::l) (by simp[hl]))]
theorem m0L:∀ (n:Nat) (P:List UInt8->Bool),cw (n+1) P=cw n (fun l=>P (l ++ [48]))+cw n (fun l=>P (l ++ [49]))
 | 0,P=>by simp[cw]
 | n+1,P=>by
  rw[cw,m0L n,m0L n,cw,cw];simp only[Cm];omega
def p0Q (L:List (List UInt8))(P:List UInt8->Bool):(L.flatMap fun l=>[l ++ [48],l ++ [49]]).countP P=L.countP (fun l=>P (l ++ [48]))+L.countP (fun l=>P (l ++ [49])):=by
 induction L with
 | nil=>rfl
 | cons a r ih=>
  rw[Lc,List.countP_append,ih];simp only[Ji,List.countP_nil];omega
theorem g0l:∀ (n:Nat) (P:List UInt8->Bool),(t0A n).countP P=cw n P
 | 0,P=>by simp[t0A,cw]
 | n+1,P=>by rw[t0A,p0Q,g0l n,g0l n,<- m0L]
theorem j0X:∀ n,cw n (fun _=>true)=2 ^ n
 | 0=>rfl
 | n+1=>by rw[cw,j0X n,E9];omega
theorem c0s:∀ n,cw n (fun _=>false)=0
 | 0=>rfl
 | n+1=>by rw[cw,c0s n]
def b0G (N D K T:Nat)(P1 P0:List UInt8->Bool)(l:List UInt8):Bool:=
 (c0a N D K T l).1 && (if (c0a N D K T l).2.1=1 then P1 (l.drop (c0a N D K T l).2.2) else P0 (l.drop (c0a N D K T l).2.2))
def n0j {N D K T:Nat}{l:List UInt8}(h:sdB N D K T=true):c0a N D K T l=(true,sdV N D K T,0):=by
 unfold c0a;rw[J3 h]
def q0q {N D K T:Nat}{b:UInt8}{l:List UInt8}(h:sdB N D K T=false):c0a N D K T (b::l)=((c0a N D (2*K+(if b=49 then 1 else 0)) (2*T) l).1,(c0a N D (2*K+(if b=49 then 1 else 0)) (2*T) l).2.1,(c0a N D (2*K+(if b=49 then 1 else 0)) (2*T) l).2.2+1):=by
 rw[c0a,J2 (by simp[h])]
def t0S {N D K T:Nat}(h:sdB N D K T=false):c0a N D K T []=(false,0,0):=by
 rw[c0a,J2 (by simp[h])]
def i0L {N D K T:Nat}{P1 P0:List UInt8->Bool}{l:List UInt8}(h:sdB N D K T=true)(hv:sdV N D K T=1):b0G N D K T P1 P0 l=P1 l:=by
 unfold b0G;rw[n0j h];simp[hv]
def f0Y {N D K T:Nat}{P1 P0:List UInt8->Bool}{l:List UInt8}(h:sdB N D K T=true)(hv:sdV N D K T=0):b0G N D K T P1 P0 l=P0 l:=by
 unfold b0G;rw[n0j h];simp[hv]
def i0M {N D K T:Nat}{P1 P0:List UInt8->Bool}{b:UInt8}{l:List UInt8}(h:sdB N D K T=false):b0G N D K T P1 P0 (b::l)=b0G N D (2*K+(if b=49 then 1 else 0)) (2*T) P1 P0 l:=by
 unfold b0G;rw[q0q h];simp
def t0j {N D K T:Nat}{P1 P0:List UInt8->Bool}(h:sdB N D K T=false):b0G N D K T P1 P0 []=false:=by
 unfold b0G;rw[t0S h];rfl
structure OpenC (N D K T j x:Nat):Prop where
 eq:N*T=K*D+x
 pos:0<x
 lt:x<D
 at_:sdx N D j=(x,true)
theorem OpenC.undec {N D K T j x:Nat}(h:OpenC N D K T j x):sdB N D K T=false:=by
 obtain⟨h1,h2,h3,-⟩:=h;unfold sdB;rw[Ly,Ac,Ac];omega
def t0Q {N D K T x b:Nat}(h:N*T=K*D+x):N*(2*T)=2*(K*D)+2*x/\(2*K+b)*D=2*(K*D)+b*D:=by
 constructor
 .rw[Gk,h];omega
 .rw[Bo,A9]
theorem m0N {N D:Nat}{P1 P0:List UInt8->Bool}:∀ (n:Nat) {K T j x:Nat},OpenC N D K T j x->cw n (b0G N D K T P1 P0)=cvF (a0D N D) (fun m=>cw m P1) j n+cvF (a0i N D) (fun m=>cw m P0) j n
 | 0,K,T,j,x,h=>by rw[cw,t0j h.undec];rfl
 | n+1,K,T,j,x,h=>by
  have hu:=h.undec;obtain⟨h1,h2,h3,h4⟩:=h;have c0:cw n (fun l=>b0G N D K T P1 P0 (48::l))=cw n (b0G N D (2*K+0) (2*T) P1 P0):=a0E fun l _=>by rw[i0M hu];rfl
  have c1:cw n (fun l=>b0G N D K T P1 P0 (49::l))=cw n (b0G N D (2*K+1) (2*T) P1 P0):=a0E fun l _=>by rw[i0M hu];rfl
  rw[cw,c0,c1,cvF,cvF];have e1:=(t0Q (b:=0) h1).1;have e2:(2*K+0)*D=2*(K*D):=by rw[At,A9]
  have e3:(2*K+1)*D=2*(K*D)+D:=by rw[Bo,A9,Hn]
  have eo:a0D N D (j+1)=decide (D<=2*x):=by rw[a0D,h4];simp
  have ez:a0i N D (j+1)=decide (2*x<=D):=by rw[a0i,h4];simp
  rw[eo,ez];rcases Fk (2*x) D with hc | hc | hc
  ·-- a 0 leaves it open,a 1 gives 0
   have hs:sdx N D (j+1)=(2*x,true):=by rw[sdx,h4];simp;omega
   have ih:=m0N (N:=N) (D:=D) (P1:=P1) (P0:=P0) n (K:=2*K+0) (T:=2*T) (j:=j+1) (x:=2*x) ⟨by omega,by omega,hc,hs⟩;have hd:sdB N D (2*K+1) (2*T)=true:=by unfold sdB;rw[Av,H7,H7];left;omega
   have hv:sdV N D (2*K+1) (2*T)=0:=by unfold sdV;rw[J3 (by omega)]
   rw[ih,a0E (n:=n) (P:=b0G N D (2*K+1) (2*T) P1 P0) (Q:=P0) (fun l _=>f0Y hd hv),J2 (by simp;omega),J3 (by simp;omega)];omega
  ·-- both give a result
   have hs:(sdx N D (j+1)).2=false:=by rw[sdx,h4];simp[hc]
   have hd0:sdB N D (2*K+0) (2*T)=true:=by unfold sdB;rw[Av,H7,H7];right;omega
   have hv0:sdV N D (2*K+0) (2*T)=1:=by unfold sdV;rw[J2 (by omega)]
   have hd1:sdB N D (2*K+1) (2*T)=true:=by unfold sdB;rw[Av,H7,H7];left;omega
   have hv1:sdV N D (2*K+1) (2*T)=0:=by unfold sdV;rw[J3 (by omega)]
   rw[a0E (n:=n) (P:=b0G N D (2*K+0) (2*T) P1 P0) (Q:=P1) (fun l _=>i0L hd0 hv0),a0E (n:=n) (P:=b0G N D (2*K+1) (2*T) P1 P0) (Q:=P0) (fun l _=>f0Y hd1 hv1),J3 (by simp;omega),J3 (by simp;omega),f0z n (j+1) (fun i hi=>h0z hs i hi),f0z n (j+1) (fun i hi=>f0G hs i hi)]
   rfl
  ·-- a 1 leaves it open,a 0 gives 1
   have hs:sdx N D (j+1)=(2*x-D,true):=by
    rw[sdx,h4];show (if true=true then (if D<=2*x then (2*x-D,decide (2*x≠D)) else (2*x,true)) else (x,true))=_
    rw[J3 rfl,J3 (by omega),Z7 (by omega)]
   have ih:=m0N (N:=N) (D:=D) (P1:=P1) (P0:=P0) n (K:=2*K+1) (T:=2*T) (j:=j+1) (x:=2*x-D) ⟨by omega,by omega,by omega,hs⟩;have hd:sdB N D (2*K+0) (2*T)=true:=by unfold sdB;rw[Av,H7,H7];right;omega
   have hv:sdV N D (2*K+0) (2*T)=1:=by unfold sdV;rw[J2 (by omega)]
   rw[ih,a0E (n:=n) (P:=b0G N D (2*K+0) (2*T) P1 P0) (Q:=P1) (fun l _=>i0L hd hv),J3 (by simp;omega),J2 (by simp;omega)];omega
def e0i {N D:Nat}(h:N<D)(n:Nat)(P1 P0:List UInt8->Bool):cw n (b0G N D 0 1 P1 P0)=cvo (chi (a0D N D)) (fun m=>cw m P1) n+cvo (chi (a0i N D)) (fun m=>cw m P0) n:=by
 rw[t0c,t0c];have o0:a0D N D 0=false:=rfl;rw[o0,J2 (by simp)];by_cases h0:N=0
 .subst h0;have hs:(sdx 0 D 0).2=false:=by simp[sdx]
  have hd:sdB 0 D 0 1=true:=by simp[sdB]
  have hv:sdV 0 D 0 1=0:=by simp[sdV]
  rw[a0E (n:=n) (Q:=P0) (fun l _=>f0Y hd hv),show a0i 0 D 0=true from by simp[a0i],J3 rfl,f0z n 0 (fun i hi=>h0z hs i hi),f0z n 0 (fun i hi=>f0G hs i hi)];omega
 .have hz:a0i N D 0=false:=by simp[a0i,h0]
  rw[hz,J2 (by simp),m0N n (K:=0) (T:=1) (j:=0) (x:=N) ⟨by omega,by omega,h,by simp[sdx,h0]⟩];omega
end Go.Proofs.YtfkpfpobmobnbaaGreatDoor
namespace Go.Proofs
open Go.Shelf
def Tryz.lays145_ren:Go.Shelf.Ren:=⟨fun | 145=>249 | 220=>307 | 219=>336 | 217=>350 | 225=>351 | 224=>352 | 267=>353 | 266=>361 | 314=>362 | n=>n,fun | 9=>9 | 4=>4 | 59=>233 | 3=>3 | 5=>5 | 46=>174 | 146=>247 | 51=>224 | n=>n,fun | 1=>3 | n=>n⟩
theorem Tryz.lays145:Go.Proofs.Lays.n145 Tryz.prog Tryz.lays145_ren:={
 mixed:=by kernel_rfl
 f145:=qj Tryz.func249 (by kernel_rfl)
 f217:=qj Tryz.func350 (by kernel_rfl)
 f219:=qj Tryz.func336 (by kernel_rfl)
 f220:=qj Tryz.func307 (by kernel_rfl)
 f224:=qj Tryz.func352 (by kernel_rfl)
 f225:=qj Tryz.func351 (by kernel_rfl)
 f266:=qj Tryz.func361 (by kernel_rfl)
 f267:=qj Tryz.func353 (by kernel_rfl)
 f314:=qj Tryz.func362 (by kernel_rfl)
 t3:=H9
 a3:=Ff
 z3:=Ec
 v3:=Cn
 t4:=Bf
 a4:=Fg
 z4:=El
 v4:=Co
 t5:=Bx
 a5:=Gq
 z5:=Fr
 v5:=Do
 t9:=Ax
 a9:=Fh
 z9:=Em
 v9:=Cp
 t46:=Dj
 a46:=Gd
 z46:=Fp
 v46:=Dv
 t51:=Ed
 a51:=Gz
 z51:=Gh
 v51:=Ep
 t59:=Tryz.underlying233
 a59:=Tryz.isAgg233
 z59:=Tryz.sizeOf233
 v59:=Tryz.zeroValue233
 t146:=Tryz.underlying247
 a146:=Tryz.isAgg247
 z146:=Tryz.sizeOf247
 v146:=Tryz.zeroValue247
 g1:=by kernel_rfl }
theorem Tryz.strings_Cut (s sep:ByteArray)(m:Int)(w:World)(hs:s.size<4294967281)(hm:w.cell? ⟨3,0,none⟩=some (.int .i64 m)):
 Calls Tryz.prog 249 #[.string s,.string sep] w fun e w'=>e=.returned (.tuple #[.string ⟨(Lib.cut s.data.toList sep.data.toList).1.toArray⟩,.string ⟨(Lib.cut s.data.toList sep.data.toList).2.1.toArray⟩,.bool (Lib.cut s.data.toList sep.data.toList).2.2])/\∃ n,w'=w.drewN n:=Any.strings_Cut Tryz.lays145 s sep m w hs hm
end Go.Proofs
namespace Go.Proofs.YtfkpfpobmobnbaaGreatDoor
open Go.Proofs.Tryz Go.RowKit
open Go.Lib (decDigits nDigits)
section
open Go.Shelf
def c1S (w:World)(s:ByteArray)(hs:s.size<=100000000)(hL:Lay w):
 qb 249 #[.string s,.string ⟨#[47]⟩] w (.tuple #[.string (cW s),.string (cB s),.bool (cS s)]):=by
 obtain⟨m,hm⟩:=hL.max;refine (Tryz.strings_Cut s ⟨#[47]⟩ m w (by omega) hm).mono ?_;rintro e w' ⟨rfl,n,rfl⟩;exact⟨rfl,a0k br0 n⟩
structure Cuts (s W B D:ByteArray)(S M I fb:Bool):Prop where
 cut:∀ w,Lay w->Calls prog 249 #[.string s,.string ⟨#[47]⟩] w fun e w'=>e=.returned (.tuple #[.string W,.string B,.bool S])/\Below w.heap.size w w'
 int:∀ w,Calls prog 250 #[.string W] w fun e w'=>e=.returned (.tuple #[.bool M,.string D,.bool I])/\Below w.heap.size w w'
 form:∀ w,Calls prog 251 #[.string B] w fun e w'=>e=.returned (.bool fb)/\Below w.heap.size w w'
def t0f (s:ByteArray)(hs:s.size<=1000000):Cuts s (cW s) (cB s) (iD (cW s)) (cS s) (iM (cW s)) (iB (cW s)) (fB (cB s)):={
 cut:=fun w hL=>c1S w s (by omega) hL
 int:=fun w=>l0p w (cW s) (by have:=k0c s;omega)
 form:=fun w=>l0f w (cB s) (by have:=m0V s;omega) }
def Nq:=@Go.Proofs.Tryz.func190
def Ml:=@Go.Proofs.Tryz.ntmps190
def Fs:=@Go.Proofs.Tryz.results190
def b1J (w:World)(s W B D:ByteArray)(S M I fb:Bool)(HL:Hid (Lay w))(HC:Cuts s W B D S M I fb)
 (h:(I && (!S || (decide (D≠⟨#[48]⟩) && fb && decide (B≠⟨#[48]⟩) && decide (B≠⟨#[49]⟩))))=false):
 qb 190 #[.string s] w (.tuple #[.agg #[.bool false,.slice none 0 0,.slice none 0 0],.int .i64 3]):=by
 have key:(I=false)\/(I=true/\S=true/\(D=⟨#[48]⟩\/(¬ D=⟨#[48]⟩/\(fb=false\/(fb=true/\(B=⟨#[48]⟩\/(¬ B=⟨#[48]⟩/\B=⟨#[49]⟩))))))):=by
  by_cases h1:D=⟨#[48]⟩<;>by_cases h2:B=⟨#[48]⟩<;>by_cases h3:B=⟨#[49]⟩<;>cases I<;>cases S<;>cases fb<;>simp[h1,h2,h3]at h |-
 have HK:=hid HC;clear HC h;obtain⟨t0,t1⟩:=zu (Blk.new w #[.bool false,.slice none 0 0,.slice none 0 0] 126) ((J4 w.heap.size w).alloc nr (.cells #[.bool false,.slice none 0 0,.slice none 0 0] 126));have t2:=hid (HL.out.call t1.out);rcases key with rfl | ⟨rfl,rfl,rfl | ⟨h1,rfl | ⟨rfl,rfl | ⟨h2,rfl⟩⟩⟩⟩
 .cases S
  all_goals
   go_enter Nq,Ml
   go_wp2_with (first
    | (go_at_call 249;refine nj (HK.out.cut _ t2.out) fun w1 hb1=>?_
       have x1:=hid (t0.out.call hb1);have y1:=qx t1 hb1;clear hb1)
    | (go_at_call 250;refine nj (HK.out.int _) fun w2 hb2=>?_
       have x2:=hid (x1.out.call hb2);have y2:=qx y1 hb2;clear hb2;have d0:=x2.out.cell 0;have d1:=x2.out.cell 1;have d2:=x2.out.cell 2;obtain⟨e0,e1,e2⟩:=qq x2.out;simp at d0 d1 d2)
    | (go_at_call 251;refine nj (HK.out.form _) fun w3 hb3=>?_
       have x3:=hid (x2.out.call hb3);have y3:=qx y2 hb3;clear hb3 d0 d1 d2 e0 e1 e2;have d0:=x3.out.cell 0;have d1:=x3.out.cell 1;have d2:=x3.out.cell 2;obtain⟨e0,e1,e2⟩:=qq x3.out;simp at d0 d1 d2)
    | fail)
   first
    | (obtain⟨s1,s2⟩:=c0C x3.out false none none 0 0 0 0
       obtain⟨f0,f1,f2⟩:=qz s2;refine C7 (v:=.tuple #[.agg #[.bool false,.slice none 0 0,.slice none 0 0],.int .i64 3]) (by simp[results,Fs,go_sem,f0,f1,f2]) rfl ⟨rfl,?_⟩;exact ((y3.out.setCell nr _).setCell nr _).setCell nr _)
    | (obtain⟨s1,s2⟩:=c0C x2.out false none none 0 0 0 0
       obtain⟨f0,f1,f2⟩:=qz s2;refine C7 (v:=.tuple #[.agg #[.bool false,.slice none 0 0,.slice none 0 0],.int .i64 3]) (by simp[results,Fs,go_sem,f0,f1,f2]) rfl ⟨rfl,?_⟩;exact ((y2.out.setCell nr _).setCell nr _).setCell nr _)
 all_goals (try have i1:=a0O (l:=[48]) h1)
 all_goals (try have i2:=a0O (l:=[48]) h2)
 all_goals
  go_enter Nq,Ml
  go_wp2_with (first
   | (go_at_call 249;refine nj (HK.out.cut _ t2.out) fun w1 hb1=>?_
      have x1:=hid (t0.out.call hb1);have y1:=qx t1 hb1;clear hb1)
   | (go_at_call 250;refine nj (HK.out.int _) fun w2 hb2=>?_
      have x2:=hid (x1.out.call hb2);have y2:=qx y1 hb2;clear hb2;have d0:=x2.out.cell 0;have d1:=x2.out.cell 1;have d2:=x2.out.cell 2;obtain⟨e0,e1,e2⟩:=qq x2.out;simp at d0 d1 d2)
   | (go_at_call 251;refine nj (HK.out.form _) fun w3 hb3=>?_
      have x3:=hid (x2.out.call hb3);have y3:=qx y2 hb3;clear hb3 d0 d1 d2 e0 e1 e2;have d0:=x3.out.cell 0;have d1:=x3.out.cell 1;have d2:=x3.out.cell 2;obtain⟨e0,e1,e2⟩:=qq x3.out;simp at d0 d1 d2)
   | fail)
  first
   | (obtain⟨s1,s2⟩:=c0C x3.out false none none 0 0 0 0
      obtain⟨f0,f1,f2⟩:=qz s2;refine C7 (v:=.tuple #[.agg #[.bool false,.slice none 0 0,.slice none 0 0],.int .i64 3]) (by simp[results,Fs,go_sem,f0,f1,f2]) rfl ⟨rfl,?_⟩;exact ((y3.out.setCell nr _).setCell nr _).setCell nr _)
   | (obtain⟨s1,s2⟩:=c0C x2.out false none none 0 0 0 0
      obtain⟨f0,f1,f2⟩:=qz s2;refine C7 (v:=.tuple #[.agg #[.bool false,.slice none 0 0,.slice none 0 0],.int .i64 3]) (by simp[results,Fs,go_sem,f0,f1,f2]) rfl ⟨rfl,?_⟩;exact ((y2.out.setCell nr _).setCell nr _).setCell nr _)
def y0V (w:World)(s W B D:ByteArray)(S M fb:Bool)(HL:Hid (Lay w))(HC:Cuts s W B D S M true fb)
 (h:S=false\/(S=true/\¬ D=⟨#[48]⟩/\¬ B=⟨#[48]⟩/\¬ B=⟨#[49]⟩/\fb=true)) (hl:4000<D.size\/(¬ 4000<D.size/\S=true/\4000<B.size)):
 qb 190 #[.string s] w (.tuple #[.agg #[.bool false,.slice none 0 0,.slice none 0 0],.int .i64 5]):=by
 have HK:=hid HC;clear HC;obtain⟨t0,t1⟩:=zu (Blk.new w #[.bool false,.slice none 0 0,.slice none 0 0] 126) ((J4 w.heap.size w).alloc nr (.cells #[.bool false,.slice none 0 0,.slice none 0 0] 126));have t2:=hid (HL.out.call t1.out);rcases h with rfl | ⟨rfl,h1,h2,h3,rfl⟩
 focus
  have q0:decide ((4000:Int)<(D.size:Int))=true:=by
   rcases hl with hl | ⟨_,hl,_⟩
   .simp;omega
   .cases hl
  clear hl
 rotate_left
 focus
  have i1:=a0O (l:=[48]) h1;have i2:=a0O (l:=[48]) h2;have i3:=a0O (l:=[49]) h3;rcases hl with hl | ⟨hl,-,hl2⟩
  focus
   have q0:decide ((4000:Int)<(D.size:Int))=true:=by simp;omega
   clear hl
  rotate_left
  focus
   have q0:decide ((4000:Int)<(D.size:Int))=false:=by simp;omega
   have q1:decide ((4000:Int)<(B.size:Int))=true:=by simp;omega
   clear hl hl2
 all_goals
  go_enter Nq,Ml
  go_wp2_with (first
   | (go_at_call 249;refine nj (HK.out.cut _ t2.out) fun w1 hb1=>?_
      have x1:=hid (t0.out.call hb1);have y1:=qx t1 hb1;clear hb1)
   | (go_at_call 250;refine nj (HK.out.int _) fun w2 hb2=>?_
      have x2:=hid (x1.out.call hb2);have y2:=qx y1 hb2;clear hb2;have d0:=x2.out.cell 0;have d1:=x2.out.cell 1;have d2:=x2.out.cell 2;obtain⟨e0,e1,e2⟩:=qq x2.out;simp at d0 d1 d2)
   | (go_at_call 251;refine nj (HK.out.form _) fun w3 hb3=>?_
      have x3:=hid (x2.out.call hb3);have y3:=qx y2 hb3;clear hb3 d0 d1 d2 e0 e1 e2;have d0:=x3.out.cell 0;have d1:=x3.out.cell 1;have d2:=x3.out.cell 2;obtain⟨e0,e1,e2⟩:=qq x3.out;simp at d0 d1 d2)
   | fail)
  first
   | (obtain⟨s1,s2⟩:=c0C x3.out false none none 0 0 0 0
      obtain⟨f0,f1,f2⟩:=qz s2;refine C7 (v:=.tuple #[.agg #[.bool false,.slice none 0 0,.slice none 0 0],.int .i64 5]) (by simp[results,Fs,go_sem,f0,f1,f2]) rfl ⟨rfl,?_⟩;exact ((y3.out.setCell nr _).setCell nr _).setCell nr _)
   | (obtain⟨s1,s2⟩:=c0C x2.out false none none 0 0 0 0
      obtain⟨f0,f1,f2⟩:=qz s2;refine C7 (v:=.tuple #[.agg #[.bool false,.slice none 0 0,.slice none 0 0],.int .i64 5]) (by simp[results,Fs,go_sem,f0,f1,f2]) rfl ⟨rfl,?_⟩;exact ((y2.out.setCell nr _).setCell nr _).setCell nr _)
def f0B {s:ByteArray}(h:allDig s.data.toList)(hs:¬ 4000<s.size):(limbs (bN s)).length<=1000000:=by
 refine j0W h ?_;have:s.data.toList.length=s.size:=Bh;omega
def e0b {s:ByteArray}(h:cS s=false):qD s=⟨#[49]⟩:=by simp[qD,h]
def c0j {s:ByteArray}(h:cS s=true):qD s=cB s:=by simp[qD,h]
def IsF (w:World)(v:Value)(m:Bool)(n d:Nat):Prop:=∃ N D,v=.agg #[.bool m,N,D]/\IsN .u64 w N n/\IsN .u64 w D d
def RetF (x:Int)(m:Bool)(n d:Nat)(e:Ending)(w':World):Prop:=∃ v,e=.returned (.tuple #[v,.int .i64 x])/\(x=0->IsF w' v m n d)/\(x≠0->v=.agg #[.bool false,.slice none 0 0,.slice none 0 0])
theorem RetF.err {x:Int}{m:Bool}{n d:Nat}{w':World}(h:x≠0):RetF x m n d (.returned (.tuple #[.agg #[.bool false,.slice none 0 0,.slice none 0 0],.int .i64 x])) w':=⟨_,rfl,fun e=>absurd e h,fun _=>rfl⟩
def y0W (w:World)(s W B D:ByteArray)(M:Bool)(HL:Hid (Lay w))(HC:Cuts s W B D true M true true)
 (h1:¬ D=⟨#[48]⟩) (h2:¬ B=⟨#[48]⟩) (h3:¬ B=⟨#[49]⟩) (hl1:¬ 4000<D.size) (hl2:¬ 4000<B.size) (hd1:allDig D.data.toList) (hd2:allDig B.data.toList):
 Calls prog 190 #[.string s] w fun e w'=>RetF (if Nat.gcd (bN D) (bN B)=1 then 0 else 3) M (bN D) (bN B) e w'/\Below w.heap.size w w':=by
 obtain⟨xc,hxc⟩:∃ x:Int,(if Nat.gcd (bN D) (bN B)=1 then 0 else 3)=x:=⟨_,rfl⟩;rw[hxc];have HXC:=hid hxc;clear hxc;have HK:=hid HC;clear HC;obtain⟨t0,t1⟩:=zu (Blk.new w #[.bool false,.slice none 0 0,.slice none 0 0] 126) ((J4 w.heap.size w).alloc nr (.cells #[.bool false,.slice none 0 0,.slice none 0 0] 126));have t2:=hid (HL.out.call t1.out);have i1:=a0O (l:=[48]) h1;have i2:=a0O (l:=[48]) h2;have i3:=a0O (l:=[49]) h3;have q0:decide ((4000:Int)<(D.size:Int))=false:=by simp;omega
 have q1:decide ((4000:Int)<(B.size:Int))=false:=by simp;omega
 obtain⟨L1,L2⟩:=zu (f0B hd1 hl1) (f0B hd2 hl2);have P1:=fun W=>hid (c0y W D hd1 (by omega))
 have P2:=fun W=>hid (c0y W B hd2 (by omega))
 clear hd1 hd2 h1 h2 h3 hl1 hl2;go_enter Nq,Ml
 go_wp2_with (first
  | (go_at_call 249;refine nj (HK.out.cut _ t2.out) fun w1 hb1=>?_
     have x1:=hid (t0.out.call hb1);have y1:=qx t1 hb1;clear hb1)
  | (go_at_call 250;refine nj (HK.out.int _) fun w2 hb2=>?_
     have x2:=hid (x1.out.call hb2);have y2:=qx y1 hb2;clear hb2)
  | (go_at_call 251;refine nj (HK.out.form _) fun w3 hb3=>?_
     have x3:=hid (x2.out.call hb3);have y3:=qx y2 hb3;clear hb3)
  | fail)
 refine nu (P1 _) fun v4 w4 hv4 hb4=>?_;have x4:=hid (x3.out.call hb4);have y4:=qx y3 hb4;have N4:=hid hv4;clear hb4 hv4;obtain⟨a4,c4,rfl,_⟩:=N4.out.openI;obtain⟨k1,hk1⟩:=gn ((limbs (dv D.data.toList)).length);rw[hk1]at N4 |-;clear P1;go_wp2_with fail;refine nu (P2 _) fun v5 w5 hv5 hb5=>?_;have x5:=hid (x4.out.call hb5);have y5:=qx y4 hb5;obtain⟨N5,D5⟩:=zu (N4.out.call hb5) hv5;clear hb5 hv5;obtain⟨a5,c5,rfl,_⟩:=D5.out.openI;obtain⟨k2,hk2⟩:=gn ((limbs (dv B.data.toList)).length);rw[hk2]at D5 |-;clear P2;go_wp2_with fail;obtain⟨z5,b5⟩:=zu (Blk.new w5 #[.bool M,.slice a4 k1 c4,.slice a5 k2 c5] 126) ((J4 w5.heap.size w5).alloc nr (.cells #[.bool M,.slice a4 k1 c4,.slice a5 k2 c5] 126));refine ng (b1s _ _ _ _ _ (N5.out.call b5.out) (D5.out.call b5.out) L1.out L2.out) fun v6 w6 hv6 hb6=>?_;obtain⟨z6,x6,y6,N6,D6,G6⟩:=zf (z5.out.call hb6) ((x5.out.call b5.out).call hb6) (a0a (a0a y5.out b5.out) hb6) ((N5.out.call b5.out).call hb6) ((D5.out.call b5.out).call hb6) hv6;clear hb6 hv6;obtain⟨a6,c6,rfl,_⟩:=G6.out.openI;go_wp2_with fail;refine zv (m0z _ _ _ G6.out) ?_;by_cases hG:Nat.gcd (bN D) (bN B)=1
 .have hO:isO (Nat.gcd (dv D.data.toList) (dv B.data.toList))=true:=e0C.2 hG;have X0:=hid (show xc=0 from by rw[<- HXC.out,J3 hG]);rw[hO];obtain⟨d0,d1,d2⟩:=qz x6.out;obtain⟨e0,e1,e2⟩:=qq x6.out;obtain⟨g0,g1,g2⟩:=qz z6.out;clear hO;clear hG;go_wp2_with fail;obtain⟨s1,s2⟩:=c0C x6.out M a4 a5 k1 c4 k2 c5;obtain⟨f0,f1,f2⟩:=qz s2;refine C7 (v:=.tuple #[.agg #[.bool M,.slice a4 k1 c4,.slice a5 k2 c5],.int .i64 0]) (by simp[results,Fs,go_sem,f0,f1,f2]) rfl ⟨by rw[X0.out];exact⟨_,rfl,fun _=>⟨_,_,rfl,s1 _ _ _ N6.out,s1 _ _ _ D6.out⟩,fun h=>absurd rfl h⟩,?_⟩;exact ((y6.out.setCell nr _).setCell nr _).setCell nr _
 .have hO:isO (Nat.gcd (dv D.data.toList) (dv B.data.toList))=false:=by
   rw[Gm];exact fun h=>hG (e0C.1 h)
  have X0:=hid (show xc=3 from by rw[<- HXC.out,J2 hG]);rw[hO];obtain⟨d0,d1,d2⟩:=qz x6.out;obtain⟨e0,e1,e2⟩:=qq x6.out;clear hO;clear hG;go_wp2_with fail;obtain⟨s1,s2⟩:=c0C x6.out false none none 0 0 0 0;obtain⟨f0,f1,f2⟩:=qz s2;refine C7 (v:=.tuple #[.agg #[.bool false,.slice none 0 0,.slice none 0 0],.int .i64 3]) (by simp[results,Fs,go_sem,f0,f1,f2]) rfl ⟨by rw[X0.out];exact RetF.err (by decide),?_⟩;exact ((y6.out.setCell nr _).setCell nr _).setCell nr _
def b1I (w:World)(s W B D:ByteArray)(M fb:Bool)(HL:Hid (Lay w))(HC:Cuts s W B D false M true fb)
 (hl1:¬ 4000<D.size) (hd1:allDig D.data.toList):
 Calls prog 190 #[.string s] w fun e w'=>RetF 0 M (bN D) 1 e w'/\Below w.heap.size w w':=by
 have HK:=hid HC;clear HC;obtain⟨t0,t1⟩:=zu (Blk.new w #[.bool false,.slice none 0 0,.slice none 0 0] 126) ((J4 w.heap.size w).alloc nr (.cells #[.bool false,.slice none 0 0,.slice none 0 0] 126));have t2:=hid (HL.out.call t1.out);have q0:decide ((4000:Int)<(D.size:Int))=false:=by simp;omega
 have P1:=fun W=>hid (c0y W D hd1 (by omega))
 have P2:=fun W=>hid (c0y W ⟨#[49]⟩ (by intro b hb;simp at hb;subst hb;rfl) (Oo (K5 _)))
 clear hd1 hl1;go_enter Nq,Ml
 go_wp2_with (first
  | (go_at_call 249;refine nj (HK.out.cut _ t2.out) fun w1 hb1=>?_
     have x1:=hid (t0.out.call hb1);have y1:=qx t1 hb1;clear hb1)
  | (go_at_call 250;refine nj (HK.out.int _) fun w2 hb2=>?_
     have x2:=hid (x1.out.call hb2);have y2:=qx y1 hb2;clear hb2)
  | fail)
 refine nu (P1 _) fun v4 w4 hv4 hb4=>?_;have x4:=hid (x2.out.call hb4);have y4:=qx y2 hb4;have N4:=hid hv4;clear hb4 hv4;obtain⟨a4,c4,rfl,_⟩:=N4.out.openI;obtain⟨k1,hk1⟩:=gn ((limbs (dv D.data.toList)).length);rw[hk1]at N4 |-;clear P1;go_wp2_with fail;refine nu (P2 _) fun v5 w5 hv5 hb5=>?_;have x5:=hid (x4.out.call hb5);have y5:=qx y4 hb5;obtain⟨N5,D5⟩:=zu (N4.out.call hb5) (show IsN .u64 w5 v5 1 from hv5);clear hb5 hv5;obtain⟨a5,c5,rfl,_⟩:=D5.out.openI;obtain⟨k2,hk2⟩:=gn ((limbs 1).length);rw[hk2]at D5 |-;clear P2;obtain⟨z6,b5⟩:=zu (Blk.new w5 #[.bool M,.slice a4 k1 c4,.slice a5 k2 c5] 126) ((J4 w5.heap.size w5).alloc nr (.cells #[.bool M,.slice a4 k1 c4,.slice a5 k2 c5] 126));have x6:=hid (x5.out.call b5.out);have y6:=qx y5 b5.out;obtain⟨N6,D6⟩:=zu (N5.out.call b5.out) (D5.out.call b5.out);obtain⟨d0,d1,d2⟩:=qz x6.out;obtain⟨e0,e1,e2⟩:=qq x6.out;obtain⟨g0,g1,g2⟩:=qz z6.out;go_wp2_with fail;obtain⟨s1,s2⟩:=c0C x6.out M a4 a5 k1 c4 k2 c5;obtain⟨f0,f1,f2⟩:=qz s2;refine C7 (v:=.tuple #[.agg #[.bool M,.slice a4 k1 c4,.slice a5 k2 c5],.int .i64 0]) (by simp[results,Fs,go_sem,f0,f1,f2]) rfl ⟨⟨_,rfl,fun _=>⟨_,_,rfl,s1 _ _ _ N6.out,s1 _ _ _ D6.out⟩,fun h=>absurd rfl h⟩,?_⟩;exact ((y6.out.setCell nr _).setCell nr _).setCell nr _
def j0R (w:World)(s:ByteArray)(hs:s.size<=1000000)(hL:Lay w):
 Calls prog 190 #[.string s] w fun e w'=>RetF (qE s) (iM (cW s)) (bN (iD (cW s))) (bN (qD s)) e w'/\Below w.heap.size w w':=by
 have HC:=t0f s hs;have HL:=hid hL;by_cases hq:qB s=true
 .have hi:=c0o hq;rw[hi]at HC;have hdD:=f0u (d0q hi);have hcS:cS s=false\/(cS s=true/\¬ iD (cW s)=⟨#[48]⟩/\¬ cB s=⟨#[48]⟩/\¬ cB s=⟨#[49]⟩/\fB (cB s)=true):=by
   have hq':=hq;unfold qB at hq';simp only[Aa,Av,By,H7]at hq';rcases hq'.2 with h | h
   .exact .inl h
   .cases hc:cS s
    .exact .inl rfl
    .exact .inr ⟨rfl,h.1.1.1,h.1.2,h.2,h.1.1.2⟩
  by_cases hl:qL s=true
  .have e:qE s=5:=by simp[qE,hq,hl]
   rw[e];unfold qL at hl;simp only[Av,H7]at hl;refine (y0V w s _ _ _ _ _ _ HL HC hcS ?_).mono ?_
   .by_cases h4:4000<(iD (cW s)).size
    .exact .inl h4
    .refine .inr ⟨h4,?_⟩;rcases hcS with hc | ⟨hc,-⟩
     .rw[e0b hc]at hl;exact absurd (hl.resolve_left h4) (by decide)
     .rw[c0j hc]at hl;exact⟨hc,hl.resolve_left h4⟩
   .rintro e w' ⟨rfl,hb⟩;exact⟨RetF.err (by decide),hb⟩
  .have hl':qL s=false:=by simpa using hl
   have hl1:¬ 4000<(iD (cW s)).size/\¬ 4000<(qD s).size:=by
    unfold qL at hl';simpa using hl'
   rcases hcS with hc | ⟨hc,h1,h2,h3,h4⟩
   .rw[hc]at HC;have e:qE s=0:=by simp[qE,hq,hl',qG,hc]
    rw[e,e0b hc];exact b1I w s _ _ _ _ _ HL HC hl1.1 hdD
   .rw[hc,h4]at HC;have hl2:=hl1.2;rw[c0j hc]at hl2;have e:qE s=if Nat.gcd (bN (iD (cW s))) (bN (cB s))=1 then 0 else 3:=by
     simp only[qE,hq,hl',qG,hc,c0j hc];by_cases hg:Nat.gcd (bN (iD (cW s))) (bN (cB s))=1<;>simp[hg]
    rw[e,c0j hc];exact y0W w s _ _ _ _ HL HC h1 h2 h3 hl1.1 hl2 hdD (f0u h4)
 .have hq':qB s=false:=by simpa using hq
  have e:qE s=3:=by simp[qE,hq']
  rw[e];refine nj (b1J w s _ _ _ _ _ _ _ HL HC hq') fun w' hb=>?_;exact⟨RetF.err (by decide),hb⟩
theorem RetF.parts {x:Int}{m:Bool}{n d:Nat}{e:Ending}{w':World}(h:RetF x m n d e w'):∃ (b:Bool) (a1 a2:Option Addr) (n1 c1 n2 c2:Nat),e=.returned (.tuple #[.agg #[.bool b,.slice a1 n1 c1,.slice a2 n2 c2],.int .i64 x]):=by
 obtain⟨v,rfl,h1,h2⟩:=h;by_cases hx:x=0
 .obtain⟨N,D,rfl,hN,hD⟩:=h1 hx;obtain⟨a1,c1,rfl,_⟩:=hN.openI;obtain⟨a2,c2,rfl,_⟩:=hD.openI;exact⟨_,_,_,_,_,_,_,rfl⟩
 .rw[h2 hx];exact⟨_,_,_,_,_,_,_,rfl⟩
def y0c (w:World)(s:ByteArray)(hs:s.size<=1000000)(hL:Lay w):
 qb 323 #[.string s] w (.int .i64 (qE s)):=by
 have HC:=hid (j0R w s hs hL);go_enter func323,ntmps323;go_wp2_with fail;refine HC.out.mono ?_;rintro e w1 ⟨hr,hb⟩;obtain⟨b,a1,a2,n1,c1,n2,c2,rfl⟩:=hr.parts;have HB:=hid hb;clear hr hb;go_wp2_with fail;go_ret
 exact⟨rfl,HB.out.alloc HB.out.size _⟩
def pW (s:ByteArray):ByteArray:=if qE s=0 then cW s else ⟨#[]⟩
def pD (s:ByteArray):ByteArray:=if qE s=0 then qD s else ⟨#[]⟩
def r0r (w:World)(s:ByteArray)(hs:s.size<=1000000)(hL:Lay w):
 qb 273 #[.string s] w (.tuple #[.string (pW s),.string (pD s),.int .i64 (qE s)]):=by
 obtain⟨HC,HU,HL⟩:=zg (y0c w s hs hL) (t0f s hs) hL;clear hL;by_cases he:qE s=0
 .have e1:pW s=cW s:=J3 he;have e2:pD s=qD s:=J3 he;rw[e1,e2,he];rw[he]at HC;clear e1 e2;obtain⟨W,hW⟩:=gn (cW s);obtain⟨B,hB⟩:=gn (cB s);rw[hW,hB]at HU;rw[hW];cases hc:cS s
  focus
   rw[e0b hc]
  rotate_left
  focus
   rw[c0j hc,hB]
  all_goals
   rw[hc]at HU;clear hW hB hc he;go_enter func273,ntmps273
   go_wp2_with (first
    | (go_at_call 323;refine ny HC fun w1 hb1=>?_
       have y1:=hid hb1;clear hb1)
    | (go_at_call 249;refine nj (HU.out.cut _ (HL.out.call y1.out)) fun w2 hb2=>?_
       have y2:=qx y1 hb2;clear hb2)
    | fail)
   go_ret3
   exact⟨rfl,y2.out⟩
 .have e1:pW s=⟨#[]⟩:=J2 he;have e2:pD s=⟨#[]⟩:=J2 he;rw[e1,e2];have q0:(qE s != 0)=true:=by simpa using he
  obtain⟨x,hx⟩:=gn (qE s);rw[hx]at HC q0 |-;clear hx he e1 e2;go_enter func273,ntmps273
  go_wp2_with (first
   | (go_at_call 323;refine ny HC fun w1 hb1=>?_
      have y1:=hid hb1;clear hb1)
   | fail)
  go_ret3
  exact⟨rfl,y1.out⟩
def t0s (w:World)(s:ByteArray)(hs:s.size<=100000000):
 qb 343 #[.string s] w (.int .i64 (c0D s)):=by
 have HC:=hid (m0Z w s hs);by_cases hb:o0C s=true
 .have e0:k0i s=0:=J3 hb;rw[e0]at HC;by_cases hl:256<s.size
  .have e1:c0D s=4:=by rw[c0D,J3 hb,J3 hl]
   have q0:decide ((256:Int)<(s.size:Int))=true:=by simp;omega
   rw[e1];clear hb hl e0 e1;go_enter func343,ntmps343;go_wp2_with fail;refine ny HC fun w1 hb1=>?_;go_wp2_with fail;go_ret
   exact⟨rfl,hb1⟩
  .have e1:c0D s=0:=by rw[c0D,J3 hb,J2 hl]
   have q0:decide ((256:Int)<(s.size:Int))=false:=by simp;omega
   rw[e1];clear hb hl e0 e1;go_enter func343,ntmps343;go_wp2_with fail;refine ny HC fun w1 hb1=>?_;go_wp2_with fail;go_ret
   exact⟨rfl,hb1⟩
 .have e0:k0i s=3:=J2 hb;have e1:c0D s=3:=J2 hb;rw[e0]at HC;rw[e1];clear hb e0 e1;go_enter func343,ntmps343;go_wp2_with fail;refine ny HC fun w1 hb1=>?_;go_wp2_with fail;go_ret
  exact⟨rfl,hb1⟩
def t0r (w:World)(s t:ByteArray)(hs:s.size<=1000000)(ht:t.size<=1000000)(hL:Lay w):
 qb 359 #[.string s,.string t] w (.string (w0D (· + ·) s t)):=by
 have P:=hid (b1k w s t hs ht hL);go_enter func359,ntmps359;go_wp2_with fail;refine ny P fun w1 hb1=>?_;go_wp2_with fail;go_ret
 exact⟨rfl,hb1⟩
def t0q (w:World)(s t:ByteArray)(hs:s.size<=1000000)(ht:t.size<=1000000)(hL:Lay w):
 qb 358 #[.string s,.string t] w (.string (w0D (· * ·) s t)):=by
 have P:=hid (b1i w s t hs ht hL);go_enter func358,ntmps358;go_wp2_with fail;refine ny P fun w1 hb1=>?_;go_wp2_with fail;go_ret
 exact⟨rfl,hb1⟩
def b1z (w:World)(s t:ByteArray)(hs:s.size<=1000000)(ht:t.size<=1000000)(hL:Lay w):
 qb 211 #[.string s,.string t] w (.string (w0D (· + ·) s t)):=by
 have P:=hid (b1k w s t hs ht hL);go_enter func211,ntmps211;go_wp2_with fail;refine ny P fun w1 hb1=>?_;go_wp2_with fail;go_ret
 exact⟨rfl,hb1⟩
def y0O (w:World)(s t:ByteArray)(hs:s.size<=1000000)(ht:t.size<=1000000)(hL:Lay w):
 qb 212 #[.string s,.string t] w (.string (w0D (· * ·) s t)):=by
 have P:=hid (b1i w s t hs ht hL);go_enter func212,ntmps212;go_wp2_with fail;refine ny P fun w1 hb1=>?_;go_wp2_with fail;go_ret
 exact⟨rfl,hb1⟩
def r0s {s W:ByteArray}(h:qE s=0)(hW:cW s=W):∃ h0:0<W.size,((W[0].toNat:Int)==45)=iM W:=by
 subst hW;have h1:=(j0s h).1;have h2:=f0u (d0q (c0o h1));have h3:=(a0W.1 (d0q (c0o h1))).1;obtain⟨l,hl⟩:=gn ((cW s).data.toList);have e:cW s=⟨⟨l⟩⟩:=by
  apply Kc
  rw[<- hl]
 rw[e]at h2 h3 |-;cases l with
 | nil=>exact absurd rfl h3
 | cons b r=>
  refine⟨Ev _,?_⟩;have e2:(ByteArray.mk ⟨b::r⟩)[0]'(Ev _)=b:=rfl;have e3:iM ⟨⟨b::r⟩⟩=((45:UInt8)==b):=by
   simp[iM,Lib.hasPrefix,List.isPrefixOf]
  rw[e3];show ((((ByteArray.mk ⟨b::r⟩)[0]'(Ev _)).toNat:Int)==45)=_
  rw[e2,Bk,Fi,Fi]
  constructor
  .intro h;apply Fa.1
   simp;omega
  .intro h;rw[<- h]
   rfl
def cPE (s:ByteArray):Int:=if qE s≠0 then qE s else if iM (cW s)=true\/0<l0z (cW s).data.toList (qD s).data.toList then 2 else if 1000<(cW s).size\/1000<(qD s).size then 5 else 0
def z0w (w:World)(s:ByteArray)(hs:s.size<=100000)(hL:Lay w):
 qb 342 #[.string s] w (.tuple #[.string (if cPE s=0 then cW s else ⟨#[]⟩),.string (if cPE s=0 then qD s else ⟨#[]⟩),.int .i64 (cPE s)]):=by
 have HC:=hid (r0r w s (by omega) hL);have z1:=k0c s;have z2:=r0t s;have HM:=fun V=>hid (r0S V (cW s) (qD s) (by omega) (by omega))
 by_cases he:qE s=0
 focus
  have e1:pW s=cW s:=J3 he;have e2:pD s=qD s:=J3 he;rw[e1,e2,he]at HC;have HE:cPE s=if iM (cW s)=true\/0<l0z (cW s).data.toList (qD s).data.toList then 2 else if 1000<(cW s).size\/1000<(qD s).size then 5 else 0:=by
   unfold cPE;rw[J2 (fun h=>h he)]
  rw[HE];clear HE e1 e2;obtain⟨D,hD⟩:=gn (qD s);obtain⟨W,hW⟩:=gn (cW s);obtain⟨hw0,hiM⟩:=r0s he hW;clear he;obtain⟨m,hm⟩:=gn (iM W);obtain⟨c,hc⟩:=gn (l0z W.data.toList D.data.toList);rw[hD,hW]at HC HM;rw[hm]at hiM;rw[hc]at HM;rw[hD,hW,hm,hc];clear hD hW hm hc z1 z2;rcases m with _ | _
  .by_cases hc2:0<c
   focus
    have q0:decide ((0:Int)<c)=true:=by simp;omega
    simp only[hc2,or_true,Ew,show ¬ (2:Int)=0 by decide,Eh];clear hc2
   rotate_left
   focus
    have q0:decide ((0:Int)<c)=false:=by simp;omega
    simp only[hc2,Bn,or_self,Eh];clear hc2;by_cases hl1:1000<W.size
    focus
     have q1:decide ((1000:Int)<(W.size:Int))=true:=by simp;omega
     simp only[hl1,true_or,Ew,show ¬ (5:Int)=0 by decide,Eh];clear hl1
    rotate_left
    focus
     have q1:decide ((1000:Int)<(W.size:Int))=false:=by simp;omega
     by_cases hl2:1000<D.size
     focus
      have q2:decide ((1000:Int)<(D.size:Int))=true:=by simp;omega
      simp only[hl2,or_true,Ew,show ¬ (5:Int)=0 by decide,Eh];clear hl1 hl2
     rotate_left
     focus
      have q2:decide ((1000:Int)<(D.size:Int))=false:=by simp;omega
      simp only[hl1,hl2,or_self,Eh,Ew];clear hl1 hl2
   all_goals
    go_enter func342,ntmps342;go_wp2_with fail;refine nz HC fun w1 y1=>?_;go_wp2_with fail;refine nw (HM _) y1 fun w2 y2=>?_;go_wp2_with fail
    go_ret3
    exact⟨rfl,y2.out⟩
  focus
   simp only[true_or,Ew,show ¬ (2:Int)=0 by decide,Eh]
 rotate_left
 focus
  have e1:pW s=⟨#[]⟩:=J2 he;have e2:pD s=⟨#[]⟩:=J2 he;have e3:cPE s=qE s:=by unfold cPE;rw[J3 he]
  rw[e1,e2]at HC;rw[e3,J2 he,J2 he];obtain⟨x,hx⟩:=gn (qE s);rw[hx]at HC he |-;have q0:(x==0)=false:=by simpa using he
  have q1:(x != 0)=true:=by simpa using he
  clear e1 e2 e3 hx z1 z2 HM
 all_goals
  go_enter func342,ntmps342;go_wp2_with fail;refine nz HC fun w1 y1=>?_;go_wp2_with fail
  go_ret3
  exact⟨rfl,y1.out⟩
def gPE (s:ByteArray):Int:=if qE s≠0 then qE s else if iM (cW s)=true\/0<=l0z (cW s).data.toList (qD s).data.toList then 2 else if 1000<(cW s).size\/1000<(qD s).size then 5 else 0
def d0L (w:World)(s:ByteArray)(hs:s.size<=100000)(hL:Lay w):
 qb 209 #[.string s] w (.tuple #[.string (if gPE s=0 then cW s else ⟨#[]⟩),.string (if gPE s=0 then qD s else ⟨#[]⟩),.int .i64 (gPE s)]):=by
 have HC:=hid (r0r w s (by omega) hL);have z1:=k0c s;have z2:=r0t s;have HM:=fun V=>hid (r0S V (cW s) (qD s) (by omega) (by omega))
 by_cases he:qE s=0
 focus
  have e1:pW s=cW s:=J3 he;have e2:pD s=qD s:=J3 he;rw[e1,e2,he]at HC;have HE:gPE s=if iM (cW s)=true\/0<=l0z (cW s).data.toList (qD s).data.toList then 2 else if 1000<(cW s).size\/1000<(qD s).size then 5 else 0:=by
   unfold gPE;rw[J2 (fun h=>h he)]
  rw[HE];clear HE e1 e2;obtain⟨D,hD⟩:=gn (qD s);obtain⟨W,hW⟩:=gn (cW s);obtain⟨hw0,hiM⟩:=r0s he hW;clear he;obtain⟨m,hm⟩:=gn (iM W);obtain⟨c,hc⟩:=gn (l0z W.data.toList D.data.toList);rw[hD,hW]at HC HM;rw[hm]at hiM;rw[hc]at HM;rw[hD,hW,hm,hc];clear hD hW hm hc z1 z2;rcases m with _ | _
  .by_cases hc2:0<=c
   focus
    have q0:decide ((0:Int)<=c)=true:=by simp;omega
    simp only[hc2,or_true,Ew,show ¬ (2:Int)=0 by decide,Eh];clear hc2
   rotate_left
   focus
    have q0:decide ((0:Int)<=c)=false:=by simp;omega
    simp only[hc2,Bn,or_self,Eh];clear hc2;by_cases hl1:1000<W.size
    focus
     have q1:decide ((1000:Int)<(W.size:Int))=true:=by simp;omega
     simp only[hl1,true_or,Ew,show ¬ (5:Int)=0 by decide,Eh];clear hl1
    rotate_left
    focus
     have q1:decide ((1000:Int)<(W.size:Int))=false:=by simp;omega
     by_cases hl2:1000<D.size
     focus
      have q2:decide ((1000:Int)<(D.size:Int))=true:=by simp;omega
      simp only[hl2,or_true,Ew,show ¬ (5:Int)=0 by decide,Eh];clear hl1 hl2
     rotate_left
     focus
      have q2:decide ((1000:Int)<(D.size:Int))=false:=by simp;omega
      simp only[hl1,hl2,or_self,Eh,Ew];clear hl1 hl2
   all_goals
    go_enter func209,ntmps209;go_wp2_with fail;refine nz HC fun w1 y1=>?_;go_wp2_with fail;refine nw (HM _) y1 fun w2 y2=>?_;go_wp2_with fail
    go_ret3
    exact⟨rfl,y2.out⟩
  focus
   simp only[true_or,Ew,show ¬ (2:Int)=0 by decide,Eh]
 rotate_left
 focus
  have e1:pW s=⟨#[]⟩:=J2 he;have e2:pD s=⟨#[]⟩:=J2 he;have e3:gPE s=qE s:=by unfold gPE;rw[J3 he]
  rw[e1,e2]at HC;rw[e3,J2 he,J2 he];obtain⟨x,hx⟩:=gn (qE s);rw[hx]at HC he |-;have q0:(x==0)=false:=by simpa using he
  have q1:(x != 0)=true:=by simpa using he
  clear e1 e2 e3 hx z1 z2 HM
 all_goals
  go_enter func209,ntmps209;go_wp2_with fail;refine nz HC fun w1 y1=>?_;go_wp2_with fail
  go_ret3
  exact⟨rfl,y1.out⟩
end
def c0R {N D K T:Nat}{l:List UInt8}(h:sdB N D K T=true):c0a N D K T l=(true,sdV N D K T,0):=by
 rw[c0a.eq_def];dsimp only;rw[if_pos h]
def e0R {N D K T:Nat}(h:sdB N D K T=false):c0a N D K T []=(false,0,0):=by
 rw[c0a.eq_def];dsimp only;rw[if_neg (by simp[h])]
def e0Q {N D K T:Nat}{b:UInt8}{r:List UInt8}(h:sdB N D K T=false):c0a N D K T (b::r)=((c0a N D (2*K+(if b=49 then 1 else 0)) (2*T) r).1,(c0a N D (2*K+(if b=49 then 1 else 0)) (2*T) r).2.1,(c0a N D (2*K+(if b=49 then 1 else 0)) (2*T) r).2.2+1):=by
 rw[c0a.eq_def];dsimp only;rw[if_neg (by simp[h])]
def b0u (N D:Nat)(l:List UInt8)(K T u:Nat):Bool×Nat×Nat:=let x:=c0a N D K T (l.drop u);(x.1,x.2.1,x.2.2+u)
def g0Z {N D K T u:Nat}{l:List UInt8}(h:sdB N D K T=true):b0u N D l K T u=(true,sdV N D K T,u):=by
 unfold b0u;rw[c0R h];simp
def Ou:=@List.drop_length
def g0Y {N D K T:Nat}{l:List UInt8}(h:sdB N D K T=false):b0u N D l K T l.length=(false,0,l.length):=by
 unfold b0u;rw[Ou,e0R h];simp
def On:=@Nat.two_mul
def g0X {N D K T u:Nat}{l:List UInt8}(h:sdB N D K T=false)(hu:u<l.length):b0u N D l K T u=b0u N D l (K+K+(if l[u]=49 then 1 else 0)) (T+T) (u+1):=by
 unfold b0u;rw[S9 hu,e0Q h,On,On];simp only[Ki,true_and];omega
structure Cell (K T u:Nat):Prop where
 t:T=2 ^ u
 k:K<T
theorem Cell.next {K T u x:Nat}(h:Cell K T u)(hx:x<=1):Cell (K+K+x) (T+T) (u+1):=by
 refine⟨?_,?_⟩
 .rw[h.t,E9];omega
 .have:=h.k;omega
theorem Cell.fits {N D K T u:Nat}(h:Cell K T u)(hu:u<=256)(hN:N<10 ^ eN)(hD:D<10 ^ eN):Fits N D K T:=by
 have h1:2 ^ u<=2 ^ 256:=J6 (by omega) hu;have h2:2 ^ 256<10 ^ eK:=by decide
 have ht:=h.t;have hk:=h.k;exact⟨hN,hD,by omega,by omega⟩
def Ip:=@Decidable.not_not
def w0T {p:ByteArray}(h:cPE p=0):cW p=a0f (bN (cW p))/\qD p=a0f (bN (qD p))/\bN (cW p)<10 ^ eN/\bN (qD p)<10 ^ eN/\bN (cW p)<=bN (qD p):=by
 unfold cPE at h
 split at h
 .rename_i he
  exact absurd h he
 .rename_i he
  have he':qE p=0:=Ip.1 he
  split at h
  .cases h
  .rename_i h2
   split at h
   .cases h
   .rename_i h3
    obtain⟨a,b,c,d,e1,e2⟩:=g0E he' (fun h=>h2 (.inl h)) h3;refine⟨a,b,c,d,?_⟩;have h4:¬ 0<l0z (cW p).data.toList (qD p).data.toList:=fun h=>h2 (.inr h)
    rw[l0z,J3 ⟨e1,e2⟩,b0g]at h4;show dv _<=dv _
    split at h4
    .omega
    .split at h4
     .simp at h4
     .omega
theorem k0q (N D:Nat):∀ (l:List UInt8) (K T:Nat),(c0a N D K T l).2.2<=l.length
 | [],K,T=>by
  cases h:sdB N D K T
  .rw[e0R h];simp
  .rw[c0R h];simp
 | b::r,K,T=>by
  cases h:sdB N D K T
  .rw[e0Q h];have:=k0q N D r (2*K+(if b=49 then 1 else 0)) (2*T);simp only[E8];omega
  .rw[c0R h];simp
theorem n0i (N D:Nat):∀ (l:List UInt8) (K T:Nat),(c0a N D K T l).2.1<=1
 | [],K,T=>by
  cases h:sdB N D K T
  .rw[e0R h];simp
  .rw[c0R h];simp only[sdV];split<;>omega
 | b::r,K,T=>by
  cases h:sdB N D K T
  .rw[e0Q h];exact n0i N D r _ _
  .rw[c0R h];simp only[sdV];split<;>omega
def Hi:=@Nat.zero_mul
def t0R {N D:Nat}(h:N<D){l:List UInt8}(hd:(c0a N D 0 1 l).1=true)(hv:(c0a N D 0 1 l).2.1=1):1<=(c0a N D 0 1 l).2.2:=by
 cases hs:sdB N D 0 1
 .cases l with
  | nil=>rw[e0R hs]at hd;cases hd
  | cons b r=>rw[e0Q hs];simp
 .rw[c0R hs]at hv;simp only[sdV,Dr,Hi]at hv;simp only[sdB,Dr,Hi,F9,Av,H7]at hs
  split at hv
  .cases hv
  .omega
def a0B (N D:Nat)(l:List UInt8)(p:Nat):Bool×Nat×Nat:=b0u N D (l.drop p) 0 1 0
def g0P (N D:Nat)(l:List UInt8)(p:Nat):a0B N D l p=c0a N D 0 1 (l.drop p):=by simp[a0B,b0u]
def e0y (pre:List (Nat×Nat)):Nat:=match pre.getLast? with | some x=>x.1 | none=>0
def r0v:e0y []=0:=rfl
def b0P (pre:List (Nat×Nat))(x:Nat×Nat):e0y (pre ++ [x])=x.1:=by simp[e0y]
def a0Z {N D:Nat}{l:List UInt8}{p:Nat}(hp:p<=l.length):p+(a0B N D l p).2.2<=l.length:=by
 rw[g0P];have:=k0q N D (l.drop p) 0 1;rw[Af]at this;omega
def ser (N D:Nat)(l:List UInt8):Nat->Nat->Nat->List Nat->Nat->Option (List Nat×Nat)
 | 0,_,_,_,_=>none
 | f+1,m,p,vs,n=>
  if (a0B N D l p).1=false then none
  else if (a0B N D l p).2.1=1 then ser N D l f m (p+(a0B N D l p).2.2) vs (n+1)
  else if m<=1 then some (vs ++ [n],p+(a0B N D l p).2.2)
  else ser N D l f (m-1) (p+(a0B N D l p).2.2) (vs ++ [n]) 0
def b0i {N D:Nat}(h:N<D){l:List UInt8}{p:Nat}(hd:(a0B N D l p).1=true)(hv:(a0B N D l p).2.1=1):1<=(a0B N D l p).2.2:=by
 rw[g0P]at *;exact t0R h hd hv
def u0i {N D:Nat}(h:N<D){l:List UInt8}:∀ (f f' m p:Nat) (vs:List Nat) (n:Nat),1<=m->p<=l.length->l.length-p+m<=f->l.length-p+m<=f'->ser N D l f m p vs n=ser N D l f' m p vs n:=by
 intro f
 induction f with
 | zero=>intro f' m p vs n hm hp h1 h2;omega
 | succ f ih=>
  intro f' m p vs n hm hp h1 h2;cases f' with
  | zero=>omega
  | succ f'=>
   have hle:=a0Z (N:=N) (D:=D) hp;simp only[ser]
   split
   .rfl
   .rename_i hd
    have hd':(a0B N D l p).1=true:=by simpa using hd
    split
    .rename_i hv
     have:=b0i h hd' hv;exact ih _ _ _ _ _ hm hle (by omega) (by omega)
    .split
     .rfl
     .exact ih _ _ _ _ _ (by omega) hle (by omega) (by omega)
def sr (N D:Nat)(l:List UInt8)(m p:Nat)(vs:List Nat)(n:Nat):Option (List Nat×Nat):=ser N D l (l.length-p+m) m p vs n
def a1q {N D:Nat}(h:N<D){l:List UInt8}{f m p n:Nat}{vs:List Nat}(hm:1<=m)(hp:p<=l.length)(hf:l.length-p+m<=f):ser N D l f m p vs n=sr N D l m p vs n:=u0i h _ _ _ _ _ _ hm hp hf nr
def e0V {N D:Nat}{l:List UInt8}{m p n:Nat}{vs:List Nat}(hm:1<=m):sr N D l m p vs n=ser N D l ((l.length-p+m-1)+1) m p vs n:=by
 unfold sr;rw[show l.length-p+m-1+1=l.length-p+m by omega]
def b0w {N D:Nat}{l:List UInt8}{m p n:Nat}{vs:List Nat}(hm:1<=m)(hd:(a0B N D l p).1=false):sr N D l m p vs n=none:=by
 rw[e0V hm,ser,J3 hd]
def e0o {N D:Nat}(h:N<D){l:List UInt8}{m p n:Nat}{vs:List Nat}(hm:1<=m)(hp:p<=l.length)(hd:(a0B N D l p).1=true)(hv:(a0B N D l p).2.1=1):sr N D l m p vs n=sr N D l m (p+(a0B N D l p).2.2) vs (n+1):=by
 have hle:=a0Z (N:=N) (D:=D) hp;have:=b0i h hd hv;rw[e0V hm,ser,J2 (by simp[hd]),J3 hv];exact a1q h hm hle (by omega)
def b0M {N D:Nat}{l:List UInt8}{p n:Nat}{vs:List Nat}(hd:(a0B N D l p).1=true)(hv:¬ (a0B N D l p).2.1=1):sr N D l 1 p vs n=some (vs ++ [n],p+(a0B N D l p).2.2):=by
 rw[e0V (O4 1),ser,J2 (by simp[hd]),J2 hv,J3 (O4 1)]
def l0U {N D:Nat}(h:N<D){l:List UInt8}{m p n:Nat}{vs:List Nat}(hm:2<=m)(hp:p<=l.length)(hd:(a0B N D l p).1=true)(hv:¬ (a0B N D l p).2.1=1):sr N D l m p vs n=sr N D l (m-1) (p+(a0B N D l p).2.2) (vs ++ [n]) 0:=by
 have hle:=a0Z (N:=N) (D:=D) hp;rw[e0V (by omega),ser,J2 (by simp[hd]),J2 hv,J2 (by omega)];exact a1q h (by omega) hle (by omega)
def s1 (N D:Nat)(l:List UInt8)(p n:Nat):Option (Nat×Nat):=match sr N D l 1 p [] n with | some (x::_,at')=>some (x,at') | _=>none
theorem k0y {N D:Nat}(h:N<D){l:List UInt8}:∀ (f p:Nat) (vs:List Nat) (n:Nat),p<=l.length->l.length-p<=f->sr N D l 1 p vs n=match s1 N D l p n with | some (x,a)=>some (vs ++ [x],a) | none=>none:=by
 intro f
 induction f with
 | zero=>
  intro p vs n hp hf;cases hd:(a0B N D l p).1
  .rw[s1,b0w (O4 1) hd,b0w (O4 1) hd]
  .by_cases hv:(a0B N D l p).2.1=1
   .have:=b0i h hd hv;have:=a0Z (N:=N) (D:=D) hp;omega
   .rw[s1,b0M hd hv,b0M hd hv]
    rfl
 | succ f ih=>
  intro p vs n hp hf;cases hd:(a0B N D l p).1
  .rw[s1,b0w (O4 1) hd,b0w (O4 1) hd]
  .by_cases hv:(a0B N D l p).2.1=1
   .have:=b0i h hd hv;have hle:=a0Z (N:=N) (D:=D) hp;rw[s1,e0o h (O4 1) hp hd hv,e0o h (O4 1) hp hd hv,ih _ _ _ hle (by omega)]
    rfl
   .rw[s1,b0M hd hv,b0M hd hv]
    rfl
theorem o0Z {N D:Nat}(h:N<D){l:List UInt8}:∀ (f p n x a:Nat),p<=l.length->l.length-p<=f->s1 N D l p n=some (x,a)->p<=a/\a<=l.length/\x<=n+(a-p):=by
 intro f
 induction f with
 | zero=>
  intro p n x a hp hf hs;cases hd:(a0B N D l p).1
  .rw[s1,b0w (O4 1) hd]at hs;cases hs
  .by_cases hv:(a0B N D l p).2.1=1
   .have:=b0i h hd hv;have:=a0Z (N:=N) (D:=D) hp;omega
   .rw[s1,b0M hd hv]at hs;simp at hs;have:=a0Z (N:=N) (D:=D) hp;omega
 | succ f ih=>
  intro p n x a hp hf hs;cases hd:(a0B N D l p).1
  .rw[s1,b0w (O4 1) hd]at hs;cases hs
  .by_cases hv:(a0B N D l p).2.1=1
   .have:=b0i h hd hv;have hle:=a0Z (N:=N) (D:=D) hp;rw[s1,e0o h (O4 1) hp hd hv]at hs;have:=ih _ _ _ _ hle (by omega) hs;omega
   .rw[s1,b0M hd hv]at hs;simp at hs;have:=a0Z (N:=N) (D:=D) hp;omega
theorem a1p {N D:Nat}(h:N<D){l:List UInt8}:∀ (f p:Nat) (vs:List Nat) (n:Nat),p<=l.length->l.length-p<=f->sr N D l 2 p vs n=match s1 N D l p n with
 | some (x,a)=>sr N D l 1 a (vs ++ [x]) 0
 | none=>none:=by
 intro f
 induction f with
 | zero=>
  intro p vs n hp hf;cases hd:(a0B N D l p).1
  .rw[s1,b0w (by omega) hd,b0w (O4 1) hd]
  .by_cases hv:(a0B N D l p).2.1=1
   .have:=b0i h hd hv;have:=a0Z (N:=N) (D:=D) hp;omega
   .rw[s1,b0M hd hv,l0U h (O4 2) hp hd hv]
    rfl
 | succ f ih=>
  intro p vs n hp hf;cases hd:(a0B N D l p).1
  .rw[s1,b0w (by omega) hd,b0w (O4 1) hd]
  .by_cases hv:(a0B N D l p).2.1=1
   .have:=b0i h hd hv;have hle:=a0Z (N:=N) (D:=D) hp;rw[s1,e0o h (by omega) hp hd hv,e0o h (O4 1) hp hd hv,ih _ _ _ hle (by omega)]
    rfl
   .rw[s1,b0M hd hv,l0U h (O4 2) hp hd hv]
    rfl
def i0N (N D:Nat)(l:List UInt8)(a q:Nat):a0B N D (l.drop a) q=a0B N D l (a+q):=by
 unfold a0B;rw[Ex]
theorem m0c {N D:Nat}(h:N<D){l:List UInt8}{a:Nat}(ha:a<=l.length):∀ (f q n:Nat),a+q<=l.length->l.length-(a+q)<=f->s1 N D l (a+q) n=(s1 N D (l.drop a) q n).map (fun x=>(x.1,a+x.2)):=by
 intro f
 induction f with
 | zero=>
  intro q n hp hf;have hc:=i0N N D l a q;cases hd:(a0B N D l (a+q)).1
  .rw[s1,s1,b0w (O4 1) hd,b0w (O4 1) (by rw[hc];exact hd)]
   rfl
  .by_cases hv:(a0B N D l (a+q)).2.1=1
   .have:=b0i h hd hv;have:=a0Z (N:=N) (D:=D) hp;omega
   .rw[s1,s1,b0M hd hv,b0M (by rw[hc];exact hd) (by rw[hc];exact hv),hc];simp[Dh]
 | succ f ih=>
  intro q n hp hf;have hc:=i0N N D l a q;cases hd:(a0B N D l (a+q)).1
  .rw[s1,s1,b0w (O4 1) hd,b0w (O4 1) (by rw[hc];exact hd)]
   rfl
  .by_cases hv:(a0B N D l (a+q)).2.1=1
   .have:=b0i h hd hv;have hle:=a0Z (N:=N) (D:=D) hp;have ih':=ih (q+(a0B N D l (a+q)).2.2) (n+1) (by omega) (by omega);rw[<- Dh]at ih';rw[s1,s1,e0o h (O4 1) hp hd hv,e0o (l:=l.drop a) (p:=q) h (O4 1) (by rw[Af];omega) (by rw[hc];exact hd) (by rw[hc];exact hv),hc];exact ih'
   .rw[s1,s1,b0M hd hv,b0M (by rw[hc];exact hd) (by rw[hc];exact hv),hc];simp[Dh]
def f0c {N D:Nat}{l:List UInt8}{p n:Nat}(hd:(a0B N D l p).1=false):s1 N D l p n=none:=by
 unfold s1;rw[b0w (O4 1) hd]
def j0f {N D:Nat}(h:N<D){l:List UInt8}{p n:Nat}(hp:p<=l.length)(hd:(a0B N D l p).1=true)(hv:(a0B N D l p).2.1=1):s1 N D l p n=s1 N D l (p+(a0B N D l p).2.2) (n+1):=by
 unfold s1;rw[e0o h (O4 1) hp hd hv]
def f0b {N D:Nat}{l:List UInt8}{p n:Nat}(hd:(a0B N D l p).1=true)(hv:¬ (a0B N D l p).2.1=1):s1 N D l p n=some (n,p+(a0B N D l p).2.2):=by
 unfold s1;rw[b0M hd hv];rfl
def u0m {N D:Nat}(h:N<D){l:List UInt8}:∀ (f p n:Nat),p<=l.length->l.length-p<=f->s1 N D l p (n+1)=(s1 N D l p n).map (fun x=>(x.1+1,x.2)):=by
 intro f
 induction f with
 | zero=>
  intro p n hp hf;cases hd:(a0B N D l p).1
  .rw[f0c hd,f0c hd];rfl
  .by_cases hv:(a0B N D l p).2.1=1
   .have:=b0i h hd hv;have:=a0Z (N:=N) (D:=D) hp;omega
   .rw[f0b hd hv,f0b hd hv];rfl
 | succ f ih=>
  intro p n hp hf;cases hd:(a0B N D l p).1
  .rw[f0c hd,f0c hd];rfl
  .by_cases hv:(a0B N D l p).2.1=1
   .have:=b0i h hd hv;have hle:=a0Z (N:=N) (D:=D) hp;rw[j0f h hp hd hv,j0f h hp hd hv,ih _ (n+1) hle (by omega)]
   .rw[f0b hd hv,f0b hd hv];rfl
def h0Z (N D i:Nat)(l:List UInt8):Bool:=match s1 N D l 0 0 with | none=>false | some (x,_)=>decide (x=i)
def t0J (N D i k:Nat)(l:List UInt8):Bool:=match s1 N D l 0 0 with | none=>false | some (x,p)=>decide (x=i) && h0Z N D k (l.drop p)
def h0h {N D:Nat}(h:N<D)(l:List UInt8):s1 N D l 0 0=if (c0a N D 0 1 l).1=true then (if (c0a N D 0 1 l).2.1=1 then (s1 N D (l.drop (c0a N D 0 1 l).2.2) 0 0).map (fun x=>(x.1+1,(c0a N D 0 1 l).2.2+x.2)) else some (0,(c0a N D 0 1 l).2.2)) else none:=by
 have e:=g0P N D l 0;rw[K9]at e;cases hd:(c0a N D 0 1 l).1
 .rw[f0c (by rw[e];exact hd)];rfl
 .rw[J3 rfl];by_cases hv:(c0a N D 0 1 l).2.1=1
  .have hle:=a0Z (N:=N) (D:=D) (l:=l) (p:=0) (K5 _);rw[e,F9]at hle;rw[J3 hv,j0f h (K5 _) (by rw[e];exact hd) (by rw[e];exact hv),e,u0m h l.length _ _ (by omega) (by omega)];have:=m0c h (l:=l) (a:=(c0a N D 0 1 l).2.2) (by omega) l.length 0 0 (by omega) (by omega);rw[At]at this;rw[F9,this,Option.map_map]
   rfl
  .rw[J2 hv,f0b (by rw[e];exact hd) (by rw[e];exact hv),e,F9]
def k0Z {N D:Nat}(h:N<D)(i:Nat)(l:List UInt8):h0Z N D i l=b0G N D 0 1 (match i with | 0=>fun _=>false | i+1=>h0Z N D i) (fun _=>decide (i=0)) l:=by
 unfold b0G;rw[h0Z,h0h h];cases hd:(c0a N D 0 1 l).1
 .rfl
 .rw[J3 rfl,Dn];by_cases hv:(c0a N D 0 1 l).2.1=1
  .rw[J3 hv,J3 hv];cases i with
   | zero=>
    cases s1 N D (l.drop (c0a N D 0 1 l).2.2) 0 0 with
    | none=>rfl
    | some x=>simp
   | succ i=>
    show _=h0Z N D i (l.drop (c0a N D 0 1 l).2.2)
    rw[h0Z];cases s1 N D (l.drop (c0a N D 0 1 l).2.2) 0 0 with
    | none=>rfl
    | some x=>simp
  .rw[J2 hv,J2 hv];simp only[eq_comm]
def k0o {N D:Nat}(h:N<D)(i k:Nat)(l:List UInt8):t0J N D i k l=b0G N D 0 1 (match i with | 0=>fun _=>false | i+1=>t0J N D i k) (fun r=>decide (i=0) && h0Z N D k r) l:=by
 unfold b0G;rw[t0J,h0h h];cases hd:(c0a N D 0 1 l).1
 .rfl
 .rw[J3 rfl,Dn];by_cases hv:(c0a N D 0 1 l).2.1=1
  .rw[J3 hv,J3 hv];cases i with
   | zero=>
    cases s1 N D (l.drop (c0a N D 0 1 l).2.2) 0 0 with
    | none=>rfl
    | some x=>simp
   | succ i=>
    show _=t0J N D i k (l.drop (c0a N D 0 1 l).2.2)
    rw[t0J];cases s1 N D (l.drop (c0a N D 0 1 l).2.2) 0 0 with
    | none=>rfl
    | some x=>simp[Ex]
  .rw[J2 hv,J2 hv];simp only[eq_comm]
def opn (N D:Nat):Nat->Nat->Nat
 | 0=>dlt
 | i+1=>cvo (chi (a0D N D)) (opn N D i)
def edn (N D i:Nat):Nat->Nat:=cvo (chi (a0i N D)) (opn N D i)
def g0N (f:Nat->Nat)(n:Nat):cvo f (fun _=>0) n=0:=by
 unfold cvo;rw[a0d (d:=fun _=>0) (fun i _=>Gf _)];exact a0F _
def j0Y (f g h:Nat->Nat)(n:Nat):cvo f (cvo g h) n=cvo g (cvo f h) n:=by
 rw[<- b0J,<- b0J];exact a0L (fun s _=>g0O f g s) fun _ _=>rfl
def o0k (N D m:Nat):edn N D 0 m=chi (a0i N D) m:=by
 unfold edn opn;rw[g0O,m0P]
def o0l (N D i m:Nat):edn N D (i+1) m=cvo (chi (a0D N D)) (edn N D i) m:=by
 unfold edn;rw[opn];exact j0Y _ _ _ _
theorem e0K {N D:Nat}(h:N<D):∀ i n,cw n (h0Z N D i)=cvo (edn N D i) pw2 n
 | 0,n=>by
  rw[a0E (Q:=b0G N D 0 1 (fun _=>false) (fun _=>true)) (fun l _=>k0Z h 0 l),e0i h,a0L (f':=chi (a0D N D)) (g':=fun _=>0) (fun _ _=>rfl) (fun m _=>c0s m),g0N,F9];exact a0L (fun s _=>(o0k N D s).symm) fun m _=>j0X m
 | i+1,n=>by
  rw[a0E (Q:=b0G N D 0 1 (h0Z N D i) (fun _=>false)) (fun l _=>k0Z h (i+1) l),e0i h,a0L (f:=chi (a0i N D)) (f':=chi (a0i N D)) (g':=fun _=>0) (fun _ _=>rfl) (fun m _=>c0s m),g0N,At];rw[a0L (f':=chi (a0D N D)) (g':=cvo (edn N D i) pw2) (fun _ _=>rfl) (fun m _=>e0K h i m),<- b0J];exact a0L (fun s _=>(o0l N D i s).symm) fun _ _=>rfl
theorem m0K {N D:Nat}(h:N<D)(k:Nat):∀ i n,cw n (t0J N D i k)=cvo (edn N D i) (cvo (edn N D k) pw2) n
 | 0,n=>by
  rw[a0E (Q:=b0G N D 0 1 (fun _=>false) (h0Z N D k)) (fun l _=>by rw[k0o h 0 k l];rfl),e0i h,a0L (f':=chi (a0D N D)) (g':=fun _=>0) (fun _ _=>rfl) (fun m _=>c0s m),g0N,F9];exact a0L (fun s _=>(o0k N D s).symm) fun m _=>e0K h k m
 | i+1,n=>by
  rw[a0E (Q:=b0G N D 0 1 (t0J N D i k) (fun _=>false)) (fun l _=>by rw[k0o h (i+1) k l];rfl),e0i h,a0L (f:=chi (a0i N D)) (f':=chi (a0i N D)) (g':=fun _=>0) (fun _ _=>rfl) (fun m _=>c0s m),g0N,At];rw[a0L (f':=chi (a0D N D)) (g':=cvo (edn N D i) (cvo (edn N D k) pw2)) (fun _ _=>rfl) (fun m _=>m0K h k i m),<- b0J];exact a0L (fun s _=>(o0l N D i s).symm) fun _ _=>rfl
end Go.Proofs.YtfkpfpobmobnbaaGreatDoor
