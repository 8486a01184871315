/- Texts that the proof rests on, merged: Fr3, Rt1, Mk, Pw1, Pw2, Np, Pl1, Pl2, Pl3, LyS, CdB, Pc0, Cv1, Tot, Cv2, Sh4, G1c, G2, QD, G3, G4, G5, C1, C2h, C2, Coin2, Coins, Ser, Cv3. -/
import Derived.Test.YtfkpfpobmobnbaaGreatDoorPc3
import Derived.Deep.RegionHeld3
import Derived.WalkSmall
import Derived.Maps.Own
import Derived.Maps.OwnIn
import Derived.Sort.CutIn
import Derived.Lib.SmallJoins
import Derived.Shelf.Small.Wraps
import Derived.Shelf.Strings.Shaped
import Derived.Ground.NamesProg
import Derived.Test.YtfkpfpobmobnbaaGreatDoorProg
set_option linter.defProp false
set_option linter.unusedVariables false
set_option linter.unusedSimpArgs false
set_option linter.unusedSectionVars false
set_option maxRecDepth 100000
set_option maxHeartbeats 8000000
namespace Go.Proofs.YtfkpfpobmobnbaaGreatDoor
section
open Go.RowKit
open Go.Lib (decDigits nDigits)
def q0s {q:Rat}(h:ovQ q):c0u q=⟨#[]⟩:=U0 h
def x0j {q:Rat}(h:¬ ovQ q):c0u q=txQ q:=Q0 h
def q0p {q:Rat}(h:ovQ q):c0J q=5:=U0 h
def q0q {q:Rat}(h:¬ ovQ q):c0J q=0:=Q0 h
def c0V (a b:ByteArray):(a++b).data.toList=a.data.toList++b.data.toList:=by simp
def z0k (n:Nat):txB false n 1=a0g n:=by apply a0M;simp[txB,a0g]
def z0i (n:Nat):txB true n 1=⟨#[45]⟩++a0g n:=by apply a0M;rw[c0V,b0Y,a0x];simp
def z0j (n d:Nat)(h:d≠1):txB false n d=a0g n++(⟨#[47]⟩++a0g d):=by apply a0M;rw[c0V,c0V,b0Y,a0x,a0x,Q0 h];simp
def z0h (n d:Nat)(h:d≠1):txB true n d=⟨#[45]⟩++a0g n++(⟨#[47]⟩++a0g d):=by apply a0M;rw[c0V,c0V,c0V,b0Y,a0x,a0x,Q0 h];simp
def Es:=@of_decide_eq_false
def u0B (w:World)(v:Value)(q:Rat)(h:IsQ .u64 w v q)(h1:(limbs q.num.natAbs).length<=1000000)(h2:(limbs q.den).length<=1000000)(hL:Lay w):
 Calls Tryz.prog 117 #[v] w fun e w'=>e=.returned (.tuple #[.string (c0u q),.int .i64 (c0J q)])/\Below w.heap.size w w':=by
 obtain⟨N,D,rfl,hn,hd⟩:=h.ex;obtain⟨m,hm⟩:=gn (decide (q.num<0));obtain⟨HN,HD,HM,HL,L1,L2⟩:=kx hn hd hm hL h1 h2;rw[hm];obtain⟨a1,c1,rfl,_⟩:=hn.openI;obtain⟨a2,c2,rfl,_⟩:=hd.openI;obtain⟨k1,hk1⟩:=gn ((limbs q.num.natAbs).length);obtain⟨k2,hk2⟩:=gn ((limbs q.den).length);rw[hk1]at HN |-;rw[hk2]at HD |-;obtain⟨b0,x0⟩:=zg ((J3 w.heap.size w).alloc nr (.cells #[.bool m,.slice a1 k1 c1,.slice a2 k2 c2] 126)) (Blk.new w #[.bool m,.slice a1 k1 c1,.slice a2 k2 c2] 126);obtain⟨N0,D0⟩:=zg (HN.out.call b0.out) (HD.out.call b0.out);clear hn hd hm h hk1 hk2 hL h1 h2;by_cases o1:4000<nDigits q.num.natAbs
 .have ho:ovQ q:=.inl o1;rw[q0s ho,q0p ho];have q0:decide ((4000:Int)<(nDigits q.num.natAbs:Nat))=true:=by simp;omega
  clear o1 ho;go_enter Tryz.func117,Tryz.ntmps117;go_wp2_with fail;refine (c0r _ _ _ N0.out (HL.out.call b0.out) L1.out).mono ?_;rintro e w1 ⟨rfl,hb1⟩;have b1:=hid (a0a b0.out hb1);clear hb1;go_wp2_with fail;go_ret2
  exact⟨rfl,b1.out⟩
 .have q0:decide ((4000:Int)<(nDigits q.num.natAbs:Nat))=false:=by simp;omega
  by_cases o2:4000<nDigits q.den
  .have ho:ovQ q:=.inr o2;rw[q0s ho,q0p ho];have q1:decide ((4000:Int)<(nDigits q.den:Nat))=true:=by simp;omega
   clear o1 ho o2;go_enter Tryz.func117,Tryz.ntmps117;go_wp2_with fail;refine (c0r _ _ _ N0.out (HL.out.call b0.out) L1.out).mono ?_;rintro e w1 ⟨rfl,hb1⟩;obtain⟨b1,D1⟩:=zg (a0a b0.out hb1) (D0.out.call hb1);have x1:=x0.out.call hb1;have r2:=x1.cell 2;simp at r2;clear hb1 x1;go_wp2_with fail;refine (c0r _ _ _ D1.out (HL.out.call b1.out) L2.out).mono ?_;rintro e w2 ⟨rfl,hb2⟩;have b2:=hid (a0a b1.out hb2);clear hb2 r2;go_wp2_with fail;go_ret2
   exact⟨rfl,b2.out⟩
  .have ho:¬ ovQ q:=fun h=>h.elim o1 o2
   rw[x0j ho,q0q ho];have q1:decide ((4000:Int)<(nDigits q.den:Nat))=false:=by simp;omega
   obtain⟨z,hz⟩:=gn (isO q.den);have HO:=fun W h=>hid (l0D W (.slice a2 k2 c2) q.den h)
   rw[hz]at HO;have HT:Hid (txQ q=txB m q.num.natAbs q.den):=by rw[<- HM.out];rfl
   have HZ:=hid hz;rw[HT.out];obtain⟨T,hT⟩:=gn (txB m q.num.natAbs q.den);have HTT:=hid hT;rw[hT];have HS1:=fun W hv hL=>hid (i0Z W (.slice a1 k1 c1) q.num.natAbs hv hL L1.out)
   have HS2:=fun W hv hL=>hid (i0Z W (.slice a2 k2 c2) q.den hv hL L2.out)
   have en:(⟨(Lib.decDigits q.num.natAbs).toArray⟩:ByteArray)=a0g q.num.natAbs:=rfl;have ed:(⟨(Lib.decDigits q.den).toArray⟩:ByteArray)=a0g q.den:=rfl;rw[en]at HS1;rw[ed]at HS2;obtain⟨sn,hsn⟩:=gn (a0g q.num.natAbs);obtain⟨sd,hsd⟩:=gn (a0g q.den);rw[hsn]at HS1;rw[hsd]at HS2;obtain⟨HSN,HSD⟩:=zg hsn hsd;have hs1:sn.size<=4000:=by rw[<- hsn,a0t];omega
   have hs2:sd.size<=4000:=by rw[<- hsd,a0t];omega
   clear o1 ho o2 hT hz en ed hsn hsd;go_enter Tryz.func117,Tryz.ntmps117;go_wp2_with fail;refine (c0r _ _ _ N0.out (HL.out.call b0.out) L1.out).mono ?_;rintro e w1 ⟨rfl,hb1⟩;obtain⟨b1,D1,x1,N1⟩:=zd (a0a b0.out hb1) (D0.out.call hb1) (x0.out.call hb1) (N0.out.call hb1);have r2:=x1.out.cell 2;simp at r2;clear hb1;go_wp2_with fail;refine (c0r _ _ _ D1.out (HL.out.call b1.out) L2.out).mono ?_;rintro e w2 ⟨rfl,hb2⟩;obtain⟨b2,D2,x2,N2⟩:=zd (a0a b1.out hb2) (D1.out.call hb2) (x1.out.call hb2) (N1.out.call hb2);have r1:=x2.out.cell 1;simp at r1;clear hb2 r2;go_wp2_with fail;refine (HS1 _ N2.out (HL.out.call b2.out)).out.mono ?_;rintro e w3 ⟨rfl,hb3⟩;obtain⟨b3,D3,x3⟩:=zc (a0a b2.out hb3) (D2.out.call hb3) (x2.out.call hb3);have r0:=x3.out.cell 0;have r2:=x3.out.cell 2;simp at r0 r2;clear hb3 r1 HS1;cases m
   .go_wp2_with fail;refine (HO _ D3.out).out.mono ?_;rintro e w4 ⟨rfl,rfl⟩;cases z
    .go_wp2_with fail;refine (HS2 _ D3.out (HL.out.call b3.out)).out.mono ?_;rintro e w5 ⟨rfl,hb5⟩;have b5:=hid (a0a b3.out hb5);clear hb5 r0 r2;go_wp2_with fail;go_ret2
     have hTe:T=sn++(⟨#[47]⟩++sd):=by rw[<- HTT.out,z0j _ _ (Es HZ.out),HSN.out,HSD.out]
     exact⟨by rw[hTe];rfl,b5.out⟩
    .go_wp2_with fail;go_ret2
     have hTe:T=sn:=by rw[<- HTT.out,e0h.1 HZ.out,z0k,HSN.out]
     exact⟨by rw[hTe];rfl,b3.out⟩
   .go_wp2_with fail;refine zx (HO _ D3.out) ?_;cases z
    .go_wp2_with fail;refine (HS2 _ D3.out (HL.out.call b3.out)).out.mono ?_;rintro e w5 ⟨rfl,hb5⟩;have b5:=hid (a0a b3.out hb5);clear hb5 r0 r2;go_wp2_with fail;go_ret2
     have hTe:T=⟨#[45]⟩++sn++(⟨#[47]⟩++sd):=by rw[<- HTT.out,z0h _ _ (Es HZ.out),HSN.out,HSD.out]
     exact⟨by rw[hTe];rfl,b5.out⟩
    .go_wp2_with fail;go_ret2
     have hTe:T=⟨#[45]⟩++sn:=by rw[<- HTT.out,e0h.1 HZ.out,z0i,HSN.out]
     exact⟨by rw[hTe];rfl,b3.out⟩
def mkE (n d:ByteArray):Int:=if iB n=false then 3 else if 4000<(iD n).size then 5 else if c0h d.data.toList≠0 then c0h d.data.toList else if d=⟨#[48]⟩ then 6 else c0J (qmk (iM n) (bN (iD n)) (bN d))
def mkB (n d:ByteArray):ByteArray:=if iB n=false then ⟨#[]⟩ else if 4000<(iD n).size then ⟨#[]⟩ else if c0h d.data.toList≠0 then ⟨#[]⟩ else if d=⟨#[48]⟩ then ⟨#[]⟩ else c0u (qmk (iM n) (bN (iD n)) (bN d))
def Dx:=@Nat.div_le_self
def x0a {m:Bool}{n d L:Nat}(hd:0<d)(h1:(limbs n).length<=L)(h2:(limbs d).length<=L):(limbs (qmk m n d).num.natAbs).length<=L/\(limbs (qmk m n d).den).length<=L:=by
 rw[g0R hd,i0K hd,b0s];exact⟨E0 (a0h (Dx _ _)) h1,E0 (a0h (Dx _ _)) h2⟩
def v0p (w:World)(n d:ByteArray)(hn:n.size<=1000000)(hd:d.size<=1000000)(hL:Lay w):
 Calls Tryz.prog 215 #[.string n,.string d] w fun e w'=>e=.returned (.tuple #[.string (mkB n d),.int .i64 (mkE n d)])/\Below w.heap.size w w':=by
 have HL:=hid hL;have hz:=r0x n;have HI:=fun V=>hid (k0D V n (by omega))
 have HC:=fun V=>hid (f0h V d (by omega))
 have HP1:=fun V h=>hid (c0v V (iD n) h (by omega))
 have HP2:=fun V h=>hid (c0v V d h hd)
 cases hb:iB n
 focus
  have e1:mkB n d=⟨#[]⟩:=U0 hb;have e2:mkE n d=3:=U0 hb;rw[e1,e2];rw[hb]at HI;clear e1 e2 hb hz HP1 HP2 hn hd hL
 rotate_left
 focus
  have nb:¬ iB n=false:=by simp[hb]
  by_cases h1:4000<(iD n).size
  focus
   have e1:mkB n d=⟨#[]⟩:=by rw[mkB,Q0 nb,U0 h1]
   have e2:mkE n d=5:=by rw[mkE,Q0 nb,U0 h1]
   have q0:decide ((4000:Int)<((iD n).size:Nat))=true:=by simp;omega
   rw[e1,e2];rw[hb]at HI;clear e1 e2 hb hz HP1 HP2 hn hd hL h1 nb
  rotate_left
  .have q0:decide ((4000:Int)<((iD n).size:Nat))=false:=by simp;omega
   by_cases h2:c0h d.data.toList=0
   focus
    have nc:¬ c0h d.data.toList≠0:=fun h=>h h2
    by_cases h3:d=⟨#[48]⟩
    focus
     have e1:mkB n d=⟨#[]⟩:=by rw[mkB,Q0 nb,Q0 h1,Q0 nc,U0 h3]
     have e2:mkE n d=6:=by rw[mkE,Q0 nb,Q0 h1,Q0 nc,U0 h3]
     rw[e1,e2];rw[hb]at HI;rw[h2]at HC;clear e1 e2 hb hz HP1 HP2 hn hd hL h1 nb nc h2;subst h3
    rotate_left
    .have e1:mkB n d=c0u (qmk (iM n) (bN (iD n)) (bN d)):=by rw[mkB,Q0 nb,Q0 h1,Q0 nc,Q0 h3]
     have e2:mkE n d=c0J (qmk (iM n) (bN (iD n)) (bN d)):=by rw[mkE,Q0 nb,Q0 h1,Q0 nc,Q0 h3]
     rw[e1,e2];have d1:=e0P (d0e hb);obtain⟨d2,d3,d4⟩:=b0F h2;have hdp:0<bN d:=a1D (a0V.2 (by obtain⟨x,hx,_⟩:=h0n.1 h2;exact i0d.2 ⟨x,hx⟩)) h3;have l1:(limbs (bN (iD n))).length<=1000:=j0s d1 (by rw[a0z];omega);have l2:(limbs (bN d)).length<=1000:=d4;have HP1:=fun V=>HP1 V d1
     have HP2:=fun V=>HP2 V d2
     have HQ:=x0a (m:=iM n) hdp l1 l2;have HM:=fun V v u hv hu=>hid (r0L V (iM n) v u (bN (iD n)) (bN d) hv hu hdp (by omega) (by omega))
     obtain⟨Q,hQ⟩:=gn (qmk (iM n) (bN (iD n)) (bN d));rw[hQ]at HQ HM |-;have HN:=fun V v hv hL=>hid (u0B V v Q hv (by omega) (by omega) hL)
     rw[hb]at HI;rw[h2]at HC;have i1:=a0I (l:=[48]) h3;clear e1 e2 hb hz hn hd hL h1 nb nc h2 h3 d1 d2 d3 d4 hdp l1 l2 HQ hQ;go_enter Tryz.func215,Tryz.ntmps215;go_wp2_with fail;refine (HI _).out.mono ?_;rintro e w1 ⟨rfl,hb1⟩;have b1:=hid hb1;clear hb1;go_wp2_with fail;refine (HC _).out.mono ?_;rintro e w2 ⟨rfl,hb2⟩;have b2:=hid (a0a b1.out hb2);clear hb2;go_wp2_with fail;refine (HP1 _).out.mono ?_;rintro e w3 ⟨⟨v3,rfl,hv3⟩,hb3⟩;obtain⟨b3,V3⟩:=zg (a0a b2.out hb3) hv3;clear hb3 hv3;go_wp2_with fail;refine (HP2 _).out.mono ?_;rintro e w4 ⟨⟨v4,rfl,hv4⟩,hb4⟩;obtain⟨b4,V4,W3⟩:=zc (a0a b3.out hb4) hv4 (V3.out.call hb4);clear hb4 hv4;go_wp2_with fail;refine (HM _ _ _ W3.out V4.out).out.mono ?_;rintro e w5 ⟨⟨v5,rfl,hv5⟩,hb5⟩;obtain⟨b5,V5⟩:=zg (a0a b4.out hb5) hv5;clear hb5 hv5;go_wp2_with fail;refine (HN _ _ V5.out (HL.out.call b5.out)).out.mono ?_;rintro e w6 ⟨rfl,hb6⟩;have b6:=hid (a0a b5.out hb6);clear hb6;go_wp2_with fail;go_ret2
     exact⟨rfl,b6.out⟩
   rotate_left
   focus
    have e1:mkB n d=⟨#[]⟩:=by rw[mkB,Q0 nb,Q0 h1,U0 h2]
    have e2:mkE n d=c0h d.data.toList:=by rw[mkE,Q0 nb,Q0 h1,U0 h2]
    rw[e1,e2];rw[hb]at HI;obtain⟨x,hx⟩:=gn (c0h d.data.toList);rw[hx]at HC h2 |-;have q2:(x != 0)=true:=by simpa using h2
    clear e1 e2 hb hz HP1 HP2 hn hd hL h1 nb h2 hx
   all_goals
    go_enter Tryz.func215,Tryz.ntmps215;go_wp2_with fail;refine (HI _).out.mono ?_;rintro e w1 ⟨rfl,hb1⟩;have b1:=hid hb1;clear hb1;go_wp2_with fail;refine (HC _).out.mono ?_;rintro e w2 ⟨rfl,hb2⟩;have b2:=hid (a0a b1.out hb2);clear hb2;go_wp2_with fail;go_ret2
    exact⟨rfl,b2.out⟩
 all_goals
  go_enter Tryz.func215,Tryz.ntmps215;go_wp2_with fail;refine (HI _).out.mono ?_;rintro e w1 ⟨rfl,hb1⟩;have b1:=hid hb1;clear hb1;go_wp2_with fail;go_ret2
  exact⟨rfl,b1.out⟩
def v0C {a b:Nat}(ha:nDigits a<=4000)(hb:nDigits b<=4000)(h0:b≠0):mkB (a0g a) (a0g b)=c0u (qmk false a b)/\mkE (a0g a) (a0g b)=c0J (qmk false a b):=by
 have e1:iM (a0g a)=false:=by
  unfold iM Lib.hasPrefix;rw[a0x];exact e0H a
 have e2:iD (a0g a)=a0g a:=b0P e1;have e3:iB (a0g a)=true:=by
  unfold iB;rw[e1,e2,n0l];rfl
 have e4:c0h (a0g b).data.toList=0:=b0D hb;have e5:¬ (a0g b=⟨#[48]⟩):=by rw[<- a0q];exact b0M h0
 have e6:¬ 4000<(iD (a0g a)).size:=by rw[e2,a0t];omega
 constructor
 .rw[mkB,Q0 (by simp[e3]),Q0 e6,Q0 (fun h=>h e4),Q0 e5,e1,e2,b0y,b0y]
 .rw[mkE,Q0 (by simp[e3]),Q0 e6,Q0 (fun h=>h e4),Q0 e5,e1,e2,b0y,b0y]
theorem NoInt.slice (a:Option Addr)(n c:Nat):NoInt #[.slice a n c]:=by
 intro i k x h;rcases i with _ | i<;>simp at h
theorem NoInt.bool (m:Bool):NoInt #[.bool m]:=by
 intro i k x h;rcases i with _ | i<;>simp at h
structure PowS (w:World)(bs bf bl:Nat)(sq:Nat)(fits:Bool):Prop where
 sq:∃ a n c,Blk w bs #[.slice a n c] 124/\IsN .u64 w (.slice a n c) sq
 fits:Blk w bf #[.bool fits] 4
 lim:Blk w bl #[.int .i64 4000] 3
 n1:bs≠bf
 n2:bs≠bl
 n3:bf≠bl
def Fr:=@decide_eq_decide
def v0F (w:World)(bs bf bl sq B:Nat)(f:Bool)(h:PowS w bs bf bl sq f)(hs:B<=bs)(hf:B<=bf)(hB:B<=w.heap.size)(hlen:(limbs sq).length<=100000)(hL:Lay w)(hLB:s0G B):
 Calls Tryz.prog 224 #[.pointer (some ⟨bs,0,none⟩),.pointer (some ⟨bl,0,none⟩),.pointer (some ⟨bf,0,none⟩)] w fun e w'=>
  (∃ v,e=.returned v)/\PowS w' bs bf bl (sq*sq) (decide (nDigits (sq*sq)<=4000))/\(∀ k v x,IsN k w v x->IsN k w' v x)/\Below B w w':=by
 obtain⟨⟨a,n,c,hbs,hv⟩,hbf,hbl,n1,n2,n3⟩:=h;have c0:w.cell? ⟨bs,0,none⟩=some (.slice a n c):=hbs.cell 0;obtain⟨HBS,HBF,HBL,HV,N1,N2,N3,HS,HF,HB,HL,HLB⟩:=kg hbs hbf hbl hv n1 n2 n3 hs hf hB hL hLB;have l2:=d0r hlen hlen;have HLM:=hid (show (limbs (sq*sq)).length<=1000000 by omega);obtain⟨S,hS⟩:=gn (sq*sq);have HM:=fun V h=>hid (h0C V (.slice a n c) (.slice a n c) sq sq h h (by omega) (by omega))
 rw[hS]at HM HLM |-;clear hbs hv hbf hbl n1 n2 n3 hs hf hB hlen hL l2 hS hLB;go_enter Tryz.func224,Tryz.ntmps224;go_wp2_with fail;refine (HM _ HV.out).out.mono ?_;rintro e w1 ⟨⟨v1,rfl,hv1⟩,hb1⟩;obtain⟨a1,k1,d1,rfl⟩:∃ a k d,v1=.slice a k d:=by
  obtain⟨a,c,e,_⟩:=hv1.openI;exact⟨_,_,_,e⟩
 obtain⟨S1,F1,T1,B1,V1⟩:=zf (HBS.out.call hb1) (HBF.out.call hb1) (HBL.out.call hb1) hb1 hv1;have e0:=S1.out.free 0;have e1:=S1.out.cell 0;simp at e1;clear hb1 hv1 HM c0;go_wp2_with fail;obtain⟨w2,hw2⟩:=gn (w1.setCell ⟨bs,0,none⟩ (.slice a1 k1 d1));have s2:Blk w2 bs #[.slice a1 k1 d1] 124:=by rw[<- hw2];exact S1.out.set 0 _
 have f2:Blk w2 bf #[.bool f] 4:=by rw[<- hw2];exact F1.out.other (fun e=>N1.out e) _
 have t2:Blk w2 bl #[.int .i64 4000] 3:=by rw[<- hw2];exact T1.out.other (fun e=>N2.out e) _
 have v2:IsN .u64 w2 (.slice a1 k1 d1) S:=by rw[<- hw2];exact V1.out.setQ S1.out (NoInt.slice _ _ _) 0 _
 have k2:∀ k v x,IsN k w v x->IsN k w2 v x:=fun k v x h=>by rw[<- hw2];exact (h.call B1.out).setQ S1.out (NoInt.slice _ _ _) 0 _
 have b2:Below B w w2:=by rw[<- hw2];exact (B1.out.mono HB.out).setCell HS.out _
 have hsz:w.heap.size<=w2.heap.size:=by rw[<- hw2];simpa[World.setCell]using B1.out.size
 rw[hw2];obtain⟨S2,F2,T2,V2,K2,B2,SZ⟩:=kq s2 f2 t2 v2 k2 b2 hsz;have L2:Hid (Lay w2):=HL.out.below b2 HLB.out;clear s2 f2 t2 v2 k2 b2 hw2 e0 e1 hsz;have hS:w2.drew.cell? ⟨bs,0,none⟩=some (.slice a1 k1 d1)/\w2.drew.cell? ⟨bl,0,none⟩=some (.int .i64 4000):=⟨S2.out.cell 0,T2.out.cell 0⟩;refine a0k [0,2] 3 (fun W'=>W'.cell? ⟨bs,0,none⟩=some (.slice a1 k1 d1)/\W'.cell? ⟨bl,0,none⟩=some (.int .i64 4000)) (by kernel_rfl) (by kernel_rfl) (by kernel_rfl) (by kernel_rfl) hS ?_
 iterate 2
  refine⟨_,rfl,?_⟩;apply Exists.intro
  refine⟨.inl ⟨by rfl,?_⟩,?_⟩
  .rintro W' ⟨q1,q2⟩;go_simp;try with_reducible rfl
  go_frame
 clear hS;refine a0c (i:=1) (by kernel_rfl) rfl rfl ?_;go_wp2_with fail;refine (c0r _ _ S (V2.out.call br0.drew) (L2.out.call br0.drew) HLM.out).mono ?_;rintro e w3 ⟨rfl,hb3⟩;have B3:=hid (show Below w2.heap.size w2 w3 from br0.drew.trans hb3);obtain⟨S3,F3,T3,V3⟩:=zd (S2.out.call B3.out) (F2.out.call B3.out) (T2.out.call B3.out) (V2.out.call B3.out);have hS:w3.cell? ⟨bs,0,none⟩=some (.slice a1 k1 d1)/\w3.cell? ⟨bl,0,none⟩=some (.int .i64 4000):=⟨S3.out.cell 0,T3.out.cell 0⟩;clear hb3;go_wp2_with fail;refine⟨hS,?_⟩;refine b0d (is:=[3]) (g:=1) (by kernel_rfl) rfl hS (by kernel_rfl) ?_
 iterate 1
  refine⟨_,rfl,?_⟩;apply Exists.intro
  refine⟨.inl ⟨by rfl,?_⟩,?_⟩
  ·(intro W' hW';clear hW';go_simp;try (with_reducible rfl))
  go_frame
 refine a0c (i:=4) (by kernel_rfl) rfl rfl ?_;have g0:=F3.out.free 0;have g1:=F3.out.cell 0;simp at g1;clear hS;go_wp2_with fail;have s4:=S3.out.other (a:=⟨bf,0,none⟩) (fun e=>N1.out e.symm) (.bool (decide ((nDigits S:Int)<=4000)));have f4:=F3.out.set 0 (.bool (decide ((nDigits S:Int)<=4000)));have t4:=T3.out.other (a:=⟨bf,0,none⟩) (fun e=>N3.out e) (.bool (decide ((nDigits S:Int)<=4000)));refine⟨⟨s4.cell 0,t4.cell 0⟩,?_⟩;refine Z7 (by kernel_rfl) ?_ _;simp only[a0Z];go_wp2_with fail
 go_end0
 refine⟨⟨_,rfl⟩,⟨⟨a1,k1,d1,s4,V3.out.setQ F3.out (NoInt.bool _) 0 _⟩,?_,t4,N1.out,N2.out,N3.out⟩,?_,?_⟩
 .have e:decide ((nDigits S:Int)<=4000)=decide (nDigits S<=4000):=Fr.2 (by omega);rw[<- e];exact f4
 .intro k v x h;exact ((K2.out k v x h).call B3.out).setQ F3.out (NoInt.bool _) 0 _
 .exact (B2.out.trans (B3.out.mono (E0 HB.out SZ.out))).setCell HF.out _
structure PowI (A sq out n:Nat)(fits:Bool):Prop where
 eq:out*sq ^ n=A
 two:2<=sq
 n1:1<=n
 small:nDigits out<=4000
 fit:fits=false->4000<nDigits sq
 len:fits=true->(limbs sq).length<=100000
 lim:(limbs sq).length<=200000
 pos:1<=out
theorem PowI.start {a n:Nat}(ha:2<=a)(hn:1<=n)(hl:(limbs a).length<=100000):PowI (a ^ n) a 1 n true:=
 ⟨Ds _,ha,hn,by rw[b0p];omega,fun h=>by (cases h),fun _=>hl,by omega,Z3 _⟩
theorem PowI.sq_le {A sq out n:Nat}{fits:Bool}(h:PowI A sq out n fits):out*sq<=A:=by
 rw[<- h.eq];refine Af _ ?_;have:=Z4 (n:=sq) (by have:=h.two;omega) h.n1;rwa[Nat.pow_one]at this
theorem PowI.big {A sq out n:Nat}{fits:Bool}(h:PowI A sq out n fits)(hf:fits=false):4000<nDigits A:=by
 refine H6 (h.fit hf) (a0r ?_);exact E0 (Ka _ h.pos) h.sq_le
theorem PowI.bigO {A sq out n:Nat}{fits:Bool}(h:PowI A sq out n fits)(hb:4000<nDigits (out*sq)):4000<nDigits A:=
 H6 hb (a0r h.sq_le)
theorem PowI.done {A sq out n:Nat}{fits:Bool}(h:PowI A sq out n fits)(hn:n=1):out*sq=A:=by
 rw[<- h.eq,hn,Nat.pow_one]
def v0i {sq:Nat}(h:(limbs sq).length<=100000):(limbs (sq*sq)).length<=200000:=by
 have:=a0G h h;omega
theorem PowI.odd {A sq out n:Nat}{fits:Bool}(h:PowI A sq out n fits)(hf:fits=true)(ho:n%2=1)(hs:nDigits (out*sq)<=4000)(h2:1<=n / 2):PowI A (sq*sq) (out*sq) (n / 2) (decide (nDigits (sq*sq)<=4000)):=by
 have h4:=Aw h.two h.two;refine⟨?_,by omega,h2,hs,fun e=>?_,fun e=>?_,v0i (h.len hf),Eb h.pos (by have:=h.two;omega)⟩
 .rw[<- h.eq,G8,<- Nat.pow_two,<- Mf];have:sq*sq ^ (2*(n / 2))=sq ^ n:=by
   rw[<- Nat.pow_succ']
   congr 1
   omega
  rw[this]
 .have:=Es e;omega
 .have:=a0l (Ax e);omega
theorem PowI.even {A sq out n:Nat}{fits:Bool}(h:PowI A sq out n fits)(hf:fits=true)(ho:n%2=0):PowI A (sq*sq) out (n / 2) (decide (nDigits (sq*sq)<=4000)):=by
 have h4:=Aw h.two h.two;have h1:=h.n1;refine⟨?_,by omega,by omega,h.small,fun e=>?_,fun e=>?_,v0i (h.len hf),h.pos⟩
 .rw[<- h.eq,<- Nat.pow_two,<- Mf]
  congr 2
  omega
 .have:=Es e;omega
 .have:=a0l (Ax e);omega
def j0D (n:Nat)(e:Ending)(w':World):Prop:=
 (nDigits n<=4000/\∃ v,e=.returned (.tuple #[v,.bool true])/\IsN .u64 w' v n)\/(4000<nDigits n/\e=.returned (.tuple #[.slice none 0 0,.bool false]))
def u0o (w:World):IsN .u64 (w.alloc (.cells #[.int .u64 1] 161)) (.slice (some ⟨w.heap.size,0,none⟩) 1 1) 1:=by
 unfold IsN;rw[c0R];exact Row.of_blk (b:=w.heap.size) (n:=1) (c:=1) (cs:=#[.int .u64 1]) (Blk.new w _ _) rfl (by unfold maxLen;omega) (fun i x hx=>by simpa[b0q]using hx) nr (by unfold maxLen;omega)
def m0S {n:Nat}(h:n<18446744073709551616):(bits BinOp.and IntKind.u64 (n:Int) 1==1)=decide (n%2=1):=by
 rw[and_one_u64 _ (by omega) (by omega),Bc,Ei,S5];omega
def o0z (w:World)(v:Value)(a:Nat)(ha:IsN .u64 w v a):Calls Tryz.prog 159 #[v,.int .u64 0,.int .i64 4000] w fun e w'=>j0D (a ^ 0) e w'/\Below w.heap.size w w':=by
 have H1:=hid (u0o (w.alloc (.cells #[.int .i64 4000] 3)));go_enter Tryz.func159,Tryz.ntmps159;go_wp2_with fail;go_ret2
 refine⟨.inl ⟨by rw[Db,b0p];omega,_,rfl,by rw[Db];simpa using H1.out⟩,(br0.alloc nr _).alloc (by simp) _⟩
def l0C (w:World)(v:Value)(a n:Nat)(ha:IsN .u64 w v a)(hs:a<=1)(hn:0<n)(hn2:n<18446744073709551616):Calls Tryz.prog 159 #[v,.int .u64 n,.int .i64 4000] w fun e w'=>j0D (a ^ n) e w'/\Below w.heap.size w w':=by
 have hpow:=hid (show a ^ n=a/\nDigits a<=4000 from by
  rcases (show a=0\/a=1 by omega) with rfl | rfl
  .exact⟨Nat.zero_pow hn,by rw[c0D];omega⟩
  .exact⟨Nat.one_pow _,by rw[b0p];omega⟩)
 have b0:=hid ((J3 w.heap.size w).alloc nr (.cells #[.int .i64 4000] 3));have A0:=hid (ha.call b0.out);have q0:((n:Int)==0)=false:=by rw[U4];omega
 obtain⟨k1,d1,rfl,_⟩:=ha.openI;obtain⟨len,hlen⟩:=gn ((limbs a).length);rw[hlen]at A0 |-;clear ha hlen;rcases (show a=0\/a=1 by omega) with rfl | rfl
 focus
  have hz:isZ 0=true:=rfl;clear hs hn hn2;go_enter Tryz.func159,Tryz.ntmps159;go_wp2_with fail;refine (f0A _ _ _ A0.out).mono ?_;rintro e w1 ⟨rfl,rfl⟩;rw[hz]
 rotate_left
 focus
  have hz:isZ 1=false:=rfl;have ho:isO 1=true:=rfl;clear hs hn hn2;go_enter Tryz.func159,Tryz.ntmps159;go_wp2_with fail;refine (f0A _ _ _ A0.out).mono ?_;rintro e w1 ⟨rfl,rfl⟩;rw[hz];go_wp2_with fail;refine zv (l0D _ _ _ A0.out) ?_;rw[ho]
 all_goals
  go_wp2_with fail;go_ret2
  exact⟨.inl ⟨by rw[hpow.out.1];exact hpow.out.2,_,rfl,by rw[hpow.out.1];exact A0.out⟩,b0.out⟩
def I7:=@decide_eq_false
def I8:=@decide_eq_true
def r0c (w:World)(v:Value)(a N:Nat)(ha:IsN .u64 w v a)(hs:2<=a)(hl:(limbs a).length<=100000)(hn:0<N)(hn2:N<18446744073709551616)(hL:Lay w):Calls Tryz.prog 159 #[v,.int .u64 N,.int .i64 4000] w fun e w'=>j0D (a ^ N) e w'/\Below w.heap.size w w':=by
 have b0:=hid ((J3 w.heap.size w).alloc nr (.cells #[.int .i64 4000] 3));obtain⟨A0,HA⟩:=zg (ha.call b0.out) ha;have q0:((N:Int)==0)=false:=by rw[U4];omega
 obtain⟨k1,d1,rfl,_⟩:=ha.openI;obtain⟨len,hlen⟩:=gn ((limbs a).length);have PI:=hid (PowI.start (n:=N) hs hn hl);rw[hlen]at A0 HA |-;have hz:isZ a=false:=I7 (by omega);have ho:isO a=false:=I7 (by omega);obtain⟨HN2,HL,HLL⟩:=zc hn2 hL hL.lt;obtain⟨R,hR⟩:=gn (a ^ N);rw[hR]at PI |-;clear ha hlen hs hl hn hn2 hL hR;go_enter Tryz.func159,Tryz.ntmps159;go_wp2_with fail;refine (f0A _ _ _ A0.out).mono ?_;rintro e w1 ⟨rfl,rfl⟩;rw[hz];clear hz;go_wp2_with fail;refine (l0D _ _ _ A0.out).mono ?_;rintro e w1 ⟨rfl,rfl⟩;rw[ho];clear ho;go_wp2_with fail;obtain⟨W0,hW0⟩:=gn (((((w.alloc (.cells #[.int .i64 4000] 3)).alloc (.cells #[.int .u64 1] 161)).alloc (.cells #[.slice k1 len d1] 124)).alloc (.cells #[.bool true] 4)));have b4:Below w.heap.size w W0:=by rw[<- hW0];exact (((br0.alloc nr _).alloc (by simp) _).alloc (by simp<;>omega) _).alloc (by simp<;>omega) _
 have x0:Blk W0 w.heap.size #[.int .i64 4000] 3:=by rw[<- hW0];exact (((Blk.new w _ _).alloc _).alloc _).alloc _
 have x1:Blk W0 (w.heap.size+1) #[.int .u64 1] 161:=by rw[<- hW0];exact ((Blk.made _ _ _ (by simp)).alloc _).alloc _
 have x2:Blk W0 (w.heap.size+1+1) #[.slice k1 len d1] 124:=by rw[<- hW0];exact (Blk.made _ _ _ (by simp)).alloc _
 have x3:Blk W0 (w.heap.size+1+1+1) #[.bool true] 4:=by rw[<- hW0];exact Blk.made _ _ _ (by simp)
 have o0:IsN .u64 W0 (.slice (some ⟨w.heap.size+1,0,none⟩) 1 1) 1:=by
  unfold IsN;rw[c0R];exact Row.of_blk (n:=1) (c:=1) x1 rfl (by unfold maxLen;omega) (fun i x hx=>by simpa[b0q]using hx) nr (by unfold maxLen;omega)
 have P0:PowS W0 (w.heap.size+1+1) (w.heap.size+1+1+1) w.heap.size a true:=⟨⟨_,_,_,x2,HA.out.call b4⟩,x3,x0,by omega,by omega,by omega⟩;rw[hW0];obtain⟨OO,PP,BB⟩:=zc o0 P0 b4;obtain⟨bs,hbs⟩:=gn (w.heap.size+1+1);rw[hbs]at PP |-;obtain⟨bf,hbf⟩:=gn (bs+1);rw[hbf]at PP |-;obtain⟨HBS,HBF⟩:=zg (show w.heap.size<=bs by omega) (show w.heap.size<=bf by omega);have e159:∀ args w,(callFunc 224 args).run Tryz.prog w=.ok (.enter 224 args) w:=Cx Tryz.func224 (by kernel_rfl) rfl;clear b4 x0 x1 x2 x3 o0 P0 hW0 hbs hbf A0 b0 q0
 go_loopw [1,8] (fun nn oo wr=>∃ (n out sq:Nat) (fits:Bool) (a1:Option Addr) (l1 c1:Nat),nn=.int .u64 (n:Nat)/\oo=.slice a1 l1 c1/\Hid (PowI R sq out n fits)/\Hid (IsN .u64 wr (.slice a1 l1 c1) out)/\Hid (PowS wr bs bf w.heap.size sq fits)/\Hid (Below w.heap.size w wr)/\n<18446744073709551616) (fun nn oo wr=>(intOf nn).toNat)
 case atStart=>exact⟨N,1,a,true,_,_,_,rfl,rfl,PI.out,OO.out,PP.out,BB.out,HN2.out⟩
 case round=>
  obtain⟨n,out,sq,fits,a1,l1,c1,rfl,rfl,hI,hO,hS,hB,hn⟩:=hrel;obtain⟨a2,l2,c2,h1,h2⟩:=hS.out.sq;obtain⟨HL1,HO,HV,HF,HT⟩:=zf (HL.out.call hB.out) h1 h2 hS.out.fits hS.out.lim;have k0:wr.cell? ⟨bs,0,none⟩=some (.slice a2 l2 c2):=h1.cell 0;have k1:wr.cell? ⟨bf,0,none⟩=some (.bool fits):=hS.out.fits.cell 0;obtain⟨HN,HN1,HLO,HLS⟩:=zd hn hI.out.n1 (a0l hI.out.small) hI.out.lim;clear h1 h2;by_cases ho:n%2=1
  .have q1:(bits BinOp.and IntKind.u64 (n:Int) 1==1)=true:=by rw[m0S hn];exact I8 ho
   have HO1:=hid ho;clear ho hn;go_wp2_with fail;refine (h0C _ _ _ out sq hO.out HV.out (by have:=HLO.out;omega) (by have:=HLS.out;omega)).mono ?_;rintro e w1 ⟨⟨v1,rfl,hv1⟩,hb1⟩;have HLM:=hid (a0G HLO.out HLS.out);obtain⟨a3,c3,rfl,_⟩:=hv1.openI;obtain⟨l3,hl3⟩:=gn ((limbs (out*sq)).length);rw[hl3]at hv1 |-;obtain⟨V1,F1,T1,B1⟩:=zd hv1 (HF.out.call hb1) (HT.out.call hb1) (a0a hB.out hb1);have S1:Hid (PowS w1 bs bf w.heap.size sq fits):=⟨⟨_,_,_,HO.out.call hb1,HV.out.call hb1⟩,F1.out,T1.out,hS.out.n1,hS.out.n2,hS.out.n3⟩;have m1:w1.cell? ⟨bf,0,none⟩=some (.bool fits):=F1.out.cell 0;have m2:w1.cell? ⟨w.heap.size,0,none⟩=some (.int .i64 4000):=T1.out.cell 0;obtain⟨L1,B1x⟩:=zg (HL1.out.call hb1) hb1;clear hb1 hv1 k0 k1 hl3;cases fits
   .go_wp2_with fail;go_quiet (fail)
    go_wp2_with fail;go_ret2
    exact⟨.inr ⟨hI.out.big rfl,rfl⟩,a0m B1.out _⟩
   .go_wp2_with fail
    go_region_held3 (fun w'=>w'.cell? ⟨bf,0,none⟩=some (.bool true)/\w'.cell? ⟨w.heap.size,0,none⟩=some (.int .i64 4000))
     (first | exact⟨m1,m2⟩ | exact⟨F2.out.cell 0,T2.out.cell 0⟩)
     (first
      | (go_at_call 198;refine (c0r _ _ (out*sq) (V1.out.call br0.drew) (L1.out.call br0.drew) (by have:=HLM.out;omega)).mono ?_;rintro e w2 ⟨rfl,hb2⟩;have B2:=hid (show Below w1.heap.size w1 w2 from br0.drew.trans hb2);have F2:=hid (F1.out.call B2.out);have T2:=hid (T1.out.call B2.out)))
    have S2:Hid (PowS w2 bs bf w.heap.size sq true):=⟨⟨_,_,_,(HO.out.call B1x.out).call B2.out,(HV.out.call B1x.out).call B2.out⟩,F2.out,T2.out,hS.out.n1,hS.out.n2,hS.out.n3⟩;obtain⟨V2,L2,BB2⟩:=zc (V1.out.call B2.out) (L1.out.call B2.out) (a0a B1.out B2.out);clear m1 m2;by_cases hd:4000<nDigits (out*sq)
    .have q2:decide ((4000:Int)<(nDigits (out*sq):Nat))=true:=by simp;omega
     have HD:=hid hd;rw[q2];clear hd q2;go_wp2_with fail;go_ret2
     exact⟨.inr ⟨hI.out.bigO HD.out,rfl⟩,BB2.out⟩
    .have q2:decide ((4000:Int)<(nDigits (out*sq):Nat))=false:=by simp;omega
     have HD:=hid (show nDigits (out*sq)<=4000 by omega);rw[q2];clear hd q2;have m1:w2.cell? ⟨bf,0,none⟩=some (.bool true):=F2.out.cell 0;by_cases h1:n=1
     .have HD1:=hid (hI.out.done h1);subst h1;go_wp2_with fail;go_ret2
      exact⟨.inl ⟨by rw[<- HD1.out];exact HD.out,_,rfl,by rw[<- HD1.out];exact V2.out⟩,BB2.out⟩
     .have h2:1<=n / 2:=by have:=HO1.out;omega
      have q3:((n:Int) / 2==0)=false:=by rw[U4];omega
      have HI2:=hid (hI.out.odd rfl HO1.out HD.out h2);clear h1 h2;go_wp2_with fail;refine (v0F _ bs bf w.heap.size sq w.heap.size true S2.out HBS.out HBF.out BB2.out.size (hI.out.len rfl) L2.out HLL.out).mono ?_;rintro e w5 ⟨⟨v5,rfl⟩,hp5,hk5,hb5⟩;obtain⟨P5,O5,B5⟩:=zc hp5 (hk5 _ _ _ V2.out) (BB2.out.trans hb5);clear hp5 hk5 hb5;go_wp2_with fail;go_roundw
      case rel=>exact⟨n / 2,out*sq,sq*sq,_,_,_,_,by rw[show ((n:Int) / 2)=((n / 2:Nat):Int) by omega],rfl,HI2,O5,P5,B5,by have:=HN.out;omega⟩
      case measure=>simp[intOf]<;>(have:=HN1.out;omega)
  .have q1:(bits BinOp.and IntKind.u64 (n:Int) 1==1)=false:=by rw[m0S hn];exact I7 ho
   have h0:n%2=0:=by omega
   have h2:1<=n / 2:=by have:=HN1.out;omega
   have q3:((n:Int) / 2==0)=false:=by rw[U4];omega
   have H0:=hid h0;clear ho hn h0 h2;cases fits
   .go_wp2_with fail;go_ret2
    exact⟨.inr ⟨hI.out.big rfl,rfl⟩,hB.out⟩
   .have HI2:=hid (hI.out.even rfl H0.out);go_wp2_with fail;refine (v0F _ bs bf w.heap.size sq w.heap.size true hS.out HBS.out HBF.out hB.out.size (hI.out.len rfl) HL1.out HLL.out).mono ?_;rintro e w5 ⟨⟨v5,rfl⟩,hp5,hk5,hb5⟩;obtain⟨P5,O5,B5⟩:=zc hp5 (hk5 _ _ _ hO.out) (hB.out.trans hb5);clear hp5 hk5 hb5;go_wp2_with fail;go_roundw
    case rel=>exact⟨n / 2,out,sq*sq,_,_,_,_,by rw[show ((n:Int) / 2)=((n / 2:Nat):Int) by omega],rfl,HI2,O5,P5,B5,by have:=HN.out;omega⟩
    case measure=>simp[intOf]<;>(have:=HN1.out;omega)
def r0d (w:World)(v:Value)(a n:Nat)(ha:IsN .u64 w v a)(hl:(limbs a).length<=100000)(hn2:n<18446744073709551616)(hL:Lay w):Calls Tryz.prog 159 #[v,.int .u64 n,.int .i64 4000] w fun e w'=>j0D (a ^ n) e w'/\Below w.heap.size w w':=by
 rcases H7 n with rfl | hn
 .exact o0z w v a ha
 .by_cases h:a<=1
  .exact l0C w v a n ha h hn hn2
  .exact r0c w v a n ha (by omega) hl hn hn2 hL
def u0c (w:World)(s:ByteArray)(n:Nat)(hs:c0h s.data.toList=0)(hn:n<=9223372036854775807)(hd:nDigits (bN s ^ n)<=4000)(hL:Lay w):
 Calls Tryz.prog 278 #[.string s,.int .i64 n] w fun e w'=>e=.returned (.tuple #[.string (a0g (bN s ^ n)),.int .i64 0])/\Below w.heap.size w w':=by
 obtain⟨d1,d2,d3⟩:=b0F hs;have HC:=fun V=>hid (f0h V s (by omega))
 rw[hs]at HC;have HP:=fun V=>hid (c0v V s d1 (by omega))
 have hdv:dv s.data.toList=bN s:=rfl;rw[hdv]at HP;have HW:=fun V v hv hL=>hid (r0d V v (bN s) n hv (by omega) (by omega) hL)
 have HR:=fun V v hv hL=>hid (g0g V v (bN s ^ n) hv (by have:=a0l hd;omega) hL)
 have e1:m0B (bN s ^ n)=a0g (bN s ^ n):=by rw[m0B,Q0 (by omega)]
 have e2:k0c (bN s ^ n)=0:=by rw[k0c,Q0 (by omega)]
 rw[e1,e2]at HR;obtain⟨R,hR⟩:=gn (bN s ^ n);rw[hR]at HW HR hd |-;obtain⟨HD,HL⟩:=zg hd hL;have hn0:(0:Int)<=(n:Int):=by omega
 have hn1:(n:Int)<=9223372036854775807:=by omega
 have q0:decide ((n:Int)<0)=false:=by simp
 clear hs hn d1 d2 d3 hdv e1 e2 hR hd hL;go_enter Tryz.func278,Tryz.ntmps278;go_wp2_with fail;refine (HC _).out.mono ?_;rintro e w1 ⟨rfl,hb1⟩;have b1:=hid hb1;clear hb1;go_wp2_with fail;refine (HP _).out.mono ?_;rintro e w2 ⟨⟨v2,rfl,hv2⟩,hb2⟩;obtain⟨b2,V2⟩:=zg (a0a b1.out hb2) hv2;clear hb2 hv2;go_wp2_with fail;refine (HW _ _ V2.out (HL.out.call b2.out)).out.mono ?_;rintro e w3 ⟨h3,hb3⟩;rcases h3 with ⟨-,v3,rfl,hv3⟩ | ⟨h3,-⟩
 .obtain⟨b3,V3⟩:=zg (a0a b2.out hb3) hv3;clear hb3 hv3;go_wp2_with fail;refine (HR _ _ V3.out (HL.out.call b3.out)).out.mono ?_;rintro e w4 ⟨rfl,hb4⟩;have b4:=hid (a0a b3.out hb4);clear hb4;go_wp2_with fail;go_ret2
  exact⟨rfl,b4.out⟩
 .exact absurd h3 (by have:=HD.out;omega)
def Dn:=@Nat.pow_le_pow_left
def Hb:=@Nat.pow_lt_pow_right
def Ew:=@Nat.succ_pos
def h0M {n:Nat}(h:n<=1000):nDigits (2 ^ n)<=4000:=by
 have h1:2 ^ n<10 ^ (n+1):=by
  have h2:2 ^ n<=10 ^ n:=Dn (by omega) n;have h3:10 ^ n<10 ^ (n+1):=Hb (by omega) (by omega);omega
 exact E0 (a0j (Ew n) h1) (by omega)
def w0c:bN ⟨#[50]⟩=2:=by decide
def u0F:c0h (⟨#[50]⟩:ByteArray).data.toList=0:=by decide
open Go.Shelf
def shB (m t:Nat):ByteArray:=c0u (qmk false m t)
def x0g (w:World)(m t:Nat)(hm:nDigits m<=4000)(ht:nDigits t<=4000)(h0:t≠0)(hL:Lay w):
 Calls Tryz.prog 215 #[.string (a0g m),.string (a0g t)] w fun e w'=>e=.returned (.tuple #[.string (shB m t),.int .i64 (c0J (qmk false m t))])/\Below w.heap.size w w':=by
 have h:=v0p w (a0g m) (a0g t) (a0N hm) (a0N ht) hL;have e:=v0C hm ht h0;rwa[e.1,e.2]at h
structure MRow (w:World)(v:Value)(L:List (ByteArray×ByteArray)):Prop where
 ex:∃ a c,v=.slice a L.length c/\L.length<=c/\c<=9223372036854775807/\∀ (i:Nat) (x:ByteArray×ByteArray),L[i]?=some x->∃ g o,a=some ⟨g,o,none⟩/\g<w.heap.size/\w.cell? ⟨g,o+2*i,none⟩=some (.string x.1)/\w.cell? ⟨g,o+2*i+1,none⟩=some (.string x.2)
theorem MRow.call {w w':World}{v:Value}{L:List (ByteArray×ByteArray)}(h:MRow w v L)(hb:Below w.heap.size w w'):MRow w' v L:=by
 obtain⟨a,c,rfl,h1,h2,h3⟩:=h.ex;refine⟨a,c,rfl,h1,h2,fun i x hx=>?_⟩;obtain⟨g,o,rfl,hg,k1,k2⟩:=h3 i x hx;exact⟨g,o,rfl,H6 hg hb.size,(hb.cell (p:=⟨g,o+2*i,none⟩) hg).trans k1,(hb.cell (p:=⟨g,o+2*i+1,none⟩) hg).trans k2⟩
theorem MRow.nil (w:World):MRow w (.slice none 0 0) []:=⟨none,0,rfl,Z3 _,by omega,fun i x h=>by simp at h⟩
def x0z {x y:ByteArray}(h:¬ x=y):¬ x.toList=y.toList:=fun e=>h (by
 rw[Cw,Cw]at e;exact a0M e)
def Jq:=@Prod.mk.injEq
def r0g (w:World)(v u:Value)(L M:List (ByteArray×ByteArray))(hv:MRow w v L)(hu:MRow w u M):
 Calls Tryz.prog 18 #[v,u] w fun e w'=>e=.returned (.bool (decide (L=M)))/\Below w.heap.size w w':=by
 obtain⟨a,c,rfl,h1,h2,h3⟩:=hv.ex;obtain⟨a',c',rfl,h1',h2',h3'⟩:=hu.ex;obtain⟨n,hn⟩:=gn (L.length);obtain⟨m,hm⟩:=gn (M.length);rw[hn]at h1 |-;rw[hm]at h1' |-;obtain⟨H3,H3',HN,HM⟩:=zd h3 h3' hn hm;clear hv hu h3 h3';by_cases hnm:n=m
 .subst hnm;have q0:((n:Int) != (n:Int))=false:=by simp
  clear hn hm;go_enter Tryz.func18,Tryz.ntmps18;go_wp2_with fail
  go_loopw [5] (fun ii wr=>∃ i:Nat,ii=.int .i64 (i:Nat)/\i<=n/\Hid (∀ j,j<i->L[j]?=M[j]?)/\Hid (Below w.heap.size w wr)) (fun ii wr=>n-(intOf ii).toNat)
  case atStart=>exact⟨0,rfl,J5 _,fun j hj=>absurd hj (by omega),J3 _ _⟩
  case round=>
   obtain⟨i,rfl,hi,hI,hB⟩:=hrel;by_cases hlt:i<n
   .obtain⟨x,hx⟩:∃ x,L[i]?=some x:=⟨_,List.getElem?_eq_getElem (by rw[HN.out];exact hlt)⟩;obtain⟨y,hy⟩:∃ x,M[i]?=some x:=⟨_,List.getElem?_eq_getElem (by rw[HM.out];exact hlt)⟩;obtain⟨g,o,rfl,hg,k1,k2⟩:=H3.out i x hx;obtain⟨g',o',rfl,hg',k1',k2'⟩:=H3'.out i y hy;obtain⟨x1,x2⟩:=x;obtain⟨y1,y2⟩:=y;obtain⟨HX,HY⟩:=zg hx hy;have m1:=(hB.out.cell (p:=⟨g,o+2*i,none⟩) hg).trans k1;have m2:=(hB.out.cell (p:=⟨g,o+2*i+1,none⟩) hg).trans k2;have m3:=(hB.out.cell (p:=⟨g',o'+2*i,none⟩) hg').trans k1';have m4:=(hB.out.cell (p:=⟨g',o'+2*i+1,none⟩) hg').trans k2';dsimp only at m1 m2 m3 m4;rw[Nat.mul_comm 2 i]at m1 m2 m3 m4;have b1:(0:Int)<=(i:Int):=by omega
    have b2:(i:Int)<(n:Int):=by omega
    have wi:IntKind.i64.wrap ((i:Int)+1)=(i:Int)+1:=by rw[O0 _ ⟨by omega,by omega⟩]
    clear k1 k2 k1' k2' hx hy hg hg';by_cases he1:x1=y1
    focus
     subst he1;by_cases he2:x2=y2
     .subst he2;go_wp2_with fail;refine a0k [0,1,2,3,4,5,6,7,8] 0 (fun w'=>w'.cell? ⟨g,o+i*2,none⟩=some (.string x1)/\w'.cell? ⟨g,o+i*2+1,none⟩=some (.string x2)/\w'.cell? ⟨g',o'+i*2,none⟩=some (.string x1)/\w'.cell? ⟨g',o'+i*2+1,none⟩=some (.string x2)) (by kernel_rfl) (by kernel_rfl) (by kernel_rfl) (by kernel_rfl) ⟨m1,m2,m3,m4⟩ ?_
      iterate 9
       refine⟨_,rfl,?_⟩;apply Exists.intro
       refine⟨.inl ⟨by rfl,?_⟩,?_⟩
       .rintro W' ⟨q1,q2,q3,q4⟩;go_simp;try with_reducible rfl
       go_frame
      refine Z7 (by kernel_rfl) ?_ _;simp only[a0Z];go_wp2_with fail;go_roundw
      case rel=>exact⟨i+1,rfl,by omega,fun j hj=>by
       rcases Cz j i with h | h
       .exact hI.out j h
       .obtain rfl:j=i:=by omega
        rw[HX.out,HY.out],hB.out.drew⟩
      case measure=>simp[intOf]<;>omega
     focus
      have n2:=x0z he2;have hne:decide (L=M)=false:=by
       rw[F9];rintro rfl;have:=HX.out.symm.trans HY.out;simp only[At,Jq]at this;exact he2 this.2
      have HNE:=hid hne;clear hne he2;go_wp2_with fail;refine a0k [0,1,2,3,4,5,6,7,8] 0 (fun w'=>w'.cell? ⟨g,o+i*2,none⟩=some (.string x1)/\w'.cell? ⟨g,o+i*2+1,none⟩=some (.string x2)/\w'.cell? ⟨g',o'+i*2,none⟩=some (.string x1)/\w'.cell? ⟨g',o'+i*2+1,none⟩=some (.string y2)) (by kernel_rfl) (by kernel_rfl) (by kernel_rfl) (by kernel_rfl) ⟨m1,m2,m3,m4⟩ ?_
    rotate_left
    focus
     have n1:=x0z he1;have hne:decide (L=M)=false:=by
      rw[F9];rintro rfl;have:=HX.out.symm.trans HY.out;simp only[At,Jq]at this;exact he1 this.1
     have HNE:=hid hne;clear hne he1;go_wp2_with fail;refine a0k [0,1,2,3,4,5,6,7,8] 0 (fun w'=>w'.cell? ⟨g,o+i*2,none⟩=some (.string x1)/\w'.cell? ⟨g,o+i*2+1,none⟩=some (.string x2)/\w'.cell? ⟨g',o'+i*2,none⟩=some (.string y1)/\w'.cell? ⟨g',o'+i*2+1,none⟩=some (.string y2)) (by kernel_rfl) (by kernel_rfl) (by kernel_rfl) (by kernel_rfl) ⟨m1,m2,m3,m4⟩ ?_
    all_goals
     iterate 9
      refine⟨_,rfl,?_⟩;apply Exists.intro
      refine⟨.inl ⟨by rfl,?_⟩,?_⟩
      .rintro W' ⟨q1,q2,q3,q4⟩;go_simp;try with_reducible rfl
      go_frame
     refine Z7 (by kernel_rfl) ?_ _;simp only[a0Z];go_wp2_with fail;go_ret
     exact⟨by rw[HNE.out];rfl,hB.out.drew⟩
   .obtain rfl:i=n:=by omega
    have hE:L=M:=by
     apply Bp
     intro j;by_cases hj:j<i
     .exact hI.out j hj
     .rw[U6 (by rw[HN.out];omega),U6 (by rw[HM.out];omega)]
    have HE:=hid hE;have q1:decide ((i:Int)<(i:Int))=false:=by simp
    clear hlt hE;go_wp2_with fail;go_ret
    exact⟨by rw[I8 HE.out];rfl,hB.out⟩
 .have q0:((n:Int) != (m:Int))=true:=by rw[bne_iff_ne];omega
  have hne:decide (L=M)=false:=by
   rw[F9];rintro rfl;exact hnm (hn.symm.trans hm)
  have HNE:=hid hne;clear hne hnm hn hm;go_enter Tryz.func18,Tryz.ntmps18;go_wp2_with fail;go_ret
  exact⟨by rw[HNE.out];rfl,J3 _ _⟩
open Go.Maps
attribute [local go_sem] Oper.semAt_some
def b0h:ByteArray:=⟨#[108,97,116,101]⟩
def e0E (q:Rat):(c0u q).size<=10000:=by
 unfold c0u
 split
 .exact (by decide:(0:Nat)<=10000)
 .rename_i h
  unfold ovQ at h;have h1:=a0z (txQ q);unfold txQ at h1 |-;rw[b0Y]at h1;rw[<- h1];simp only[J4,C9];have e1:(if decide (q.num<0)=true then [45] else ([]:List UInt8)).length<=1:=by split<;>simp
  have e2:(if q.den=1 then [] else (47:UInt8)::decDigits q.den).length<=4001:=by
   split
   .simp
   .simp only[J7,C9];omega
  omega
end
section
open Go.RowKit Go.Shelf
open Go.Lib (decDigits nDigits)
def LayS (w:World):Prop:=∃ ev,w.cell? ⟨0,0,none⟩=some ev/\(ev=.nilIface\/∃ te pe,ev=.iface te pe)
theorem LayS.call {w w':World}(h:LayS w)(hb:Below w.heap.size w w'):LayS w':=by
 obtain⟨ev,h1,h2⟩:=h;exact⟨ev,(hb.cell (Ek w _ h1)).trans h1,h2⟩
structure LayB (w:World):Prop where
 l:Lay w
 s:LayS w
theorem LayB.call {w w':World}(h:LayB w)(hb:Below w.heap.size w w'):LayB w':=⟨h.l.call hb,h.s.call hb⟩
theorem y0S (w:World)(h:LayS w):
 Calls Tryz.prog 163 #[.string b0h] w fun e w'=>(∃ te pe,e=.returned (.tuple #[.int .i64 0,.iface te pe]))/\Below w.heap.size w w':=by
 obtain⟨ev,h1,h2⟩:=h;have:=Any.strconv_Atoi_err Tryz.laysC172 b0h (by decide) (by decide) ev w h1 h2
 change Calls Tryz.prog 163 _ _ _ at this
 refine this.mono ?_;rintro e w' ⟨N,rfl,-,-,hb⟩;exact⟨⟨_,_,rfl⟩,hb⟩
end
section
open Go.ChangeShapes Go.WideShapes Go.ChangeAt Go.RowKit
def n0N {H:Type}{enc:TypeId×Value->H}{P:Program}{w:World}{b0:Nat}{sp:Nat->Bool}{held:Bool}{fuel:Nat}{t:TypeId}{cs:List Value}{d:DataW H}{p:List MemPlace}{ms}(ht:P.underlying t=some (.interface ms))(h:DataW.trod enc P w b0 sp held fuel t cs=some (d,p)):cs = [.nilIface]\/∃ u v,cs = [.iface u v]:=by
 cases fuel with
 | zero=>simp[DataW.trod]at h
 | succ n=>
  rcases cs with _ | ⟨a,_ | ⟨b,r⟩⟩
  .simp[DataW.trod,ht]at h
  .cases a<;>simp[DataW.trod,ht]at h
   .exact .inr ⟨_,_,rfl⟩
   .exact .inl rfl
  .simp[DataW.trod,ht]at h
def j0R : Tryz.prog.globalNamed "strconv.ErrSyntax" = some 0 := by kernel_rfl
def l0a:(Tryz.prog.globals[0]?).map (·.type)=some 169:=by kernel_rfl
def x0G {W:World}(h:laidMetH Tryz.prog Rows.noiseCallsRow.laid W)(hsh:W.ShapedOpen Tryz.prog):LayB W:=by
 refine⟨a1k h hsh,?_⟩;rw[Ih _ _ _ (by kernel_rfl)]at h;obtain⟨ps,⟨g0,t0,cs0,f0,p0,q0,hg0,ht0,hv0,hd0,⟨g1,t1,cs1,f1,p1,q1,hg1,ht1,hv1,hd1,⟨g2,t2,cs2,f2,p2,q2,hg2,ht2,hv2,hd2,⟨g3,t3,cs3,f3,p3,q3,hg3,ht3,hv3,hd3,⟨g4,t4,cs4,f4,p4,q4,hg4,ht4,hv4,hd4,⟨g5,t5,cs5,f5,p5,q5,hg5,ht5,hv5,hd5,_,_⟩,_⟩,_⟩,_⟩,_⟩,_⟩,_,_⟩:=h;obtain rfl:=K9 (j0R.symm.trans hg5);obtain rfl:=K9 (l0a.symm.trans ht5);have h1:=n0N Hl hd5;unfold World.var? at hv5;rw[j0R]at hv5;simp only[Lh]at hv5
 split at hv5
 .rename_i cs t fr ho
  cases hv5
  rcases h1 with h1 | ⟨u,v,h1⟩
  .have e:cs5 = #[.nilIface]:=by cases cs5;simpa using h1
   exact⟨.nilIface,by simp[World.cell?,ho,e],.inl rfl⟩
  .have e:cs5 = #[.iface u v]:=by cases cs5;simpa using h1
   exact⟨.iface u v,by simp[World.cell?,ho,e],.inr ⟨_,_,rfl⟩⟩
 .cases hv5
end
section
open Go.RowKit
def s0z:Nat->List (List UInt8)
 | 0=>[[]]
 | n+1=>(s0z n).flatMap fun l=>[l ++ [48],l ++ [49]]
def Io:=@List.mem_flatMap
theorem g0p:∀ {n:Nat} {l:List UInt8},l∈s0z n->l.length=n
 | 0,l,h=>by simp[s0z]at h;subst h;rfl
 | n+1,l,h=>by
  simp only[s0z,Io]at h;obtain⟨m,hm,hl⟩:=h;have:=g0p hm;simp at hl;rcases hl with rfl | rfl<;>simp[this]
def Kk:=@List.flatMap_cons
theorem e0o:∀ n,(s0z n).length=2 ^ n
 | 0=>rfl
 | n+1=>by
  have h:∀ L:List (List UInt8),(L.flatMap fun l=>[l ++ [48],l ++ [49]]).length=2*L.length:=fun L=>by
   induction L with
   | nil=>rfl
   | cons a r ih=>rw[Kk,J4,ih,J7];simp;omega
  rw[s0z,h,e0o n,M7];omega
def a0n (c:Nat->Nat):Nat->Nat
 | 0=>0
 | i+1=>a0n c i+c i
theorem a0d {c d:Nat->Nat}:∀ {N:Nat},(∀ i,i<N->c i=d i)->a0n c N=a0n d N
 | 0,_=>rfl
 | N+1,h=>by rw[a0n,a0n,a0d (fun i hi=>h i (by omega)),h N (by omega)]
theorem c0n (c d:Nat->Nat):∀ N,a0n (fun i=>c i+d i) N=a0n c N+a0n d N
 | 0=>rfl
 | N+1=>by rw[a0n,a0n,a0n,c0n c d N];omega
theorem a0E:∀ N,a0n (fun _=>0) N=0
 | 0=>rfl
 | N+1=>by rw[a0n,a0E N]
theorem f0S (j:Nat):∀ N,a0n (fun i=>if j=i then 1 else 0) N=if j<N then 1 else 0
 | 0=>by simp[a0n]
 | N+1=>by
  rw[a0n,f0S j N];by_cases h1:j<N
  .rw[U0 h1,Q0 (by omega),U0 (by omega)]
  .rw[Q0 h1];by_cases h2:j=N
   .rw[U0 h2,U0 (by omega)]
   .rw[Q0 h2,Q0 (by omega)]
def Ip:=@List.countP_cons
def Fd:=@Bool.true_and
theorem k0M {α : Type}(g : α->Bool×Nat)(N:Nat):∀ L:List α,(∀ x∈L,(g x).1=true->(g x).2<N)->a0n (fun i=>L.countP (fun x=>(g x).1 && decide ((g x).2=i))) N+L.countP (fun x => !(g x).1)=L.length
 | [],_=>by simp[a0E]
 | x::r,h=>by
  have ih:=k0M g N r (fun y hy=>h y (Cd _ hy));simp only[Ip];rw[c0n,J7];cases hx:(g x).1
  .simp only[Nj,Bool.not_false,Fp];rw[show a0n (fun i=>if false=true then 1 else 0) N=0 by simpa using a0E N];omega
  .have h1:=h x (Dt ..) hx;simp only[Fd,S5];rw[f0S,U0 h1];simp;omega
end
section
theorem b0r (f:Nat->Nat):∀ n,a0n f (n+1)=f 0+a0n (fun i=>f (i+1)) n
 | 0=>by simp[a0n]
 | n+1=>by rw[a0n,b0r f n,a0n];omega
theorem e0u (k:Nat)(f:Nat->Nat):∀ n,a0n (fun i=>k*f i) n=k*a0n f n
 | 0=>rfl
 | n+1=>by rw[a0n,a0n,e0u k f n,Ad]
theorem g0A {f g:Nat->Nat}:∀ {n:Nat},(∀ i,i<n->f i<=g i)->a0n f n<=a0n g n
 | 0,_=>Z3 _
 | n+1,h=>by
  rw[a0n,a0n];have:=g0A (n:=n) fun i hi=>h i (by omega)
  have:=h n (by omega);omega
def a0S {f:Nat->Nat}{m n:Nat}(h:m<=n):a0n f m<=a0n f n:=by
 induction n with
 | zero=>rw[show m=0 by omega];exact Z3 _
 | succ n ih=>
  rcases Cz n m with h1 | h1
  .rw[show m=n+1 by omega];exact Z3 _
  .have:=ih h1;rw[a0n];omega
def w0p {f:Nat->Nat}{i n:Nat}(h:i<n):f i<=a0n f n:=by
 have h1:a0n f (i+1)<=a0n f n:=a0S (by omega);rw[a0n]at h1;omega
def cvo (f g:Nat->Nat)(n:Nat):Nat:=a0n (fun s=>f s*g (n-s)) (n+1)
def a0L {f f' g g':Nat->Nat}{n:Nat}(h1:∀ s,s<=n->f s=f' s)(h2:∀ s,s<=n->g s=g' s):cvo f g n=cvo f' g' n:=by
 unfold cvo;refine a0d fun s hs=>?_
 rw[h1 s (by omega),h2 (n-s) (by omega)]
theorem n0k:∀ (n:Nat) (a:Nat->Nat->Nat),a0n (fun s=>a s (n-s)) (n+1)=a0n (fun s=>a (n-s) s) (n+1)
 | 0,a=>by simp[a0n]
 | n+1,a=>by
  have ih:=n0k n fun x y=>a (x+1) y
  rw[b0r];have e1:a0n (fun i=>a (i+1) (n+1-(i+1))) (n+1)=a0n (fun s=>a (s+1) (n-s)) (n+1):=a0d fun i _=>by rw[show n+1-(i+1)=n-i by omega]
  have e2:a0n (fun s=>a (n-s+1) s) (n+1)=a0n (fun s=>a (n+1-s) s) (n+1):=a0d fun i hi=>by rw[show n+1-i=n-i+1 by omega]
  rw[e1,ih,e2];show _=a0n (fun s=>a (n+1-s) s) (n+1)+a (n+1-(n+1)) (n+1)
  rw[Bh,Jc];omega
def g0m (f g:Nat->Nat)(n:Nat):cvo f g n=cvo g f n:=by
 unfold cvo;rw[n0k n fun x y=>f x*g y];exact a0d fun s _=>E9 _ _
theorem p0t:∀ (n:Nat) (a:Nat->Nat->Nat->Nat),a0n (fun s=>a0n (fun u=>a u (s-u) (n-s)) (s+1)) (n+1)=a0n (fun u=>a0n (fun t=>a u t (n-u-t)) (n-u+1)) (n+1)
 | 0,a=>by simp[a0n]
 | n+1,a=>by
  have ih:=p0t n fun x y z=>a (x+1) y z
  have e1:a0n (fun s=>a0n (fun u=>a u (s-u) (n+1-s)) (s+1)) (n+1+1)=a0n (fun s=>a 0 s (n+1-s)) (n+1+1)+a0n (fun s=>a0n (fun u=>a (u+1) (s-u) (n-s)) (s+1)) (n+1):=by
   have h:∀ s,a0n (fun u=>a u (s-u) (n+1-s)) (s+1)=a 0 s (n+1-s)+a0n (fun u=>a (u+1) (s-(u+1)) (n+1-s)) s:=fun s=>by rw[b0r,Jc]
   rw[a0d (fun s _=>h s),c0n]
   congr 1
   rw[b0r];simp only[a0n,U7];rw[<- a0n];refine a0d fun s _=>?_
   rw[show a0n (fun u=>a (u+1) (s+1-(u+1)) (n+1-(s+1))) s+a (s+1) (s+1-(s+1)) (n+1-(s+1))=a0n (fun u=>a (u+1) (s+1-(u+1)) (n+1-(s+1))) (s+1) from rfl];rw[show a0n (fun u=>a (u+1) (s-u) (n-s)) s+a (s+1) (s-s) (n-s)=a0n (fun u=>a (u+1) (s-u) (n-s)) (s+1) from rfl];refine a0d fun u _=>?_
   rw[show s+1-(u+1)=s-u by omega,show n+1-(s+1)=n-s by omega]
  rw[e1,ih,b0r (fun u=>a0n (fun t=>a u t (n+1-u-t)) (n+1-u+1))]
  congr 1
  refine a0d fun u hu=>?_
  rw[show n+1-(u+1)+1=n-u+1 by omega];exact a0d fun t _=>by rw[show n+1-(u+1)-t=n-u-t by omega]
def b0E (f g h:Nat->Nat)(n:Nat):cvo (cvo f g) h n=cvo f (cvo g h) n:=by
 unfold cvo;have e1:a0n (fun s=>a0n (fun s_1=>f s_1*g (s-s_1)) (s+1)*h (n-s)) (n+1)=a0n (fun s=>a0n (fun u=>f u*g (s-u)*h (n-s)) (s+1)) (n+1):=a0d fun s _=>by
  rw[E9,<- e0u];exact a0d fun u _=>E9 _ _
 have e2:a0n (fun s=>f s*a0n (fun s_1=>g s_1*h (n-s-s_1)) (n-s+1)) (n+1)=a0n (fun u=>a0n (fun t=>f u*g t*h (n-u-t)) (n-u+1)) (n+1):=a0d fun s _=>by
  rw[<- e0u];exact a0d fun u _=>by rw[G8]
 rw[e1,e2];exact p0t n fun x y z=>f x*g y*h z
def chi (c:Nat->Bool)(j:Nat):Nat:=if c j=true then 1 else 0
def a1R (c:Nat->Bool)(j:Nat):chi c j<=1:=by unfold chi;split<;>omega
def cvF (c:Nat->Bool)(f:Nat->Nat):Nat->Nat->Nat
 | _,0=>0
 | j,n+1=>(if c (j+1)=true then f n else 0)+cvF c f (j+1) n
theorem e0U {c:Nat->Bool}{f:Nat->Nat}:∀ (n j:Nat),(∀ i,j<i->c i=false)->cvF c f j n=0
 | 0,_,_=>rfl
 | n+1,j,h=>by
  rw[cvF,Q0 (by simp[h (j+1) (by omega)]),e0U n (j+1) fun i hi=>h i (by omega)]
theorem s0e (c:Nat->Bool)(f:Nat->Nat):∀ n j,cvF c f j n=a0n (fun i=>chi c (j+i+1)*f (n-(i+1))) n
 | 0,j=>rfl
 | n+1,j=>by
  rw[cvF,s0e c f n (j+1),b0r]
  congr 1
  .unfold chi;rw[show j+0+1=j+1 by omega,show n+1-(0+1)=n by omega]
   split<;>simp
  .exact a0d fun i _=>by rw[show j+1+i+1=j+(i+1)+1 by omega,show n-(i+1)=n+1-(i+1+1) by omega]
def s0c (c:Nat->Bool)(f:Nat->Nat)(n:Nat):cvo (chi c) f n=(if c 0=true then f n else 0)+cvF c f 0 n:=by
 unfold cvo;rw[b0r,s0e]
 congr 1
 .unfold chi;rw[Jc]
  split<;>simp
 .exact a0d fun i _=>by rw[show 0+i+1=i+1 by omega]
def dlt (j:Nat):Nat:=if j=0 then 1 else 0
def l0V (f:Nat->Nat)(n:Nat):cvo dlt f n=f n:=by
 unfold cvo;rw[b0r];have:a0n (fun i=>dlt (i+1)*f (n-(i+1))) n=a0n (fun _=>0) n:=a0d fun i _=>by unfold dlt;simp
 rw[this,a0E];unfold dlt;simp
def pw2 (j:Nat):Nat:=2 ^ j
open Go.RowKit
def sdx (N D:Nat):Nat->Nat×Bool
 | 0=>(N,decide (N≠0))
 | j+1=>if (sdx N D j).2=true then (if D<=2*(sdx N D j).1 then (2*(sdx N D j).1-D,decide (2*(sdx N D j).1≠D)) else (2*(sdx N D j).1,true)) else sdx N D j
def a0C (N D:Nat):Nat->Bool
 | 0=>false
 | j+1=>(sdx N D j).2 && decide (D<=2*(sdx N D j).1)
def a0i (N D:Nat):Nat->Bool
 | 0=>decide (N=0)
 | j+1=>(sdx N D j).2 && decide (2*(sdx N D j).1<=D)
theorem e0w {N D j:Nat}(h:(sdx N D j).2=false):∀ i,j<=i->(sdx N D i).2=false
 | 0,hi=>by rw[show j=0 by omega]at h;exact h
 | i+1,hi=>by
  rcases Cz i j with h1 | h1
  .rw[<- show j=i+1 by omega];exact h
  .have:=e0w h i h1;rw[sdx,Q0 (by simp[this])];exact this
def g0W {N D j:Nat}(h:(sdx N D j).2=false)(i:Nat)(hi:j<i):a0C N D i=false:=by
 cases i with
 | zero=>rfl
 | succ i=>rw[a0C,e0w h i (by omega)];rfl
def e0Y {N D j:Nat}(h:(sdx N D j).2=false)(i:Nat)(hi:j<i):a0i N D i=false:=by
 cases i with
 | zero=>omega
 | succ i=>rw[a0i,e0w h i (by omega)];rfl
theorem v0m {N D:Nat}(h:N<D):∀ j,(sdx N D j).1<D
 | 0=>h
 | j+1=>by
  have:=v0m h j;rw[sdx]
  split
  .split
   .dsimp only;omega
   .dsimp only;omega
  .exact this
def h0u (f:Nat->Bool)(n j:Nat):List Value:=(List.range (n+1)).map fun i=>.bool (decide (i<j) && f i)
@[simp] theorem tabL_length (f:Nat->Bool) (n j:Nat):(h0u f n j).length=n+1:=by simp[h0u]
def Hg:=@List.getElem?_range
def b0i {f:Nat->Bool}{n j i:Nat}(h:i<=n):(h0u f n j)[i]?=some (.bool (decide (i<j) && f i)):=by simp[h0u,Hg (show i<n+1 by omega)]
def f0P {f:Nat->Bool}{n j:Nat}(h:j<=n):(h0u f n j).set j (.bool (f j))=h0u f n (j+1):=by
 apply Bp
 intro i;rw[Ge];by_cases hi:j=i
 .subst hi;rw[U0 rfl,U0 (by simp;omega),b0i h];simp
 .rw[Q0 hi];by_cases h2:i<=n
  .rw[b0i h2,b0i h2]
   congr 2
   by_cases h3:i<j
   .simp[h3,show i<j+1 by omega]
   .simp[h3,show ¬ i<j+1 by omega]
  .rw[U6 (by simp;omega),U6 (by simp;omega)]
def j0Q {f:Nat->Bool}{n j:Nat}(h:∀ i,j<=i->f i=false):∀ k,j<=k->h0u f n k=h0u f n j:=by
 intro k hk;apply Bp
 intro i;by_cases h2:i<=n
 .rw[b0i h2,b0i h2];by_cases h3:i<j
  .simp[h3,show i<k by omega]
  .simp[h i (by omega)]
 .rw[U6 (by simp;omega),U6 (by simp;omega)]
def j0P {f:Nat->Bool}{n j:Nat}(h:f j=false):h0u f n (j+1)=h0u f n j:=by
 apply Bp
 intro i;by_cases h2:i<=n
 .rw[b0i h2,b0i h2];by_cases h3:i<j
  .simp[h3,show i<j+1 by omega]
  .by_cases h4:i=j
   .subst h4;simp[h]
   .simp[h3,show ¬ i<j+1 by omega]
 .rw[U6 (by simp;omega),U6 (by simp;omega)]
def p0x (f:Nat->Bool)(n:Nat):h0u f n 0=List.replicate (n+1) (.bool false):=by
 apply Bp
 intro i;by_cases h2:i<=n
 .rw[b0i h2,Ah,U0 (by omega)];simp
 .rw[U6 (by simp;omega),U6 (by simp;omega)]
def f0J (f:Nat->Bool)(n:Nat):List Value:=(List.range (n+1)).map fun i=>.bool (f i)
def d0S {f:Nat->Bool}{n i:Nat}(h:i<=n):(f0J f n)[i]?=some (.bool (f i)):=by simp[f0J,Hg (show i<n+1 by omega)]
def e0t (f:Nat->Bool)(n:Nat){j:Nat}(h:n<j):h0u f n j=f0J f n:=by
 unfold f0J;apply Bp
 intro i;by_cases h2:i<=n
 .rw[b0i h2];simp[Hg (show i<n+1 by omega),show i<j by omega]
 .rw[U6 (by simp;omega),U6 (by simp;omega)]
def cw:Nat->(List UInt8->Bool)->Nat
 | 0,P=>if P []=true then 1 else 0
 | n+1,P=>cw n (fun l=>P (48::l))+cw n (fun l=>P (49::l))
theorem a0D:∀ {n:Nat} {P Q:List UInt8->Bool},(∀ l,l.length=n->P l=Q l)->cw n P=cw n Q
 | 0,P,Q,h=>by rw[cw,cw,h [] rfl]
 | n+1,P,Q,h=>by
  rw[cw,cw,a0D (n:=n) (fun l hl=>h (48::l) (by simp[hl])),a0D (n:=n) (fun l hl=>h (49::l) (by simp[hl]))]
theorem l0R:∀ (n:Nat) (P:List UInt8->Bool),cw (n+1) P=cw n (fun l=>P (l ++ [48]))+cw n (fun l=>P (l ++ [49]))
 | 0,P=>by simp[cw]
 | n+1,P=>by
  rw[cw,l0R n,l0R n,cw,cw];simp only[Bk];omega
def o0S (L:List (List UInt8))(P:List UInt8->Bool):(L.flatMap fun l=>[l ++ [48],l ++ [49]]).countP P=L.countP (fun l=>P (l ++ [48]))+L.countP (fun l=>P (l ++ [49])):=by
 induction L with
 | nil=>rfl
 | cons a r ih=>
  rw[Kk,List.countP_append,ih];simp only[Ip,List.countP_nil];omega
theorem f0F:∀ (n:Nat) (P:List UInt8->Bool),(s0z n).countP P=cw n P
 | 0,P=>by simp[s0z,cw]
 | n+1,P=>by rw[s0z,o0S,f0F n,f0F n,<- l0R]
theorem j0t:∀ n,cw n (fun _=>true)=2 ^ n
 | 0=>rfl
 | n+1=>by rw[cw,j0t n,M7];omega
theorem c0s:∀ n,cw n (fun _=>false)=0
 | 0=>rfl
 | n+1=>by rw[cw,c0s n]
def b0B (N D K T:Nat)(P1 P0:List UInt8->Bool)(l:List UInt8):Bool:=
 (b0R N D K T l).1 && (if (b0R N D K T l).2.1=1 then P1 (l.drop (b0R N D K T l).2.2) else P0 (l.drop (b0R N D K T l).2.2))
def m0o {N D K T:Nat}{l:List UInt8}(h:sdB N D K T=true):b0R N D K T l=(true,sdV N D K T,0):=by
 unfold b0R;rw[U0 h]
def p0u {N D K T:Nat}{b:UInt8}{l:List UInt8}(h:sdB N D K T=false):b0R N D K T (b::l)=((b0R N D (2*K+(if b=49 then 1 else 0)) (2*T) l).1,(b0R N D (2*K+(if b=49 then 1 else 0)) (2*T) l).2.1,(b0R N D (2*K+(if b=49 then 1 else 0)) (2*T) l).2.2+1):=by
 rw[b0R,Q0 (by simp[h])]
def s0R {N D K T:Nat}(h:sdB N D K T=false):b0R N D K T []=(false,0,0):=by
 rw[b0R,Q0 (by simp[h])]
def i0k {N D K T:Nat}{P1 P0:List UInt8->Bool}{l:List UInt8}(h:sdB N D K T=true)(hv:sdV N D K T=1):b0B N D K T P1 P0 l=P1 l:=by
 unfold b0B;rw[m0o h];simp[hv]
def f0s {N D K T:Nat}{P1 P0:List UInt8->Bool}{l:List UInt8}(h:sdB N D K T=true)(hv:sdV N D K T=0):b0B N D K T P1 P0 l=P0 l:=by
 unfold b0B;rw[m0o h];simp[hv]
def i0l {N D K T:Nat}{P1 P0:List UInt8->Bool}{b:UInt8}{l:List UInt8}(h:sdB N D K T=false):b0B N D K T P1 P0 (b::l)=b0B N D (2*K+(if b=49 then 1 else 0)) (2*T) P1 P0 l:=by
 unfold b0B;rw[p0u h];simp
def s0j {N D K T:Nat}{P1 P0:List UInt8->Bool}(h:sdB N D K T=false):b0B N D K T P1 P0 []=false:=by
 unfold b0B;rw[s0R h];rfl
structure OpenC (N D K T j x:Nat):Prop where
 eq:N*T=K*D+x
 pos:0<x
 lt:x<D
 at_:sdx N D j=(x,true)
theorem OpenC.undec {N D K T j x:Nat}(h:OpenC N D K T j x):sdB N D K T=false:=by
 obtain⟨h1,h2,h3,-⟩:=h;unfold sdB;rw[Ie,F9,F9];omega
def s0P {N D K T x b:Nat}(h:N*T=K*D+x):N*(2*T)=2*(K*D)+2*x/\(2*K+b)*D=2*(K*D)+b*D:=by
 constructor
 .rw[Gb,h];omega
 .rw[As,G8]
theorem l0T {N D:Nat}{P1 P0:List UInt8->Bool}:∀ (n:Nat) {K T j x:Nat},OpenC N D K T j x->cw n (b0B N D K T P1 P0)=cvF (a0C N D) (fun m=>cw m P1) j n+cvF (a0i N D) (fun m=>cw m P0) j n
 | 0,K,T,j,x,h=>by rw[cw,s0j h.undec];rfl
 | n+1,K,T,j,x,h=>by
  have hu:=h.undec;obtain⟨h1,h2,h3,h4⟩:=h;have c0:cw n (fun l=>b0B N D K T P1 P0 (48::l))=cw n (b0B N D (2*K+0) (2*T) P1 P0):=a0D fun l _=>by rw[i0l hu];rfl
  have c1:cw n (fun l=>b0B N D K T P1 P0 (49::l))=cw n (b0B N D (2*K+1) (2*T) P1 P0):=a0D fun l _=>by rw[i0l hu];rfl
  rw[cw,c0,c1,cvF,cvF];have e1:=(s0P (b:=0) h1).1;have e2:(2*K+0)*D=2*(K*D):=by rw[Ao,G8]
  have e3:(2*K+1)*D=2*(K*D)+D:=by rw[As,G8,Ds]
  have eo:a0C N D (j+1)=decide (D<=2*x):=by rw[a0C,h4];simp
  have ez:a0i N D (j+1)=decide (2*x<=D):=by rw[a0i,h4];simp
  rw[eo,ez];rcases Gd (2*x) D with hc | hc | hc
  ·-- a 0 leaves it open,a 1 gives 0
   have hs:sdx N D (j+1)=(2*x,true):=by rw[sdx,h4];simp;omega
   have ih:=l0T (N:=N) (D:=D) (P1:=P1) (P0:=P0) n (K:=2*K+0) (T:=2*T) (j:=j+1) (x:=2*x) ⟨by omega,by omega,hc,hs⟩;have hd:sdB N D (2*K+1) (2*T)=true:=by unfold sdB;rw[M9,S5,S5];left;omega
   have hv:sdV N D (2*K+1) (2*T)=0:=by unfold sdV;rw[U0 (by omega)]
   rw[ih,a0D (n:=n) (P:=b0B N D (2*K+1) (2*T) P1 P0) (Q:=P0) (fun l _=>f0s hd hv),Q0 (by simp;omega),U0 (by simp;omega)];omega
  ·-- both give a result
   have hs:(sdx N D (j+1)).2=false:=by rw[sdx,h4];simp[hc]
   have hd0:sdB N D (2*K+0) (2*T)=true:=by unfold sdB;rw[M9,S5,S5];right;omega
   have hv0:sdV N D (2*K+0) (2*T)=1:=by unfold sdV;rw[Q0 (by omega)]
   have hd1:sdB N D (2*K+1) (2*T)=true:=by unfold sdB;rw[M9,S5,S5];left;omega
   have hv1:sdV N D (2*K+1) (2*T)=0:=by unfold sdV;rw[U0 (by omega)]
   rw[a0D (n:=n) (P:=b0B N D (2*K+0) (2*T) P1 P0) (Q:=P1) (fun l _=>i0k hd0 hv0),a0D (n:=n) (P:=b0B N D (2*K+1) (2*T) P1 P0) (Q:=P0) (fun l _=>f0s hd1 hv1),U0 (by simp;omega),U0 (by simp;omega),e0U n (j+1) (fun i hi=>g0W hs i hi),e0U n (j+1) (fun i hi=>e0Y hs i hi)]
   rfl
  ·-- a 1 leaves it open,a 0 gives 1
   have hs:sdx N D (j+1)=(2*x-D,true):=by
    rw[sdx,h4];show (if true=true then (if D<=2*x then (2*x-D,decide (2*x≠D)) else (2*x,true)) else (x,true))=_
    rw[U0 rfl,U0 (by omega),I8 (by omega)]
   have ih:=l0T (N:=N) (D:=D) (P1:=P1) (P0:=P0) n (K:=2*K+1) (T:=2*T) (j:=j+1) (x:=2*x-D) ⟨by omega,by omega,by omega,hs⟩;have hd:sdB N D (2*K+0) (2*T)=true:=by unfold sdB;rw[M9,S5,S5];right;omega
   have hv:sdV N D (2*K+0) (2*T)=1:=by unfold sdV;rw[Q0 (by omega)]
   rw[ih,a0D (n:=n) (P:=b0B N D (2*K+0) (2*T) P1 P0) (Q:=P1) (fun l _=>i0k hd hv),U0 (by simp;omega),Q0 (by simp;omega)];omega
def d0P {N D:Nat}(h:N<D)(n:Nat)(P1 P0:List UInt8->Bool):cw n (b0B N D 0 1 P1 P0)=cvo (chi (a0C N D)) (fun m=>cw m P1) n+cvo (chi (a0i N D)) (fun m=>cw m P0) n:=by
 rw[s0c,s0c];have o0:a0C N D 0=false:=rfl;rw[o0,Q0 (by simp)];by_cases h0:N=0
 .subst h0;have hs:(sdx 0 D 0).2=false:=by simp[sdx]
  have hd:sdB 0 D 0 1=true:=by simp[sdB]
  have hv:sdV 0 D 0 1=0:=by simp[sdV]
  rw[a0D (n:=n) (Q:=P0) (fun l _=>f0s hd hv),show a0i 0 D 0=true from by simp[a0i],U0 rfl,e0U n 0 (fun i hi=>g0W hs i hi),e0U n 0 (fun i hi=>e0Y hs i hi)];omega
 .have hz:a0i N D 0=false:=by simp[a0i,h0]
  rw[hz,Q0 (by simp),l0T n (K:=0) (T:=1) (j:=0) (x:=N) ⟨by omega,by omega,h,by simp[sdx,h0]⟩];omega
end
end Go.Proofs.YtfkpfpobmobnbaaGreatDoor
namespace Go.Proofs
open Go.Shelf
def Tryz.lays145_ren:Go.Shelf.Ren:=⟨fun | 145=>249 | 220=>307 | 219=>336 | 217=>350 | 225=>351 | 224=>352 | 267=>353 | 266=>361 | 314=>362 | n=>n,fun | 9=>9 | 4=>4 | 59=>233 | 3=>3 | 5=>5 | 46=>174 | 146=>247 | 51=>224 | n=>n,fun | 1=>3 | n=>n⟩
theorem Tryz.lays145:Go.Proofs.Lays.n145 Tryz.prog Tryz.lays145_ren:={
 mixed:=by kernel_rfl
 f145:=Tryz.func249.trans (congrArg some (by kernel_rfl))
 f217:=Tryz.func350.trans (congrArg some (by kernel_rfl))
 f219:=Tryz.func336.trans (congrArg some (by kernel_rfl))
 f220:=Tryz.func307.trans (congrArg some (by kernel_rfl))
 f224:=Tryz.func352.trans (congrArg some (by kernel_rfl))
 f225:=Tryz.func351.trans (congrArg some (by kernel_rfl))
 f266:=Tryz.func361.trans (congrArg some (by kernel_rfl))
 f267:=Tryz.func353.trans (congrArg some (by kernel_rfl))
 f314:=Tryz.func362.trans (congrArg some (by kernel_rfl))
 t3:=U8
 a3:=Ex
 z3:=Ed
 v3:=Ci
 t4:=Bm
 a4:=Fo
 z4:=Ev
 v4:=Cv
 t5:=Bn
 a5:=Gh
 z5:=Fe
 v5:=Dj
 t9:=Aq
 a9:=Ey
 z9:=Ee
 v9:=Cj
 t46:=Df
 a46:=Fv
 z46:=Fa
 v46:=Dq
 t51:=Du
 a51:=Gt
 z51:=Fz
 v51:=Eg
 t59:=Tryz.underlying233
 a59:=Tryz.isAgg233
 z59:=Tryz.sizeOf233
 v59:=Tryz.zeroValue233
 t146:=Tryz.underlying247
 a146:=Tryz.isAgg247
 z146:=Tryz.sizeOf247
 v146:=Tryz.zeroValue247
 g1:=by kernel_rfl }
theorem Tryz.strings_Cut (s sep:ByteArray)(m:Int)(w:World)(hs:s.size<4294967281)(hm:w.cell? ⟨3,0,none⟩=some (.int .i64 m)):
 Calls Tryz.prog 249 #[.string s,.string sep] w fun e w'=>e=.returned (.tuple #[.string ⟨(Lib.cut s.data.toList sep.data.toList).1.toArray⟩,.string ⟨(Lib.cut s.data.toList sep.data.toList).2.1.toArray⟩,.bool (Lib.cut s.data.toList sep.data.toList).2.2])/\∃ n,w'=w.drewN n:=Any.strings_Cut Tryz.lays145 s sep m w hs hm
end Go.Proofs
namespace Go.Proofs.YtfkpfpobmobnbaaGreatDoor
section
open Go.RowKit Go.Shelf
def b1M (w:World)(s:ByteArray)(hs:s.size<=100000000)(hL:Lay w):
 Calls Tryz.prog 249 #[.string s,.string ⟨#[47]⟩] w fun e w'=>e=.returned (.tuple #[.string (cW s),.string (cB s),.bool (cS s)])/\Below w.heap.size w w':=by
 obtain⟨m,hm⟩:=hL.max;refine (Tryz.strings_Cut s ⟨#[47]⟩ m w (by omega) hm).mono ?_;rintro e w' ⟨rfl,n,rfl⟩;exact⟨rfl,a0m br0 n⟩
structure Cuts (s W B D:ByteArray)(S M I fb:Bool):Prop where
 cut:∀ w,Lay w->Calls Tryz.prog 249 #[.string s,.string ⟨#[47]⟩] w fun e w'=>e=.returned (.tuple #[.string W,.string B,.bool S])/\Below w.heap.size w w'
 int:∀ w,Calls Tryz.prog 250 #[.string W] w fun e w'=>e=.returned (.tuple #[.bool M,.string D,.bool I])/\Below w.heap.size w w'
 form:∀ w,Calls Tryz.prog 251 #[.string B] w fun e w'=>e=.returned (.bool fb)/\Below w.heap.size w w'
def s0f (s:ByteArray)(hs:s.size<=1000000):Cuts s (cW s) (cB s) (iD (cW s)) (cS s) (iM (cW s)) (iB (cW s)) (fB (cB s)):={
 cut:=fun w hL=>b1M w s (by omega) hL
 int:=fun w=>k0D w (cW s) (by have:=j0z s;omega)
 form:=fun w=>k0x w (cB s) (by have:=m0b s;omega) }
def Nc:=@Go.Proofs.Tryz.func190
def Ly:=@Go.Proofs.Tryz.ntmps190
def Fh:=@Go.Proofs.Tryz.results190
def a1C (w:World)(s W B D:ByteArray)(S M I fb:Bool)(HL:Hid (Lay w))(HC:Cuts s W B D S M I fb)
 (h:(I && (!S || (decide (D≠⟨#[48]⟩) && fb && decide (B≠⟨#[48]⟩) && decide (B≠⟨#[49]⟩))))=false):
 Calls Tryz.prog 190 #[.string s] w fun e w'=>e=.returned (.tuple #[.agg #[.bool false,.slice none 0 0,.slice none 0 0],.int .i64 3])/\Below w.heap.size w w':=by
 have key:(I=false)\/(I=true/\S=true/\(D=⟨#[48]⟩\/(¬ D=⟨#[48]⟩/\(fb=false\/(fb=true/\(B=⟨#[48]⟩\/(¬ B=⟨#[48]⟩/\B=⟨#[49]⟩))))))):=by
  by_cases h1:D=⟨#[48]⟩<;>by_cases h2:B=⟨#[48]⟩<;>by_cases h3:B=⟨#[49]⟩<;>cases I<;>cases S<;>cases fb<;>simp[h1,h2,h3]at h |-
 have HK:=hid HC;clear HC h;obtain⟨t0,t1⟩:=zg (Blk.new w #[.bool false,.slice none 0 0,.slice none 0 0] 126) ((J3 w.heap.size w).alloc nr (.cells #[.bool false,.slice none 0 0,.slice none 0 0] 126));have t2:=hid (HL.out.call t1.out);rcases key with rfl | ⟨rfl,rfl,rfl | ⟨h1,rfl | ⟨rfl,rfl | ⟨h2,rfl⟩⟩⟩⟩
 .cases S
  all_goals
   go_enter Nc,Ly
   go_wp2_with (first
    | (go_at_call 249;refine (HK.out.cut _ t2.out).mono ?_;rintro e w1 ⟨rfl,hb1⟩
       obtain⟨x1,y1⟩:=zg (t0.out.call hb1) (a0a t1.out hb1);clear hb1)
    | (go_at_call 250;refine (HK.out.int _).mono ?_;rintro e w2 ⟨rfl,hb2⟩
       obtain⟨x2,y2⟩:=zg (x1.out.call hb2) (a0a y1.out hb2);clear hb2;have d0:=x2.out.cell 0;have d1:=x2.out.cell 1;have d2:=x2.out.cell 2;have e0:=x2.out.free 0;have e1:=x2.out.free 1;have e2:=x2.out.free 2;simp at d0 d1 d2)
    | (go_at_call 251;refine (HK.out.form _).mono ?_;rintro e w3 ⟨rfl,hb3⟩
       obtain⟨x3,y3⟩:=zg (x2.out.call hb3) (a0a y2.out hb3);clear hb3 d0 d1 d2 e0 e1 e2;have d0:=x3.out.cell 0;have d1:=x3.out.cell 1;have d2:=x3.out.cell 2;have e0:=x3.out.free 0;have e1:=x3.out.free 1;have e2:=x3.out.free 2;simp at d0 d1 d2)
    | fail)
   first
    | (obtain⟨s1,s2⟩:=d0k x3.out false none none 0 0 0 0
       have f0:=s2.cell 0;have f1:=s2.cell 1;have f2:=s2.cell 2;simp at f0 f1 f2;refine J6 (v:=.tuple #[.agg #[.bool false,.slice none 0 0,.slice none 0 0],.int .i64 3]) (by simp[results,Fh,go_sem,f0,f1,f2]) rfl ⟨rfl,?_⟩;exact ((y3.out.setCell nr _).setCell nr _).setCell nr _)
    | (obtain⟨s1,s2⟩:=d0k x2.out false none none 0 0 0 0
       have f0:=s2.cell 0;have f1:=s2.cell 1;have f2:=s2.cell 2;simp at f0 f1 f2;refine J6 (v:=.tuple #[.agg #[.bool false,.slice none 0 0,.slice none 0 0],.int .i64 3]) (by simp[results,Fh,go_sem,f0,f1,f2]) rfl ⟨rfl,?_⟩;exact ((y2.out.setCell nr _).setCell nr _).setCell nr _)
 all_goals (try have i1:=a0I (l:=[48]) h1)
 all_goals (try have i2:=a0I (l:=[48]) h2)
 all_goals
  go_enter Nc,Ly
  go_wp2_with (first
   | (go_at_call 249;refine (HK.out.cut _ t2.out).mono ?_;rintro e w1 ⟨rfl,hb1⟩
      obtain⟨x1,y1⟩:=zg (t0.out.call hb1) (a0a t1.out hb1);clear hb1)
   | (go_at_call 250;refine (HK.out.int _).mono ?_;rintro e w2 ⟨rfl,hb2⟩
      obtain⟨x2,y2⟩:=zg (x1.out.call hb2) (a0a y1.out hb2);clear hb2;have d0:=x2.out.cell 0;have d1:=x2.out.cell 1;have d2:=x2.out.cell 2;have e0:=x2.out.free 0;have e1:=x2.out.free 1;have e2:=x2.out.free 2;simp at d0 d1 d2)
   | (go_at_call 251;refine (HK.out.form _).mono ?_;rintro e w3 ⟨rfl,hb3⟩
      obtain⟨x3,y3⟩:=zg (x2.out.call hb3) (a0a y2.out hb3);clear hb3 d0 d1 d2 e0 e1 e2;have d0:=x3.out.cell 0;have d1:=x3.out.cell 1;have d2:=x3.out.cell 2;have e0:=x3.out.free 0;have e1:=x3.out.free 1;have e2:=x3.out.free 2;simp at d0 d1 d2)
   | fail)
  first
   | (obtain⟨s1,s2⟩:=d0k x3.out false none none 0 0 0 0
      have f0:=s2.cell 0;have f1:=s2.cell 1;have f2:=s2.cell 2;simp at f0 f1 f2;refine J6 (v:=.tuple #[.agg #[.bool false,.slice none 0 0,.slice none 0 0],.int .i64 3]) (by simp[results,Fh,go_sem,f0,f1,f2]) rfl ⟨rfl,?_⟩;exact ((y3.out.setCell nr _).setCell nr _).setCell nr _)
   | (obtain⟨s1,s2⟩:=d0k x2.out false none none 0 0 0 0
      have f0:=s2.cell 0;have f1:=s2.cell 1;have f2:=s2.cell 2;simp at f0 f1 f2;refine J6 (v:=.tuple #[.agg #[.bool false,.slice none 0 0,.slice none 0 0],.int .i64 3]) (by simp[results,Fh,go_sem,f0,f1,f2]) rfl ⟨rfl,?_⟩;exact ((y2.out.setCell nr _).setCell nr _).setCell nr _)
def y0a (w:World)(s W B D:ByteArray)(S M fb:Bool)(HL:Hid (Lay w))(HC:Cuts s W B D S M true fb)
 (h:S=false\/(S=true/\¬ D=⟨#[48]⟩/\¬ B=⟨#[48]⟩/\¬ B=⟨#[49]⟩/\fb=true)) (hl:4000<D.size\/(¬ 4000<D.size/\S=true/\4000<B.size)):
 Calls Tryz.prog 190 #[.string s] w fun e w'=>e=.returned (.tuple #[.agg #[.bool false,.slice none 0 0,.slice none 0 0],.int .i64 5])/\Below w.heap.size w w':=by
 have HK:=hid HC;clear HC;obtain⟨t0,t1⟩:=zg (Blk.new w #[.bool false,.slice none 0 0,.slice none 0 0] 126) ((J3 w.heap.size w).alloc nr (.cells #[.bool false,.slice none 0 0,.slice none 0 0] 126));have t2:=hid (HL.out.call t1.out);rcases h with rfl | ⟨rfl,h1,h2,h3,rfl⟩
 focus
  have q0:decide ((4000:Int)<(D.size:Int))=true:=by
   rcases hl with hl | ⟨_,hl,_⟩
   .simp;omega
   .cases hl
  clear hl
 rotate_left
 focus
  have i1:=a0I (l:=[48]) h1;have i2:=a0I (l:=[48]) h2;have i3:=a0I (l:=[49]) h3;rcases hl with hl | ⟨hl,-,hl2⟩
  focus
   have q0:decide ((4000:Int)<(D.size:Int))=true:=by simp;omega
   clear hl
  rotate_left
  focus
   have q0:decide ((4000:Int)<(D.size:Int))=false:=by simp;omega
   have q1:decide ((4000:Int)<(B.size:Int))=true:=by simp;omega
   clear hl hl2
 all_goals
  go_enter Nc,Ly
  go_wp2_with (first
   | (go_at_call 249;refine (HK.out.cut _ t2.out).mono ?_;rintro e w1 ⟨rfl,hb1⟩
      obtain⟨x1,y1⟩:=zg (t0.out.call hb1) (a0a t1.out hb1);clear hb1)
   | (go_at_call 250;refine (HK.out.int _).mono ?_;rintro e w2 ⟨rfl,hb2⟩
      obtain⟨x2,y2⟩:=zg (x1.out.call hb2) (a0a y1.out hb2);clear hb2;have d0:=x2.out.cell 0;have d1:=x2.out.cell 1;have d2:=x2.out.cell 2;have e0:=x2.out.free 0;have e1:=x2.out.free 1;have e2:=x2.out.free 2;simp at d0 d1 d2)
   | (go_at_call 251;refine (HK.out.form _).mono ?_;rintro e w3 ⟨rfl,hb3⟩
      obtain⟨x3,y3⟩:=zg (x2.out.call hb3) (a0a y2.out hb3);clear hb3 d0 d1 d2 e0 e1 e2;have d0:=x3.out.cell 0;have d1:=x3.out.cell 1;have d2:=x3.out.cell 2;have e0:=x3.out.free 0;have e1:=x3.out.free 1;have e2:=x3.out.free 2;simp at d0 d1 d2)
   | fail)
  first
   | (obtain⟨s1,s2⟩:=d0k x3.out false none none 0 0 0 0
      have f0:=s2.cell 0;have f1:=s2.cell 1;have f2:=s2.cell 2;simp at f0 f1 f2;refine J6 (v:=.tuple #[.agg #[.bool false,.slice none 0 0,.slice none 0 0],.int .i64 5]) (by simp[results,Fh,go_sem,f0,f1,f2]) rfl ⟨rfl,?_⟩;exact ((y3.out.setCell nr _).setCell nr _).setCell nr _)
   | (obtain⟨s1,s2⟩:=d0k x2.out false none none 0 0 0 0
      have f0:=s2.cell 0;have f1:=s2.cell 1;have f2:=s2.cell 2;simp at f0 f1 f2;refine J6 (v:=.tuple #[.agg #[.bool false,.slice none 0 0,.slice none 0 0],.int .i64 5]) (by simp[results,Fh,go_sem,f0,f1,f2]) rfl ⟨rfl,?_⟩;exact ((y2.out.setCell nr _).setCell nr _).setCell nr _)
def e0W {s:ByteArray}(h:allDig s.data.toList)(hs:¬ 4000<s.size):(limbs (bN s)).length<=1000000:=by
 refine j0s h ?_;have:s.data.toList.length=s.size:=Ay;omega
def d0I {s:ByteArray}(h:cS s=false):qD s=⟨#[49]⟩:=by simp[qD,h]
def c0i {s:ByteArray}(h:cS s=true):qD s=cB s:=by simp[qD,h]
def IsF (w:World)(v:Value)(m:Bool)(n d:Nat):Prop:=∃ N D,v=.agg #[.bool m,N,D]/\IsN .u64 w N n/\IsN .u64 w D d
def RetF (x:Int)(m:Bool)(n d:Nat)(e:Ending)(w':World):Prop:=∃ v,e=.returned (.tuple #[v,.int .i64 x])/\(x=0->IsF w' v m n d)/\(x≠0->v=.agg #[.bool false,.slice none 0 0,.slice none 0 0])
theorem RetF.err {x:Int}{m:Bool}{n d:Nat}{w':World}(h:x≠0):RetF x m n d (.returned (.tuple #[.agg #[.bool false,.slice none 0 0,.slice none 0 0],.int .i64 x])) w':=⟨_,rfl,fun e=>absurd e h,fun _=>rfl⟩
def y0b (w:World)(s W B D:ByteArray)(M:Bool)(HL:Hid (Lay w))(HC:Cuts s W B D true M true true)
 (h1:¬ D=⟨#[48]⟩) (h2:¬ B=⟨#[48]⟩) (h3:¬ B=⟨#[49]⟩) (hl1:¬ 4000<D.size) (hl2:¬ 4000<B.size) (hd1:allDig D.data.toList) (hd2:allDig B.data.toList):
 Calls Tryz.prog 190 #[.string s] w fun e w'=>RetF (if Nat.gcd (bN D) (bN B)=1 then 0 else 3) M (bN D) (bN B) e w'/\Below w.heap.size w w':=by
 obtain⟨xc,hxc⟩:∃ x:Int,(if Nat.gcd (bN D) (bN B)=1 then 0 else 3)=x:=⟨_,rfl⟩;rw[hxc];have HXC:=hid hxc;clear hxc;have HK:=hid HC;clear HC;obtain⟨t0,t1⟩:=zg (Blk.new w #[.bool false,.slice none 0 0,.slice none 0 0] 126) ((J3 w.heap.size w).alloc nr (.cells #[.bool false,.slice none 0 0,.slice none 0 0] 126));have t2:=hid (HL.out.call t1.out);have i1:=a0I (l:=[48]) h1;have i2:=a0I (l:=[48]) h2;have i3:=a0I (l:=[49]) h3;have q0:decide ((4000:Int)<(D.size:Int))=false:=by simp;omega
 have q1:decide ((4000:Int)<(B.size:Int))=false:=by simp;omega
 obtain⟨L1,L2⟩:=zg (e0W hd1 hl1) (e0W hd2 hl2);have P1:=fun W=>hid (c0v W D hd1 (by omega))
 have P2:=fun W=>hid (c0v W B hd2 (by omega))
 clear hd1 hd2 h1 h2 h3 hl1 hl2;go_enter Nc,Ly
 go_wp2_with (first
  | (go_at_call 249;refine (HK.out.cut _ t2.out).mono ?_;rintro e w1 ⟨rfl,hb1⟩
     obtain⟨x1,y1⟩:=zg (t0.out.call hb1) (a0a t1.out hb1);clear hb1)
  | (go_at_call 250;refine (HK.out.int _).mono ?_;rintro e w2 ⟨rfl,hb2⟩
     obtain⟨x2,y2⟩:=zg (x1.out.call hb2) (a0a y1.out hb2);clear hb2)
  | (go_at_call 251;refine (HK.out.form _).mono ?_;rintro e w3 ⟨rfl,hb3⟩
     obtain⟨x3,y3⟩:=zg (x2.out.call hb3) (a0a y2.out hb3);clear hb3)
  | fail)
 refine (P1 _).out.mono ?_;rintro e w4 ⟨⟨v4,rfl,hv4⟩,hb4⟩;obtain⟨x4,y4,N4⟩:=zc (x3.out.call hb4) (a0a y3.out hb4) hv4;clear hb4 hv4;obtain⟨a4,c4,rfl,_⟩:=N4.out.openI;obtain⟨k1,hk1⟩:=gn ((limbs (dv D.data.toList)).length);rw[hk1]at N4 |-;clear P1;go_wp2_with fail;refine (P2 _).out.mono ?_;rintro e w5 ⟨⟨v5,rfl,hv5⟩,hb5⟩;obtain⟨x5,y5,N5,D5⟩:=zd (x4.out.call hb5) (a0a y4.out hb5) (N4.out.call hb5) hv5;clear hb5 hv5;obtain⟨a5,c5,rfl,_⟩:=D5.out.openI;obtain⟨k2,hk2⟩:=gn ((limbs (dv B.data.toList)).length);rw[hk2]at D5 |-;clear P2;go_wp2_with fail;obtain⟨z5,b5⟩:=zg (Blk.new w5 #[.bool M,.slice a4 k1 c4,.slice a5 k2 c5] 126) ((J3 w5.heap.size w5).alloc nr (.cells #[.bool M,.slice a4 k1 c4,.slice a5 k2 c5] 126));refine (a1o _ _ _ _ _ (N5.out.call b5.out) (D5.out.call b5.out) L1.out L2.out).mono ?_;rintro e w6 ⟨⟨v6,rfl,hv6⟩,hb6⟩;obtain⟨z6,x6,y6,N6,D6,G6⟩:=kx (z5.out.call hb6) ((x5.out.call b5.out).call hb6) (a0a (a0a y5.out b5.out) hb6) ((N5.out.call b5.out).call hb6) ((D5.out.call b5.out).call hb6) hv6;clear hb6 hv6;obtain⟨a6,c6,rfl,_⟩:=G6.out.openI;go_wp2_with fail;refine zv (l0D _ _ _ G6.out) ?_;by_cases hG:Nat.gcd (bN D) (bN B)=1
 .have hO:isO (Nat.gcd (dv D.data.toList) (dv B.data.toList))=true:=e0h.2 hG;have X0:=hid (show xc=0 from by rw[<- HXC.out,U0 hG]);rw[hO];have d0:=x6.out.cell 0;have d1:=x6.out.cell 1;have d2:=x6.out.cell 2;have e0:=x6.out.free 0;have e1:=x6.out.free 1;have e2:=x6.out.free 2;have g0:=z6.out.cell 0;have g1:=z6.out.cell 1;have g2:=z6.out.cell 2;simp at d0 d1 d2 g0 g1 g2;clear hO;clear hG;go_wp2_with fail;obtain⟨s1,s2⟩:=d0k x6.out M a4 a5 k1 c4 k2 c5;have f0:=s2.cell 0;have f1:=s2.cell 1;have f2:=s2.cell 2;simp at f0 f1 f2;refine J6 (v:=.tuple #[.agg #[.bool M,.slice a4 k1 c4,.slice a5 k2 c5],.int .i64 0]) (by simp[results,Fh,go_sem,f0,f1,f2]) rfl ⟨by rw[X0.out];exact⟨_,rfl,fun _=>⟨_,_,rfl,s1 _ _ _ N6.out,s1 _ _ _ D6.out⟩,fun h=>absurd rfl h⟩,?_⟩;exact ((y6.out.setCell nr _).setCell nr _).setCell nr _
 .have hO:isO (Nat.gcd (dv D.data.toList) (dv B.data.toList))=false:=by
   rw[Kj];exact fun h=>hG (e0h.1 h)
  have X0:=hid (show xc=3 from by rw[<- HXC.out,Q0 hG]);rw[hO];have d0:=x6.out.cell 0;have d1:=x6.out.cell 1;have d2:=x6.out.cell 2;have e0:=x6.out.free 0;have e1:=x6.out.free 1;have e2:=x6.out.free 2;simp at d0 d1 d2;clear hO;clear hG;go_wp2_with fail;obtain⟨s1,s2⟩:=d0k x6.out false none none 0 0 0 0;have f0:=s2.cell 0;have f1:=s2.cell 1;have f2:=s2.cell 2;simp at f0 f1 f2;refine J6 (v:=.tuple #[.agg #[.bool false,.slice none 0 0,.slice none 0 0],.int .i64 3]) (by simp[results,Fh,go_sem,f0,f1,f2]) rfl ⟨by rw[X0.out];exact RetF.err (by decide),?_⟩;exact ((y6.out.setCell nr _).setCell nr _).setCell nr _
def a1B (w:World)(s W B D:ByteArray)(M fb:Bool)(HL:Hid (Lay w))(HC:Cuts s W B D false M true fb)
 (hl1:¬ 4000<D.size) (hd1:allDig D.data.toList):
 Calls Tryz.prog 190 #[.string s] w fun e w'=>RetF 0 M (bN D) 1 e w'/\Below w.heap.size w w':=by
 have HK:=hid HC;clear HC;obtain⟨t0,t1⟩:=zg (Blk.new w #[.bool false,.slice none 0 0,.slice none 0 0] 126) ((J3 w.heap.size w).alloc nr (.cells #[.bool false,.slice none 0 0,.slice none 0 0] 126));have t2:=hid (HL.out.call t1.out);have q0:decide ((4000:Int)<(D.size:Int))=false:=by simp;omega
 have P1:=fun W=>hid (c0v W D hd1 (by omega))
 have P2:=fun W=>hid (c0v W ⟨#[49]⟩ (by intro b hb;simp at hb;subst hb;rfl) (Nu (J5 _)))
 clear hd1 hl1;go_enter Nc,Ly
 go_wp2_with (first
  | (go_at_call 249;refine (HK.out.cut _ t2.out).mono ?_;rintro e w1 ⟨rfl,hb1⟩
     obtain⟨x1,y1⟩:=zg (t0.out.call hb1) (a0a t1.out hb1);clear hb1)
  | (go_at_call 250;refine (HK.out.int _).mono ?_;rintro e w2 ⟨rfl,hb2⟩
     obtain⟨x2,y2⟩:=zg (x1.out.call hb2) (a0a y1.out hb2);clear hb2)
  | fail)
 refine (P1 _).out.mono ?_;rintro e w4 ⟨⟨v4,rfl,hv4⟩,hb4⟩;obtain⟨x4,y4,N4⟩:=zc (x2.out.call hb4) (a0a y2.out hb4) hv4;clear hb4 hv4;obtain⟨a4,c4,rfl,_⟩:=N4.out.openI;obtain⟨k1,hk1⟩:=gn ((limbs (dv D.data.toList)).length);rw[hk1]at N4 |-;clear P1;go_wp2_with fail;refine (P2 _).out.mono ?_;rintro e w5 ⟨⟨v5,rfl,hv5⟩,hb5⟩;obtain⟨x5,y5,N5,D5⟩:=zd (x4.out.call hb5) (a0a y4.out hb5) (N4.out.call hb5) (show IsN .u64 w5 v5 1 from hv5);clear hb5 hv5;obtain⟨a5,c5,rfl,_⟩:=D5.out.openI;obtain⟨k2,hk2⟩:=gn ((limbs 1).length);rw[hk2]at D5 |-;clear P2;obtain⟨z6,b5⟩:=zg (Blk.new w5 #[.bool M,.slice a4 k1 c4,.slice a5 k2 c5] 126) ((J3 w5.heap.size w5).alloc nr (.cells #[.bool M,.slice a4 k1 c4,.slice a5 k2 c5] 126));obtain⟨x6,y6,N6,D6⟩:=zd (x5.out.call b5.out) (a0a y5.out b5.out) (N5.out.call b5.out) (D5.out.call b5.out);have d0:=x6.out.cell 0;have d1:=x6.out.cell 1;have d2:=x6.out.cell 2;have e0:=x6.out.free 0;have e1:=x6.out.free 1;have e2:=x6.out.free 2;have g0:=z6.out.cell 0;have g1:=z6.out.cell 1;have g2:=z6.out.cell 2;simp at d0 d1 d2 g0 g1 g2;go_wp2_with fail;obtain⟨s1,s2⟩:=d0k x6.out M a4 a5 k1 c4 k2 c5;have f0:=s2.cell 0;have f1:=s2.cell 1;have f2:=s2.cell 2;simp at f0 f1 f2;refine J6 (v:=.tuple #[.agg #[.bool M,.slice a4 k1 c4,.slice a5 k2 c5],.int .i64 0]) (by simp[results,Fh,go_sem,f0,f1,f2]) rfl ⟨⟨_,rfl,fun _=>⟨_,_,rfl,s1 _ _ _ N6.out,s1 _ _ _ D6.out⟩,fun h=>absurd rfl h⟩,?_⟩;exact ((y6.out.setCell nr _).setCell nr _).setCell nr _
def l0K (w:World)(s:ByteArray)(hs:s.size<=1000000)(hL:Lay w):
 Calls Tryz.prog 190 #[.string s] w fun e w'=>RetF (qE s) (iM (cW s)) (bN (iD (cW s))) (bN (qD s)) e w'/\Below w.heap.size w w':=by
 have HC:=s0f s hs;have HL:=hid hL;by_cases hq:qB s=true
 .have hi:=c0p hq;rw[hi]at HC;have hdD:=e0P (d0e hi);have hcS:cS s=false\/(cS s=true/\¬ iD (cW s)=⟨#[48]⟩/\¬ cB s=⟨#[48]⟩/\¬ cB s=⟨#[49]⟩/\fB (cB s)=true):=by
   have hq':=hq;unfold qB at hq';simp only[I9,M9,Au,S5]at hq';rcases hq'.2 with h | h
   .exact .inl h
   .cases hc:cS s
    .exact .inl rfl
    .exact .inr ⟨rfl,h.1.1.1,h.1.2,h.2,h.1.1.2⟩
  by_cases hl:qL s=true
  .have e:qE s=5:=by simp[qE,hq,hl]
   rw[e];unfold qL at hl;simp only[M9,S5]at hl;refine (y0a w s _ _ _ _ _ _ HL HC hcS ?_).mono ?_
   .by_cases h4:4000<(iD (cW s)).size
    .exact .inl h4
    .refine .inr ⟨h4,?_⟩;rcases hcS with hc | ⟨hc,-⟩
     .rw[d0I hc]at hl;exact absurd (hl.resolve_left h4) (by decide)
     .rw[c0i hc]at hl;exact⟨hc,hl.resolve_left h4⟩
   .rintro e w' ⟨rfl,hb⟩;exact⟨RetF.err (by decide),hb⟩
  .have hl':qL s=false:=by simpa using hl
   have hl1:¬ 4000<(iD (cW s)).size/\¬ 4000<(qD s).size:=by
    unfold qL at hl';simpa using hl'
   rcases hcS with hc | ⟨hc,h1,h2,h3,h4⟩
   .rw[hc]at HC;have e:qE s=0:=by simp[qE,hq,hl',qG,hc]
    rw[e,d0I hc];exact a1B w s _ _ _ _ _ HL HC hl1.1 hdD
   .rw[hc,h4]at HC;have hl2:=hl1.2;rw[c0i hc]at hl2;have e:qE s=if Nat.gcd (bN (iD (cW s))) (bN (cB s))=1 then 0 else 3:=by
     simp only[qE,hq,hl',qG,hc,c0i hc];by_cases hg:Nat.gcd (bN (iD (cW s))) (bN (cB s))=1<;>simp[hg]
    rw[e,c0i hc];exact y0b w s _ _ _ _ HL HC h1 h2 h3 hl1.1 hl2 hdD (e0P h4)
 .have hq':qB s=false:=by simpa using hq
  have e:qE s=3:=by simp[qE,hq']
  rw[e];refine (a1C w s _ _ _ _ _ _ _ HL HC hq').mono ?_;rintro e w' ⟨rfl,hb⟩;exact⟨RetF.err (by decide),hb⟩
theorem RetF.parts {x:Int}{m:Bool}{n d:Nat}{e:Ending}{w':World}(h:RetF x m n d e w'):∃ (b:Bool) (a1 a2:Option Addr) (n1 c1 n2 c2:Nat),e=.returned (.tuple #[.agg #[.bool b,.slice a1 n1 c1,.slice a2 n2 c2],.int .i64 x]):=by
 obtain⟨v,rfl,h1,h2⟩:=h;by_cases hx:x=0
 .obtain⟨N,D,rfl,hN,hD⟩:=h1 hx;obtain⟨a1,c1,rfl,_⟩:=hN.openI;obtain⟨a2,c2,rfl,_⟩:=hD.openI;exact⟨_,_,_,_,_,_,_,rfl⟩
 .rw[h2 hx];exact⟨_,_,_,_,_,_,_,rfl⟩
def x0e (w:World)(s:ByteArray)(hs:s.size<=1000000)(hL:Lay w):
 Calls Tryz.prog 323 #[.string s] w fun e w'=>e=.returned (.int .i64 (qE s))/\Below w.heap.size w w':=by
 have HC:=hid (l0K w s hs hL);go_enter Tryz.func323,Tryz.ntmps323;go_wp2_with fail;refine HC.out.mono ?_;rintro e w1 ⟨hr,hb⟩;obtain⟨b,a1,a2,n1,c1,n2,c2,rfl⟩:=hr.parts;have HB:=hid hb;clear hr hb;go_wp2_with fail;go_ret
 exact⟨rfl,HB.out.alloc HB.out.size _⟩
def pW (s:ByteArray):ByteArray:=if qE s=0 then cW s else ⟨#[]⟩
def pD (s:ByteArray):ByteArray:=if qE s=0 then qD s else ⟨#[]⟩
def q0f (w:World)(s:ByteArray)(hs:s.size<=1000000)(hL:Lay w):
 Calls Tryz.prog 273 #[.string s] w fun e w'=>e=.returned (.tuple #[.string (pW s),.string (pD s),.int .i64 (qE s)])/\Below w.heap.size w w':=by
 obtain⟨HC,HU,HL⟩:=zc (x0e w s hs hL) (s0f s hs) hL;clear hL;by_cases he:qE s=0
 .have e1:pW s=cW s:=U0 he;have e2:pD s=qD s:=U0 he;rw[e1,e2,he];rw[he]at HC;clear e1 e2;obtain⟨W,hW⟩:=gn (cW s);obtain⟨B,hB⟩:=gn (cB s);rw[hW,hB]at HU;rw[hW];cases hc:cS s
  focus
   rw[d0I hc]
  rotate_left
  focus
   rw[c0i hc,hB]
  all_goals
   rw[hc]at HU;clear hW hB hc he;go_enter Tryz.func273,Tryz.ntmps273
   go_wp2_with (first
    | (go_at_call 323;refine HC.out.mono ?_;rintro e w1 ⟨rfl,hb1⟩
       have y1:=hid hb1;clear hb1)
    | (go_at_call 249;refine (HU.out.cut _ (HL.out.call y1.out)).mono ?_;rintro e w2 ⟨rfl,hb2⟩
       have y2:=hid (a0a y1.out hb2);clear hb2)
    | fail)
   go_ret3
   exact⟨rfl,y2.out⟩
 .have e1:pW s=⟨#[]⟩:=Q0 he;have e2:pD s=⟨#[]⟩:=Q0 he;rw[e1,e2];have q0:(qE s != 0)=true:=by simpa using he
  obtain⟨x,hx⟩:=gn (qE s);rw[hx]at HC q0 |-;clear hx he e1 e2;go_enter Tryz.func273,Tryz.ntmps273
  go_wp2_with (first
   | (go_at_call 323;refine HC.out.mono ?_;rintro e w1 ⟨rfl,hb1⟩
      have y1:=hid hb1;clear hb1)
   | fail)
  go_ret3
  exact⟨rfl,y1.out⟩
open Go.Lib (decDigits nDigits)
def s0s (w:World)(s:ByteArray)(hs:s.size<=100000000):
 Calls Tryz.prog 343 #[.string s] w fun e w'=>e=.returned (.int .i64 (c0t s))/\Below w.heap.size w w':=by
 have HC:=hid (m0f w s hs);by_cases hb:n0D s=true
 .have e0:j0E s=0:=U0 hb;rw[e0]at HC;by_cases hl:256<s.size
  .have e1:c0t s=4:=by rw[c0t,U0 hb,U0 hl]
   have q0:decide ((256:Int)<(s.size:Int))=true:=by simp;omega
   rw[e1];clear hb hl e0 e1;go_enter Tryz.func343,Tryz.ntmps343;go_wp2_with fail;refine HC.out.mono ?_;rintro e w1 ⟨rfl,hb1⟩;go_wp2_with fail;go_ret
   exact⟨rfl,hb1⟩
  .have e1:c0t s=0:=by rw[c0t,U0 hb,Q0 hl]
   have q0:decide ((256:Int)<(s.size:Int))=false:=by simp;omega
   rw[e1];clear hb hl e0 e1;go_enter Tryz.func343,Tryz.ntmps343;go_wp2_with fail;refine HC.out.mono ?_;rintro e w1 ⟨rfl,hb1⟩;go_wp2_with fail;go_ret
   exact⟨rfl,hb1⟩
 .have e0:j0E s=3:=Q0 hb;have e1:c0t s=3:=Q0 hb;rw[e0]at HC;rw[e1];clear hb e0 e1;go_enter Tryz.func343,Tryz.ntmps343;go_wp2_with fail;refine HC.out.mono ?_;rintro e w1 ⟨rfl,hb1⟩;go_wp2_with fail;go_ret
  exact⟨rfl,hb1⟩
def s0r (w:World)(s t:ByteArray)(hs:s.size<=1000000)(ht:t.size<=1000000)(hL:Lay w):
 Calls Tryz.prog 359 #[.string s,.string t] w fun e w'=>e=.returned (.string (v0y (· + ·) s t))/\Below w.heap.size w w':=by
 have P:=hid (a1f w s t hs ht hL);go_enter Tryz.func359,Tryz.ntmps359;go_wp2_with fail;refine P.out.mono ?_;rintro e w1 ⟨rfl,hb1⟩;go_wp2_with fail;go_ret
 exact⟨rfl,hb1⟩
def s0q (w:World)(s t:ByteArray)(hs:s.size<=1000000)(ht:t.size<=1000000)(hL:Lay w):
 Calls Tryz.prog 358 #[.string s,.string t] w fun e w'=>e=.returned (.string (v0y (· * ·) s t))/\Below w.heap.size w w':=by
 have P:=hid (a1d w s t hs ht hL);go_enter Tryz.func358,Tryz.ntmps358;go_wp2_with fail;refine P.out.mono ?_;rintro e w1 ⟨rfl,hb1⟩;go_wp2_with fail;go_ret
 exact⟨rfl,hb1⟩
def a1u (w:World)(s t:ByteArray)(hs:s.size<=1000000)(ht:t.size<=1000000)(hL:Lay w):
 Calls Tryz.prog 211 #[.string s,.string t] w fun e w'=>e=.returned (.string (v0y (· + ·) s t))/\Below w.heap.size w w':=by
 have P:=hid (a1f w s t hs ht hL);go_enter Tryz.func211,Tryz.ntmps211;go_wp2_with fail;refine P.out.mono ?_;rintro e w1 ⟨rfl,hb1⟩;go_wp2_with fail;go_ret
 exact⟨rfl,hb1⟩
def x0T (w:World)(s t:ByteArray)(hs:s.size<=1000000)(ht:t.size<=1000000)(hL:Lay w):
 Calls Tryz.prog 212 #[.string s,.string t] w fun e w'=>e=.returned (.string (v0y (· * ·) s t))/\Below w.heap.size w w':=by
 have P:=hid (a1d w s t hs ht hL);go_enter Tryz.func212,Tryz.ntmps212;go_wp2_with fail;refine P.out.mono ?_;rintro e w1 ⟨rfl,hb1⟩;go_wp2_with fail;go_ret
 exact⟨rfl,hb1⟩
def q0g {s W:ByteArray}(h:qE s=0)(hW:cW s=W):∃ h0:0<W.size,((W[0].toNat:Int)==45)=iM W:=by
 subst hW;have h1:=(i0L h).1;have h2:=e0P (d0e (c0p h1));have h3:=(a0V.1 (d0e (c0p h1))).1;obtain⟨l,hl⟩:=gn ((cW s).data.toList);have e:cW s=⟨⟨l⟩⟩:=by
  apply Ls
  rw[<- hl]
 rw[e]at h2 h3 |-;cases l with
 | nil=>exact absurd rfl h3
 | cons b r=>
  refine⟨Ew _,?_⟩;have e2:(ByteArray.mk ⟨b::r⟩)[0]'(Ew _)=b:=rfl;have e3:iM ⟨⟨b::r⟩⟩=((45:UInt8)==b):=by
   simp[iM,Lib.hasPrefix,List.isPrefixOf]
  rw[e3];show ((((ByteArray.mk ⟨b::r⟩)[0]'(Ew _)).toNat:Int)==45)=_
  rw[e2,Bc,Ei,Ei]
  constructor
  .intro h;apply Em.1
   simp;omega
  .intro h;rw[<- h]
   rfl
def cPE (s:ByteArray):Int:=if qE s≠0 then qE s else if iM (cW s)=true\/0<k0N (cW s).data.toList (qD s).data.toList then 2 else if 1000<(cW s).size\/1000<(qD s).size then 5 else 0
def y0F (w:World)(s:ByteArray)(hs:s.size<=100000)(hL:Lay w):
 Calls Tryz.prog 342 #[.string s] w fun e w'=>e=.returned (.tuple #[.string (if cPE s=0 then cW s else ⟨#[]⟩),.string (if cPE s=0 then qD s else ⟨#[]⟩),.int .i64 (cPE s)])/\Below w.heap.size w w':=by
 have HC:=hid (q0f w s (by omega) hL);have z1:=j0z s;have z2:=q0h s;have HM:=fun V=>hid (q0T V (cW s) (qD s) (by omega) (by omega))
 by_cases he:qE s=0
 focus
  have e1:pW s=cW s:=U0 he;have e2:pD s=qD s:=U0 he;rw[e1,e2,he]at HC;have HE:cPE s=if iM (cW s)=true\/0<k0N (cW s).data.toList (qD s).data.toList then 2 else if 1000<(cW s).size\/1000<(qD s).size then 5 else 0:=by
   unfold cPE;rw[Q0 (fun h=>h he)]
  rw[HE];clear HE e1 e2;obtain⟨D,hD⟩:=gn (qD s);obtain⟨W,hW⟩:=gn (cW s);obtain⟨hw0,hiM⟩:=q0g he hW;clear he;obtain⟨m,hm⟩:=gn (iM W);obtain⟨c,hc⟩:=gn (k0N W.data.toList D.data.toList);rw[hD,hW]at HC HM;rw[hm]at hiM;rw[hc]at HM;rw[hD,hW,hm,hc];clear hD hW hm hc z1 z2;rcases m with _ | _
  .by_cases hc2:0<c
   focus
    have q0:decide ((0:Int)<c)=true:=by simp;omega
    simp only[hc2,or_true,Fp,show ¬ (2:Int)=0 by decide,Gu];clear hc2
   rotate_left
   focus
    have q0:decide ((0:Int)<c)=false:=by simp;omega
    simp only[hc2,Er,or_self,Gu];clear hc2;by_cases hl1:1000<W.size
    focus
     have q1:decide ((1000:Int)<(W.size:Int))=true:=by simp;omega
     simp only[hl1,true_or,Fp,show ¬ (5:Int)=0 by decide,Gu];clear hl1
    rotate_left
    focus
     have q1:decide ((1000:Int)<(W.size:Int))=false:=by simp;omega
     by_cases hl2:1000<D.size
     focus
      have q2:decide ((1000:Int)<(D.size:Int))=true:=by simp;omega
      simp only[hl2,or_true,Fp,show ¬ (5:Int)=0 by decide,Gu];clear hl1 hl2
     rotate_left
     focus
      have q2:decide ((1000:Int)<(D.size:Int))=false:=by simp;omega
      simp only[hl1,hl2,or_self,Gu,Fp];clear hl1 hl2
   all_goals
    go_enter Tryz.func342,Tryz.ntmps342;go_wp2_with fail;refine HC.out.mono ?_;rintro e w1 ⟨rfl,hb1⟩;have y1:=hid hb1;clear hb1;go_wp2_with fail;refine (HM _).out.mono ?_;rintro e w2 ⟨rfl,hb2⟩;have y2:=hid (a0a y1.out hb2);clear hb2;go_wp2_with fail
    go_ret3
    exact⟨rfl,y2.out⟩
  focus
   simp only[true_or,Fp,show ¬ (2:Int)=0 by decide,Gu]
 rotate_left
 focus
  have e1:pW s=⟨#[]⟩:=Q0 he;have e2:pD s=⟨#[]⟩:=Q0 he;have e3:cPE s=qE s:=by unfold cPE;rw[U0 he]
  rw[e1,e2]at HC;rw[e3,Q0 he,Q0 he];obtain⟨x,hx⟩:=gn (qE s);rw[hx]at HC he |-;have q0:(x==0)=false:=by simpa using he
  have q1:(x != 0)=true:=by simpa using he
  clear e1 e2 e3 hx z1 z2 HM
 all_goals
  go_enter Tryz.func342,Tryz.ntmps342;go_wp2_with fail;refine HC.out.mono ?_;rintro e w1 ⟨rfl,hb1⟩;have y1:=hid hb1;clear hb1;go_wp2_with fail
  go_ret3
  exact⟨rfl,y1.out⟩
def gPE (s:ByteArray):Int:=if qE s≠0 then qE s else if iM (cW s)=true\/0<=k0N (cW s).data.toList (qD s).data.toList then 2 else if 1000<(cW s).size\/1000<(qD s).size then 5 else 0
def d0u (w:World)(s:ByteArray)(hs:s.size<=100000)(hL:Lay w):
 Calls Tryz.prog 209 #[.string s] w fun e w'=>e=.returned (.tuple #[.string (if gPE s=0 then cW s else ⟨#[]⟩),.string (if gPE s=0 then qD s else ⟨#[]⟩),.int .i64 (gPE s)])/\Below w.heap.size w w':=by
 have HC:=hid (q0f w s (by omega) hL);have z1:=j0z s;have z2:=q0h s;have HM:=fun V=>hid (q0T V (cW s) (qD s) (by omega) (by omega))
 by_cases he:qE s=0
 focus
  have e1:pW s=cW s:=U0 he;have e2:pD s=qD s:=U0 he;rw[e1,e2,he]at HC;have HE:gPE s=if iM (cW s)=true\/0<=k0N (cW s).data.toList (qD s).data.toList then 2 else if 1000<(cW s).size\/1000<(qD s).size then 5 else 0:=by
   unfold gPE;rw[Q0 (fun h=>h he)]
  rw[HE];clear HE e1 e2;obtain⟨D,hD⟩:=gn (qD s);obtain⟨W,hW⟩:=gn (cW s);obtain⟨hw0,hiM⟩:=q0g he hW;clear he;obtain⟨m,hm⟩:=gn (iM W);obtain⟨c,hc⟩:=gn (k0N W.data.toList D.data.toList);rw[hD,hW]at HC HM;rw[hm]at hiM;rw[hc]at HM;rw[hD,hW,hm,hc];clear hD hW hm hc z1 z2;rcases m with _ | _
  .by_cases hc2:0<=c
   focus
    have q0:decide ((0:Int)<=c)=true:=by simp;omega
    simp only[hc2,or_true,Fp,show ¬ (2:Int)=0 by decide,Gu];clear hc2
   rotate_left
   focus
    have q0:decide ((0:Int)<=c)=false:=by simp;omega
    simp only[hc2,Er,or_self,Gu];clear hc2;by_cases hl1:1000<W.size
    focus
     have q1:decide ((1000:Int)<(W.size:Int))=true:=by simp;omega
     simp only[hl1,true_or,Fp,show ¬ (5:Int)=0 by decide,Gu];clear hl1
    rotate_left
    focus
     have q1:decide ((1000:Int)<(W.size:Int))=false:=by simp;omega
     by_cases hl2:1000<D.size
     focus
      have q2:decide ((1000:Int)<(D.size:Int))=true:=by simp;omega
      simp only[hl2,or_true,Fp,show ¬ (5:Int)=0 by decide,Gu];clear hl1 hl2
     rotate_left
     focus
      have q2:decide ((1000:Int)<(D.size:Int))=false:=by simp;omega
      simp only[hl1,hl2,or_self,Gu,Fp];clear hl1 hl2
   all_goals
    go_enter Tryz.func209,Tryz.ntmps209;go_wp2_with fail;refine HC.out.mono ?_;rintro e w1 ⟨rfl,hb1⟩;have y1:=hid hb1;clear hb1;go_wp2_with fail;refine (HM _).out.mono ?_;rintro e w2 ⟨rfl,hb2⟩;have y2:=hid (a0a y1.out hb2);clear hb2;go_wp2_with fail
    go_ret3
    exact⟨rfl,y2.out⟩
  focus
   simp only[true_or,Fp,show ¬ (2:Int)=0 by decide,Gu]
 rotate_left
 focus
  have e1:pW s=⟨#[]⟩:=Q0 he;have e2:pD s=⟨#[]⟩:=Q0 he;have e3:gPE s=qE s:=by unfold gPE;rw[U0 he]
  rw[e1,e2]at HC;rw[e3,Q0 he,Q0 he];obtain⟨x,hx⟩:=gn (qE s);rw[hx]at HC he |-;have q0:(x==0)=false:=by simpa using he
  have q1:(x != 0)=true:=by simpa using he
  clear e1 e2 e3 hx z1 z2 HM
 all_goals
  go_enter Tryz.func209,Tryz.ntmps209;go_wp2_with fail;refine HC.out.mono ?_;rintro e w1 ⟨rfl,hb1⟩;have y1:=hid hb1;clear hb1;go_wp2_with fail
  go_ret3
  exact⟨rfl,y1.out⟩
end
section
open Go.RowKit
open Go.Lib (decDigits nDigits)
def c0M {N D K T:Nat}{l:List UInt8}(h:sdB N D K T=true):b0R N D K T l=(true,sdV N D K T,0):=by
 rw[b0R.eq_def];dsimp only;rw[if_pos h]
def e0s {N D K T:Nat}(h:sdB N D K T=false):b0R N D K T []=(false,0,0):=by
 rw[b0R.eq_def];dsimp only;rw[if_neg (by simp[h])]
def e0r {N D K T:Nat}{b:UInt8}{r:List UInt8}(h:sdB N D K T=false):b0R N D K T (b::r)=((b0R N D (2*K+(if b=49 then 1 else 0)) (2*T) r).1,(b0R N D (2*K+(if b=49 then 1 else 0)) (2*T) r).2.1,(b0R N D (2*K+(if b=49 then 1 else 0)) (2*T) r).2.2+1):=by
 rw[b0R.eq_def];dsimp only;rw[if_neg (by simp[h])]
def b0t (N D:Nat)(l:List UInt8)(K T u:Nat):Bool×Nat×Nat:=let x:=b0R N D K T (l.drop u);(x.1,x.2.1,x.2.2+u)
def g0x {N D K T u:Nat}{l:List UInt8}(h:sdB N D K T=true):b0t N D l K T u=(true,sdV N D K T,u):=by
 unfold b0t;rw[c0M h];simp
def g0w {N D K T:Nat}{l:List UInt8}(h:sdB N D K T=false):b0t N D l K T l.length=(false,0,l.length):=by
 unfold b0t;rw[List.drop_length,e0s h];simp
def Nr:=@Nat.two_mul
def g0v {N D K T u:Nat}{l:List UInt8}(h:sdB N D K T=false)(hu:u<l.length):b0t N D l K T u=b0t N D l (K+K+(if l[u]=49 then 1 else 0)) (T+T) (u+1):=by
 unfold b0t;rw[J9 hu,e0r h,Nr,Nr];simp only[Jq,true_and];omega
structure Cell (K T u:Nat):Prop where
 t:T=2 ^ u
 k:K<T
theorem Cell.next {K T u x:Nat}(h:Cell K T u)(hx:x<=1):Cell (K+K+x) (T+T) (u+1):=by
 refine⟨?_,?_⟩
 .rw[h.t,M7];omega
 .have:=h.k;omega
theorem Cell.fits {N D K T u:Nat}(h:Cell K T u)(hu:u<=256)(hN:N<10 ^ eN)(hD:D<10 ^ eN):Fits N D K T:=by
 have h1:2 ^ u<=2 ^ 256:=Z4 (by omega) hu;have h2:2 ^ 256<10 ^ eK:=by decide
 have ht:=h.t;have hk:=h.k;exact⟨hN,hD,by omega,by omega⟩
def Hz:=@Decidable.not_not
def v0X {p:ByteArray}(h:cPE p=0):cW p=a0g (bN (cW p))/\qD p=a0g (bN (qD p))/\bN (cW p)<10 ^ eN/\bN (qD p)<10 ^ eN/\bN (cW p)<=bN (qD p):=by
 unfold cPE at h
 split at h
 .rename_i he
  exact absurd h he
 .rename_i he
  have he':qE p=0:=Hz.1 he
  split at h
  .cases h
  .rename_i h2
   split at h
   .cases h
   .rename_i h3
    obtain⟨a,b,c,d,e1,e2⟩:=g0b he' (fun h=>h2 (.inl h)) h3;refine⟨a,b,c,d,?_⟩;have h4:¬ 0<k0N (cW p).data.toList (qD p).data.toList:=fun h=>h2 (.inr h)
    rw[k0N,U0 ⟨e1,e2⟩,b0e]at h4;show dv _<=dv _
    split at h4
    .omega
    .split at h4
     .simp at h4
     .omega
theorem j0N (N D:Nat):∀ (l:List UInt8) (K T:Nat),(b0R N D K T l).2.2<=l.length
 | [],K,T=>by
  cases h:sdB N D K T
  .rw[e0s h];simp
  .rw[c0M h];simp
 | b::r,K,T=>by
  cases h:sdB N D K T
  .rw[e0r h];have:=j0N N D r (2*K+(if b=49 then 1 else 0)) (2*T);simp only[J7];omega
  .rw[c0M h];simp
theorem m0n (N D:Nat):∀ (l:List UInt8) (K T:Nat),(b0R N D K T l).2.1<=1
 | [],K,T=>by
  cases h:sdB N D K T
  .rw[e0s h];simp
  .rw[c0M h];simp only[sdV];split<;>omega
 | b::r,K,T=>by
  cases h:sdB N D K T
  .rw[e0r h];exact m0n N D r _ _
  .rw[c0M h];simp only[sdV];split<;>omega
def Fi:=@Nat.zero_mul
def s0Q {N D:Nat}(h:N<D){l:List UInt8}(hd:(b0R N D 0 1 l).1=true)(hv:(b0R N D 0 1 l).2.1=1):1<=(b0R N D 0 1 l).2.2:=by
 cases hs:sdB N D 0 1
 .cases l with
  | nil=>rw[e0s hs]at hd;cases hd
  | cons b r=>rw[e0r hs];simp
 .rw[c0M hs]at hv;simp only[sdV,Fq,Fi]at hv;simp only[sdB,Fq,Fi,U7,M9,S5]at hs
  split at hv
  .cases hv
  .omega
def a0A (N D:Nat)(l:List UInt8)(p:Nat):Bool×Nat×Nat:=b0t N D (l.drop p) 0 1 0
def g0n (N D:Nat)(l:List UInt8)(p:Nat):a0A N D l p=b0R N D 0 1 (l.drop p):=by simp[a0A,b0t]
def e0d (pre:List (Nat×Nat)):Nat:=match pre.getLast? with | some x=>x.1 | none=>0
def q0i:e0d []=0:=rfl
def b0I (pre:List (Nat×Nat))(x:Nat×Nat):e0d (pre ++ [x])=x.1:=by simp[e0d]
def a0Y {N D:Nat}{l:List UInt8}{p:Nat}(hp:p<=l.length):p+(a0A N D l p).2.2<=l.length:=by
 rw[g0n];have:=j0N N D (l.drop p) 0 1;rw[S9]at this;omega
def ser (N D:Nat)(l:List UInt8):Nat->Nat->Nat->List Nat->Nat->Option (List Nat×Nat)
 | 0,_,_,_,_=>none
 | f+1,m,p,vs,n=>
  if (a0A N D l p).1=false then none
  else if (a0A N D l p).2.1=1 then ser N D l f m (p+(a0A N D l p).2.2) vs (n+1)
  else if m<=1 then some (vs ++ [n],p+(a0A N D l p).2.2)
  else ser N D l f (m-1) (p+(a0A N D l p).2.2) (vs ++ [n]) 0
def b0g {N D:Nat}(h:N<D){l:List UInt8}{p:Nat}(hd:(a0A N D l p).1=true)(hv:(a0A N D l p).2.1=1):1<=(a0A N D l p).2.2:=by
 rw[g0n]at *;exact s0Q h hd hv
def t0e {N D:Nat}(h:N<D){l:List UInt8}:∀ (f f' m p:Nat) (vs:List Nat) (n:Nat),1<=m->p<=l.length->l.length-p+m<=f->l.length-p+m<=f'->ser N D l f m p vs n=ser N D l f' m p vs n:=by
 intro f
 induction f with
 | zero=>intro f' m p vs n hm hp h1 h2;omega
 | succ f ih=>
  intro f' m p vs n hm hp h1 h2;cases f' with
  | zero=>omega
  | succ f'=>
   have hle:=a0Y (N:=N) (D:=D) hp;simp only[ser]
   split
   .rfl
   .rename_i hd
    have hd':(a0A N D l p).1=true:=by simpa using hd
    split
    .rename_i hv
     have:=b0g h hd' hv;exact ih _ _ _ _ _ hm hle (by omega) (by omega)
    .split
     .rfl
     .exact ih _ _ _ _ _ (by omega) hle (by omega) (by omega)
def sr (N D:Nat)(l:List UInt8)(m p:Nat)(vs:List Nat)(n:Nat):Option (List Nat×Nat):=ser N D l (l.length-p+m) m p vs n
def z0u {N D:Nat}(h:N<D){l:List UInt8}{f m p n:Nat}{vs:List Nat}(hm:1<=m)(hp:p<=l.length)(hf:l.length-p+m<=f):ser N D l f m p vs n=sr N D l m p vs n:=t0e h _ _ _ _ _ _ hm hp hf nr
def e0v {N D:Nat}{l:List UInt8}{m p n:Nat}{vs:List Nat}(hm:1<=m):sr N D l m p vs n=ser N D l ((l.length-p+m-1)+1) m p vs n:=by
 unfold sr;rw[show l.length-p+m-1+1=l.length-p+m by omega]
def b0u {N D:Nat}{l:List UInt8}{m p n:Nat}{vs:List Nat}(hm:1<=m)(hd:(a0A N D l p).1=false):sr N D l m p vs n=none:=by
 rw[e0v hm,ser,U0 hd]
def d0U {N D:Nat}(h:N<D){l:List UInt8}{m p n:Nat}{vs:List Nat}(hm:1<=m)(hp:p<=l.length)(hd:(a0A N D l p).1=true)(hv:(a0A N D l p).2.1=1):sr N D l m p vs n=sr N D l m (p+(a0A N D l p).2.2) vs (n+1):=by
 have hle:=a0Y (N:=N) (D:=D) hp;have:=b0g h hd hv;rw[e0v hm,ser,Q0 (by simp[hd]),U0 hv];exact z0u h hm hle (by omega)
def b0G {N D:Nat}{l:List UInt8}{p n:Nat}{vs:List Nat}(hd:(a0A N D l p).1=true)(hv:¬ (a0A N D l p).2.1=1):sr N D l 1 p vs n=some (vs ++ [n],p+(a0A N D l p).2.2):=by
 rw[e0v (Z3 1),ser,Q0 (by simp[hd]),Q0 hv,U0 (Z3 1)]
def l0c {N D:Nat}(h:N<D){l:List UInt8}{m p n:Nat}{vs:List Nat}(hm:2<=m)(hp:p<=l.length)(hd:(a0A N D l p).1=true)(hv:¬ (a0A N D l p).2.1=1):sr N D l m p vs n=sr N D l (m-1) (p+(a0A N D l p).2.2) (vs ++ [n]) 0:=by
 have hle:=a0Y (N:=N) (D:=D) hp;rw[e0v (by omega),ser,Q0 (by simp[hd]),Q0 hv,Q0 (by omega)];exact z0u h (by omega) hle (by omega)
def s1 (N D:Nat)(l:List UInt8)(p n:Nat):Option (Nat×Nat):=match sr N D l 1 p [] n with | some (x::_,at')=>some (x,at') | _=>none
theorem j0U {N D:Nat}(h:N<D){l:List UInt8}:∀ (f p:Nat) (vs:List Nat) (n:Nat),p<=l.length->l.length-p<=f->sr N D l 1 p vs n=match s1 N D l p n with | some (x,a)=>some (vs ++ [x],a) | none=>none:=by
 intro f
 induction f with
 | zero=>
  intro p vs n hp hf;cases hd:(a0A N D l p).1
  .rw[s1,b0u (Z3 1) hd,b0u (Z3 1) hd]
  .by_cases hv:(a0A N D l p).2.1=1
   .have:=b0g h hd hv;have:=a0Y (N:=N) (D:=D) hp;omega
   .rw[s1,b0G hd hv,b0G hd hv]
    rfl
 | succ f ih=>
  intro p vs n hp hf;cases hd:(a0A N D l p).1
  .rw[s1,b0u (Z3 1) hd,b0u (Z3 1) hd]
  .by_cases hv:(a0A N D l p).2.1=1
   .have:=b0g h hd hv;have hle:=a0Y (N:=N) (D:=D) hp;rw[s1,d0U h (Z3 1) hp hd hv,d0U h (Z3 1) hp hd hv,ih _ _ _ hle (by omega)]
    rfl
   .rw[s1,b0G hd hv,b0G hd hv]
    rfl
theorem n0V {N D:Nat}(h:N<D){l:List UInt8}:∀ (f p n x a:Nat),p<=l.length->l.length-p<=f->s1 N D l p n=some (x,a)->p<=a/\a<=l.length/\x<=n+(a-p):=by
 intro f
 induction f with
 | zero=>
  intro p n x a hp hf hs;cases hd:(a0A N D l p).1
  .rw[s1,b0u (Z3 1) hd]at hs;cases hs
  .by_cases hv:(a0A N D l p).2.1=1
   .have:=b0g h hd hv;have:=a0Y (N:=N) (D:=D) hp;omega
   .rw[s1,b0G hd hv]at hs;simp at hs;have:=a0Y (N:=N) (D:=D) hp;omega
 | succ f ih=>
  intro p n x a hp hf hs;cases hd:(a0A N D l p).1
  .rw[s1,b0u (Z3 1) hd]at hs;cases hs
  .by_cases hv:(a0A N D l p).2.1=1
   .have:=b0g h hd hv;have hle:=a0Y (N:=N) (D:=D) hp;rw[s1,d0U h (Z3 1) hp hd hv]at hs;have:=ih _ _ _ _ hle (by omega) hs;omega
   .rw[s1,b0G hd hv]at hs;simp at hs;have:=a0Y (N:=N) (D:=D) hp;omega
theorem z0t {N D:Nat}(h:N<D){l:List UInt8}:∀ (f p:Nat) (vs:List Nat) (n:Nat),p<=l.length->l.length-p<=f->sr N D l 2 p vs n=match s1 N D l p n with
 | some (x,a)=>sr N D l 1 a (vs ++ [x]) 0
 | none=>none:=by
 intro f
 induction f with
 | zero=>
  intro p vs n hp hf;cases hd:(a0A N D l p).1
  .rw[s1,b0u (by omega) hd,b0u (Z3 1) hd]
  .by_cases hv:(a0A N D l p).2.1=1
   .have:=b0g h hd hv;have:=a0Y (N:=N) (D:=D) hp;omega
   .rw[s1,b0G hd hv,l0c h (Z3 2) hp hd hv]
    rfl
 | succ f ih=>
  intro p vs n hp hf;cases hd:(a0A N D l p).1
  .rw[s1,b0u (by omega) hd,b0u (Z3 1) hd]
  .by_cases hv:(a0A N D l p).2.1=1
   .have:=b0g h hd hv;have hle:=a0Y (N:=N) (D:=D) hp;rw[s1,d0U h (by omega) hp hd hv,d0U h (Z3 1) hp hd hv,ih _ _ _ hle (by omega)]
    rfl
   .rw[s1,b0G hd hv,l0c h (Z3 2) hp hd hv]
    rfl
def i0m (N D:Nat)(l:List UInt8)(a q:Nat):a0A N D (l.drop a) q=a0A N D l (a+q):=by
 unfold a0A;rw[Hj]
theorem l0h {N D:Nat}(h:N<D){l:List UInt8}{a:Nat}(ha:a<=l.length):∀ (f q n:Nat),a+q<=l.length->l.length-(a+q)<=f->s1 N D l (a+q) n=(s1 N D (l.drop a) q n).map (fun x=>(x.1,a+x.2)):=by
 intro f
 induction f with
 | zero=>
  intro q n hp hf;have hc:=i0m N D l a q;cases hd:(a0A N D l (a+q)).1
  .rw[s1,s1,b0u (Z3 1) hd,b0u (Z3 1) (by rw[hc];exact hd)]
   rfl
  .by_cases hv:(a0A N D l (a+q)).2.1=1
   .have:=b0g h hd hv;have:=a0Y (N:=N) (D:=D) hp;omega
   .rw[s1,s1,b0G hd hv,b0G (by rw[hc];exact hd) (by rw[hc];exact hv),hc];simp[De]
 | succ f ih=>
  intro q n hp hf;have hc:=i0m N D l a q;cases hd:(a0A N D l (a+q)).1
  .rw[s1,s1,b0u (Z3 1) hd,b0u (Z3 1) (by rw[hc];exact hd)]
   rfl
  .by_cases hv:(a0A N D l (a+q)).2.1=1
   .have:=b0g h hd hv;have hle:=a0Y (N:=N) (D:=D) hp;have ih':=ih (q+(a0A N D l (a+q)).2.2) (n+1) (by omega) (by omega);rw[<- De]at ih';rw[s1,s1,d0U h (Z3 1) hp hd hv,d0U (l:=l.drop a) (p:=q) h (Z3 1) (by rw[S9];omega) (by rw[hc];exact hd) (by rw[hc];exact hv),hc];exact ih'
   .rw[s1,s1,b0G hd hv,b0G (by rw[hc];exact hd) (by rw[hc];exact hv),hc];simp[De]
end
section
open Go.RowKit
def e0y {N D:Nat}{l:List UInt8}{p n:Nat}(hd:(a0A N D l p).1=false):s1 N D l p n=none:=by
 unfold s1;rw[b0u (Z3 1) hd]
def i0A {N D:Nat}(h:N<D){l:List UInt8}{p n:Nat}(hp:p<=l.length)(hd:(a0A N D l p).1=true)(hv:(a0A N D l p).2.1=1):s1 N D l p n=s1 N D l (p+(a0A N D l p).2.2) (n+1):=by
 unfold s1;rw[d0U h (Z3 1) hp hd hv]
def e0x {N D:Nat}{l:List UInt8}{p n:Nat}(hd:(a0A N D l p).1=true)(hv:¬ (a0A N D l p).2.1=1):s1 N D l p n=some (n,p+(a0A N D l p).2.2):=by
 unfold s1;rw[b0G hd hv];rfl
def t0h {N D:Nat}(h:N<D){l:List UInt8}:∀ (f p n:Nat),p<=l.length->l.length-p<=f->s1 N D l p (n+1)=(s1 N D l p n).map (fun x=>(x.1+1,x.2)):=by
 intro f
 induction f with
 | zero=>
  intro p n hp hf;cases hd:(a0A N D l p).1
  .rw[e0y hd,e0y hd];rfl
  .by_cases hv:(a0A N D l p).2.1=1
   .have:=b0g h hd hv;have:=a0Y (N:=N) (D:=D) hp;omega
   .rw[e0x hd hv,e0x hd hv];rfl
 | succ f ih=>
  intro p n hp hf;cases hd:(a0A N D l p).1
  .rw[e0y hd,e0y hd];rfl
  .by_cases hv:(a0A N D l p).2.1=1
   .have:=b0g h hd hv;have hle:=a0Y (N:=N) (D:=D) hp;rw[i0A h hp hd hv,i0A h hp hd hv,ih _ (n+1) hle (by omega)]
   .rw[e0x hd hv,e0x hd hv];rfl
def h0A (N D i:Nat)(l:List UInt8):Bool:=match s1 N D l 0 0 with | none=>false | some (x,_)=>decide (x=i)
def s0I (N D i k:Nat)(l:List UInt8):Bool:=match s1 N D l 0 0 with | none=>false | some (x,p)=>decide (x=i) && h0A N D k (l.drop p)
def g0E {N D:Nat}(h:N<D)(l:List UInt8):s1 N D l 0 0=if (b0R N D 0 1 l).1=true then (if (b0R N D 0 1 l).2.1=1 then (s1 N D (l.drop (b0R N D 0 1 l).2.2) 0 0).map (fun x=>(x.1+1,(b0R N D 0 1 l).2.2+x.2)) else some (0,(b0R N D 0 1 l).2.2)) else none:=by
 have e:=g0n N D l 0;rw[A9]at e;cases hd:(b0R N D 0 1 l).1
 .rw[e0y (by rw[e];exact hd)];rfl
 .rw[U0 rfl];by_cases hv:(b0R N D 0 1 l).2.1=1
  .have hle:=a0Y (N:=N) (D:=D) (l:=l) (p:=0) (J5 _);rw[e,U7]at hle;rw[U0 hv,i0A h (J5 _) (by rw[e];exact hd) (by rw[e];exact hv),e,t0h h l.length _ _ (by omega) (by omega)];have:=l0h h (l:=l) (a:=(b0R N D 0 1 l).2.2) (by omega) l.length 0 0 (by omega) (by omega);rw[Ao]at this;rw[U7,this,Option.map_map]
   rfl
  .rw[Q0 hv,e0x (by rw[e];exact hd) (by rw[e];exact hv),e,U7]
def k0r {N D:Nat}(h:N<D)(i:Nat)(l:List UInt8):h0A N D i l=b0B N D 0 1 (match i with | 0=>fun _=>false | i+1=>h0A N D i) (fun _=>decide (i=0)) l:=by
 unfold b0B;rw[h0A,g0E h];cases hd:(b0R N D 0 1 l).1
 .rfl
 .rw[U0 rfl,Fd];by_cases hv:(b0R N D 0 1 l).2.1=1
  .rw[U0 hv,U0 hv];cases i with
   | zero=>
    cases s1 N D (l.drop (b0R N D 0 1 l).2.2) 0 0 with
    | none=>rfl
    | some x=>simp
   | succ i=>
    show _=h0A N D i (l.drop (b0R N D 0 1 l).2.2)
    rw[h0A];cases s1 N D (l.drop (b0R N D 0 1 l).2.2) 0 0 with
    | none=>rfl
    | some x=>simp
  .rw[Q0 hv,Q0 hv];simp only[eq_comm]
def j0L {N D:Nat}(h:N<D)(i k:Nat)(l:List UInt8):s0I N D i k l=b0B N D 0 1 (match i with | 0=>fun _=>false | i+1=>s0I N D i k) (fun r=>decide (i=0) && h0A N D k r) l:=by
 unfold b0B;rw[s0I,g0E h];cases hd:(b0R N D 0 1 l).1
 .rfl
 .rw[U0 rfl,Fd];by_cases hv:(b0R N D 0 1 l).2.1=1
  .rw[U0 hv,U0 hv];cases i with
   | zero=>
    cases s1 N D (l.drop (b0R N D 0 1 l).2.2) 0 0 with
    | none=>rfl
    | some x=>simp
   | succ i=>
    show _=s0I N D i k (l.drop (b0R N D 0 1 l).2.2)
    rw[s0I];cases s1 N D (l.drop (b0R N D 0 1 l).2.2) 0 0 with
    | none=>rfl
    | some x=>simp[Hj]
  .rw[Q0 hv,Q0 hv];simp only[eq_comm]
def opn (N D:Nat):Nat->Nat->Nat
 | 0=>dlt
 | i+1=>cvo (chi (a0C N D)) (opn N D i)
def edn (N D i:Nat):Nat->Nat:=cvo (chi (a0i N D)) (opn N D i)
def g0l (f:Nat->Nat)(n:Nat):cvo f (fun _=>0) n=0:=by
 unfold cvo;rw[a0d (d:=fun _=>0) (fun i _=>Eu _)];exact a0E _
def j0u (f g h:Nat->Nat)(n:Nat):cvo f (cvo g h) n=cvo g (cvo f h) n:=by
 rw[<- b0E,<- b0E];exact a0L (fun s _=>g0m f g s) fun _ _=>rfl
def n0n (N D m:Nat):edn N D 0 m=chi (a0i N D) m:=by
 unfold edn opn;rw[g0m,l0V]
def n0o (N D i m:Nat):edn N D (i+1) m=cvo (chi (a0C N D)) (edn N D i) m:=by
 unfold edn;rw[opn];exact j0u _ _ _ _
theorem e0n {N D:Nat}(h:N<D):∀ i n,cw n (h0A N D i)=cvo (edn N D i) pw2 n
 | 0,n=>by
  rw[a0D (Q:=b0B N D 0 1 (fun _=>false) (fun _=>true)) (fun l _=>k0r h 0 l),d0P h,a0L (f':=chi (a0C N D)) (g':=fun _=>0) (fun _ _=>rfl) (fun m _=>c0s m),g0l,U7];exact a0L (fun s _=>(n0n N D s).symm) fun m _=>j0t m
 | i+1,n=>by
  rw[a0D (Q:=b0B N D 0 1 (h0A N D i) (fun _=>false)) (fun l _=>k0r h (i+1) l),d0P h,a0L (f:=chi (a0i N D)) (f':=chi (a0i N D)) (g':=fun _=>0) (fun _ _=>rfl) (fun m _=>c0s m),g0l,Ao];rw[a0L (f':=chi (a0C N D)) (g':=cvo (edn N D i) pw2) (fun _ _=>rfl) (fun m _=>e0n h i m),<- b0E];exact a0L (fun s _=>(n0o N D i s).symm) fun _ _=>rfl
theorem l0Q {N D:Nat}(h:N<D)(k:Nat):∀ i n,cw n (s0I N D i k)=cvo (edn N D i) (cvo (edn N D k) pw2) n
 | 0,n=>by
  rw[a0D (Q:=b0B N D 0 1 (fun _=>false) (h0A N D k)) (fun l _=>by rw[j0L h 0 k l];rfl),d0P h,a0L (f':=chi (a0C N D)) (g':=fun _=>0) (fun _ _=>rfl) (fun m _=>c0s m),g0l,U7];exact a0L (fun s _=>(n0n N D s).symm) fun m _=>e0n h k m
 | i+1,n=>by
  rw[a0D (Q:=b0B N D 0 1 (s0I N D i k) (fun _=>false)) (fun l _=>by rw[j0L h (i+1) k l];rfl),d0P h,a0L (f:=chi (a0i N D)) (f':=chi (a0i N D)) (g':=fun _=>0) (fun _ _=>rfl) (fun m _=>c0s m),g0l,Ao];rw[a0L (f':=chi (a0C N D)) (g':=cvo (edn N D i) (cvo (edn N D k) pw2)) (fun _ _=>rfl) (fun m _=>l0Q h k i m),<- b0E];exact a0L (fun s _=>(n0o N D i s).symm) fun _ _=>rfl
end
end Go.Proofs.YtfkpfpobmobnbaaGreatDoor
