/- Texts that the proof rests on, merged: Fr3, Rt1, Mk, Pw1, Pw2, Np, Pl1, Pl2, Pl3, LyS, CdB, Pc0, Cv1, Tot, Cv2, Sh4, G1c, G2, QD, G3, G4, G5, C1, C2h, C2, Coin2, Coins, Ser, Cv3. -/
import Derived.Test.YtfkpfpobmobnbaaGreatDoorPa3
import Derived.Deep.RegionHeld3
import Derived.WalkSmall
import Derived.Maps.Own
import Derived.Maps.OwnIn
import Derived.Sort.CutIn
import Derived.Lib.SmallJoins
import Derived.Shelf.Small.Wraps
import Derived.Shelf.Strings.Shaped
import Derived.Ground.NamesProg
import Derived.Test.YtfkpfpobmobnbaaGreatDoorProg
set_option linter.defProp false
set_option linter.unusedVariables false
set_option linter.unusedSimpArgs false
set_option linter.unusedSectionVars false
set_option maxRecDepth 100000
set_option maxHeartbeats 8000000
namespace Go.Proofs.YtfkpfpobmobnbaaGreatDoor
section
open Go.RowKit
open Go.Lib (decDigits nDigits)
def q0C {q:Rat}(h:ovQ q):c0p q=⟨#[]⟩:=J2 h
def w0L {q:Rat}(h:¬ ovQ q):c0p q=txQ q:=U0 h
def q0z {q:Rat}(h:ovQ q):c0G q=5:=J2 h
def q0A {q:Rat}(h:¬ ovQ q):c0G q=0:=U0 h
def c0S (a b:ByteArray):(a++b).data.toList=a.data.toList++b.data.toList:=by simp
def y0S (n:Nat):txB false n 1=a0f n:=by apply b0c;simp[txB,a0f]
def y0Q (n:Nat):txB true n 1=⟨#[45]⟩++a0f n:=by apply b0c;rw[c0S,b0T,a0q];simp
def y0R (n d:Nat)(h:d≠1):txB false n d=a0f n++(⟨#[47]⟩++a0f d):=by apply b0c;rw[c0S,c0S,b0T,a0q,a0q,U0 h];simp
def y0P (n d:Nat)(h:d≠1):txB true n d=⟨#[45]⟩++a0f n++(⟨#[47]⟩++a0f d):=by apply b0c;rw[c0S,c0S,c0S,b0T,a0q,a0q,U0 h];simp
def Gk:=@of_decide_eq_false
def o0M (w:World)(v:Value)(q:Rat)(h:IsQ .u64 w v q)(h1:(limbs q.num.natAbs).length<=1000000)(h2:(limbs q.den).length<=1000000)(hL:Lay w):
 Calls Tryz.prog 117 #[v] w fun e w'=>e=.returned (.tuple #[.string (c0p q),.int .i64 (c0G q)])/\Below w.heap.size w w':=by
 obtain⟨N,D,rfl,hn,hd⟩:=h.ex;obtain⟨m,hm⟩:=gn (decide (q.num<0));have HN:=hid hn;have HD:=hid hd;have HM:=hid hm;have HL:=hid hL;have L1:=hid h1;have L2:=hid h2;rw[hm];obtain⟨a1,c1,rfl,_⟩:=hn.openI;obtain⟨a2,c2,rfl,_⟩:=hd.openI;obtain⟨k1,hk1⟩:=gn ((limbs q.num.natAbs).length);obtain⟨k2,hk2⟩:=gn ((limbs q.den).length);rw[hk1]at HN |-;rw[hk2]at HD |-;have b0:=hid ((Z3 w.heap.size w).alloc nr0 (.cells #[.bool m,.slice a1 k1 c1,.slice a2 k2 c2] 126));have x0:=hid (Blk.new w #[.bool m,.slice a1 k1 c1,.slice a2 k2 c2] 126);have N0:=hid (HN.out.call b0.out);have D0:=hid (HD.out.call b0.out);clear hn hd hm h hk1 hk2 hL h1 h2;by_cases o1:4000<nDigits q.num.natAbs
 .have ho:ovQ q:=.inl o1;rw[q0C ho,q0z ho];have q0:decide ((4000:Int)<(nDigits q.num.natAbs:Nat))=true:=by simp;omega
  clear o1 ho;go_enter Tryz.func117,Tryz.ntmps117;go_wp2_with fail;refine (c0m _ _ _ N0.out (HL.out.call b0.out) L1.out).mono ?_;rintro e w1 ⟨rfl,hb1⟩;have b1:=hid (a0a b0.out hb1);clear hb1;go_wp2_with fail;go_ret2
  exact⟨rfl,b1.out⟩
 .have q0:decide ((4000:Int)<(nDigits q.num.natAbs:Nat))=false:=by simp;omega
  by_cases o2:4000<nDigits q.den
  .have ho:ovQ q:=.inr o2;rw[q0C ho,q0z ho];have q1:decide ((4000:Int)<(nDigits q.den:Nat))=true:=by simp;omega
   clear o1 ho o2;go_enter Tryz.func117,Tryz.ntmps117;go_wp2_with fail;refine (c0m _ _ _ N0.out (HL.out.call b0.out) L1.out).mono ?_;rintro e w1 ⟨rfl,hb1⟩;have b1:=hid (a0a b0.out hb1);have D1:=hid (D0.out.call hb1);have x1:=x0.out.call hb1;have r2:=x1.cell 2;simp at r2;clear hb1 x1;go_wp2_with fail;refine (c0m _ _ _ D1.out (HL.out.call b1.out) L2.out).mono ?_;rintro e w2 ⟨rfl,hb2⟩;have b2:=hid (a0a b1.out hb2);clear hb2 r2;go_wp2_with fail;go_ret2
   exact⟨rfl,b2.out⟩
  .have ho:¬ ovQ q:=fun h=>h.elim o1 o2
   rw[w0L ho,q0A ho];have q1:decide ((4000:Int)<(nDigits q.den:Nat))=false:=by simp;omega
   obtain⟨z,hz⟩:=gn (isO q.den);have HO:=fun W h=>hid (l0F W (.slice a2 k2 c2) q.den h)
   rw[hz]at HO;have HT:Hid (txQ q=txB m q.num.natAbs q.den):=by rw[<- HM.out];rfl
   have HZ:=hid hz;rw[HT.out];obtain⟨T,hT⟩:=gn (txB m q.num.natAbs q.den);have HTT:=hid hT;rw[hT];have HS1:=fun W hv hL=>hid (i0K W (.slice a1 k1 c1) q.num.natAbs hv hL L1.out)
   have HS2:=fun W hv hL=>hid (i0K W (.slice a2 k2 c2) q.den hv hL L2.out)
   have en:(⟨(Lib.decDigits q.num.natAbs).toArray⟩:ByteArray)=a0f q.num.natAbs:=rfl;have ed:(⟨(Lib.decDigits q.den).toArray⟩:ByteArray)=a0f q.den:=rfl;rw[en]at HS1;rw[ed]at HS2;obtain⟨sn,hsn⟩:=gn (a0f q.num.natAbs);obtain⟨sd,hsd⟩:=gn (a0f q.den);rw[hsn]at HS1;rw[hsd]at HS2;have HSN:=hid hsn;have HSD:=hid hsd;have hs1:sn.size<=4000:=by rw[<- hsn,a0t];omega
   have hs2:sd.size<=4000:=by rw[<- hsd,a0t];omega
   clear o1 ho o2 hT hz en ed hsn hsd;go_enter Tryz.func117,Tryz.ntmps117;go_wp2_with fail;refine (c0m _ _ _ N0.out (HL.out.call b0.out) L1.out).mono ?_;rintro e w1 ⟨rfl,hb1⟩;have b1:=hid (a0a b0.out hb1);have D1:=hid (D0.out.call hb1);have x1:=hid (x0.out.call hb1);have N1:=hid (N0.out.call hb1);have r2:=x1.out.cell 2;simp at r2;clear hb1;go_wp2_with fail;refine (c0m _ _ _ D1.out (HL.out.call b1.out) L2.out).mono ?_;rintro e w2 ⟨rfl,hb2⟩;have b2:=hid (a0a b1.out hb2);have D2:=hid (D1.out.call hb2);have x2:=hid (x1.out.call hb2);have N2:=hid (N1.out.call hb2);have r1:=x2.out.cell 1;simp at r1;clear hb2 r2;go_wp2_with fail;refine (HS1 _ N2.out (HL.out.call b2.out)).out.mono ?_;rintro e w3 ⟨rfl,hb3⟩;have b3:=hid (a0a b2.out hb3);have D3:=hid (D2.out.call hb3);have x3:=hid (x2.out.call hb3);have r0:=x3.out.cell 0;have r2:=x3.out.cell 2;simp at r0 r2;clear hb3 r1 HS1;cases m
   .go_wp2_with fail;refine (HO _ D3.out).out.mono ?_;rintro e w4 ⟨rfl,rfl⟩;cases z
    .go_wp2_with fail;refine (HS2 _ D3.out (HL.out.call b3.out)).out.mono ?_;rintro e w5 ⟨rfl,hb5⟩;have b5:=hid (a0a b3.out hb5);clear hb5 r0 r2;go_wp2_with fail;go_ret2
     have hTe:T=sn++(⟨#[47]⟩++sd):=by rw[<- HTT.out,y0R _ _ (Gk HZ.out),HSN.out,HSD.out]
     exact⟨by rw[hTe];rfl,b5.out⟩
    .go_wp2_with fail;go_ret2
     have hTe:T=sn:=by rw[<- HTT.out,e0j.1 HZ.out,y0S,HSN.out]
     exact⟨by rw[hTe];rfl,b3.out⟩
   .go_wp2_with fail;refine (HO _ D3.out).out.mono ?_;rintro e w4 ⟨rfl,rfl⟩;cases z
    .go_wp2_with fail;refine (HS2 _ D3.out (HL.out.call b3.out)).out.mono ?_;rintro e w5 ⟨rfl,hb5⟩;have b5:=hid (a0a b3.out hb5);clear hb5 r0 r2;go_wp2_with fail;go_ret2
     have hTe:T=⟨#[45]⟩++sn++(⟨#[47]⟩++sd):=by rw[<- HTT.out,y0P _ _ (Gk HZ.out),HSN.out,HSD.out]
     exact⟨by rw[hTe];rfl,b5.out⟩
    .go_wp2_with fail;go_ret2
     have hTe:T=⟨#[45]⟩++sn:=by rw[<- HTT.out,e0j.1 HZ.out,y0Q,HSN.out]
     exact⟨by rw[hTe];rfl,b3.out⟩
def mkE (n d:ByteArray):Int:=if iB n=false then 3 else if 4000<(iD n).size then 5 else if c0d d.data.toList≠0 then c0d d.data.toList else if d=⟨#[48]⟩ then 6 else c0G (qmk (iM n) (bN (iD n)) (bN d))
def mkB (n d:ByteArray):ByteArray:=if iB n=false then ⟨#[]⟩ else if 4000<(iD n).size then ⟨#[]⟩ else if c0d d.data.toList≠0 then ⟨#[]⟩ else if d=⟨#[48]⟩ then ⟨#[]⟩ else c0p (qmk (iM n) (bN (iD n)) (bN d))
def Dp:=@Nat.div_le_self
def w0C {m:Bool}{n d L:Nat}(hd:0<d)(h1:(limbs n).length<=L)(h2:(limbs d).length<=L):(limbs (qmk m n d).num.natAbs).length<=L/\(limbs (qmk m n d).den).length<=L:=by
 rw[g0G hd,i0x hd,b0s];exact⟨O0 (a0h (Dp _ _)) h1,O0 (a0h (Dp _ _)) h2⟩
def v0i (w:World)(n d:ByteArray)(hn:n.size<=1000000)(hd:d.size<=1000000)(hL:Lay w):
 Calls Tryz.prog 215 #[.string n,.string d] w fun e w'=>e=.returned (.tuple #[.string (mkB n d),.int .i64 (mkE n d)])/\Below w.heap.size w w':=by
 have HL:=hid hL;have hz:=r0i n;have HI:=fun V=>hid (k0A V n (by omega))
 have HC:=fun V=>hid (f0f V d (by omega))
 have HP1:=fun V h=>hid (c0q V (iD n) h (by omega))
 have HP2:=fun V h=>hid (c0q V d h hd)
 cases hb:iB n
 focus
  have e1:mkB n d=⟨#[]⟩:=J2 hb;have e2:mkE n d=3:=J2 hb;rw[e1,e2];rw[hb]at HI;clear e1 e2 hb hz HP1 HP2 hn hd hL
 rotate_left
 focus
  have nb:¬ iB n=false:=by simp[hb]
  by_cases h1:4000<(iD n).size
  focus
   have e1:mkB n d=⟨#[]⟩:=by rw[mkB,U0 nb,J2 h1]
   have e2:mkE n d=5:=by rw[mkE,U0 nb,J2 h1]
   have q0:decide ((4000:Int)<((iD n).size:Nat))=true:=by simp;omega
   rw[e1,e2];rw[hb]at HI;clear e1 e2 hb hz HP1 HP2 hn hd hL h1 nb
  rotate_left
  .have q0:decide ((4000:Int)<((iD n).size:Nat))=false:=by simp;omega
   by_cases h2:c0d d.data.toList=0
   focus
    have nc:¬ c0d d.data.toList≠0:=fun h=>h h2
    by_cases h3:d=⟨#[48]⟩
    focus
     have e1:mkB n d=⟨#[]⟩:=by rw[mkB,U0 nb,U0 h1,U0 nc,J2 h3]
     have e2:mkE n d=6:=by rw[mkE,U0 nb,U0 h1,U0 nc,J2 h3]
     rw[e1,e2];rw[hb]at HI;rw[h2]at HC;clear e1 e2 hb hz HP1 HP2 hn hd hL h1 nb nc h2;subst h3
    rotate_left
    .have e1:mkB n d=c0p (qmk (iM n) (bN (iD n)) (bN d)):=by rw[mkB,U0 nb,U0 h1,U0 nc,U0 h3]
     have e2:mkE n d=c0G (qmk (iM n) (bN (iD n)) (bN d)):=by rw[mkE,U0 nb,U0 h1,U0 nc,U0 h3]
     rw[e1,e2];have d1:=e0Q (d0b hb);obtain⟨d2,d3,d4⟩:=b0G h2;have hdp:0<bN d:=a1k (a0V.2 (by obtain⟨x,hx,_⟩:=h0b.1 h2;exact h0P.2 ⟨x,hx⟩)) h3;have l1:(limbs (bN (iD n))).length<=1000:=j0d d1 (by rw[a0D];omega);have l2:(limbs (bN d)).length<=1000:=d4;have HP1:=fun V=>HP1 V d1
     have HP2:=fun V=>HP2 V d2
     have HQ:=w0C (m:=iM n) hdp l1 l2;have HM:=fun V v u hv hu=>hid (r0F V (iM n) v u (bN (iD n)) (bN d) hv hu hdp (by omega) (by omega))
     obtain⟨Q,hQ⟩:=gn (qmk (iM n) (bN (iD n)) (bN d));rw[hQ]at HQ HM |-;have HN:=fun V v hv hL=>hid (o0M V v Q hv (by omega) (by omega) hL)
     rw[hb]at HI;rw[h2]at HC;have i1:=a0L (l:=[48]) h3;clear e1 e2 hb hz hn hd hL h1 nb nc h2 h3 d1 d2 d3 d4 hdp l1 l2 HQ hQ;go_enter Tryz.func215,Tryz.ntmps215;go_wp2_with fail;refine (HI _).out.mono ?_;rintro e w1 ⟨rfl,hb1⟩;have b1:=hid hb1;clear hb1;go_wp2_with fail;refine (HC _).out.mono ?_;rintro e w2 ⟨rfl,hb2⟩;have b2:=hid (a0a b1.out hb2);clear hb2;go_wp2_with fail;refine (HP1 _).out.mono ?_;rintro e w3 ⟨⟨v3,rfl,hv3⟩,hb3⟩;have b3:=hid (a0a b2.out hb3);have V3:=hid hv3;clear hb3 hv3;go_wp2_with fail;refine (HP2 _).out.mono ?_;rintro e w4 ⟨⟨v4,rfl,hv4⟩,hb4⟩;have b4:=hid (a0a b3.out hb4);have V4:=hid hv4;have W3:=hid (V3.out.call hb4);clear hb4 hv4;go_wp2_with fail;refine (HM _ _ _ W3.out V4.out).out.mono ?_;rintro e w5 ⟨⟨v5,rfl,hv5⟩,hb5⟩;have b5:=hid (a0a b4.out hb5);have V5:=hid hv5;clear hb5 hv5;go_wp2_with fail;refine (HN _ _ V5.out (HL.out.call b5.out)).out.mono ?_;rintro e w6 ⟨rfl,hb6⟩;have b6:=hid (a0a b5.out hb6);clear hb6;go_wp2_with fail;go_ret2
     exact⟨rfl,b6.out⟩
   rotate_left
   focus
    have e1:mkB n d=⟨#[]⟩:=by rw[mkB,U0 nb,U0 h1,J2 h2]
    have e2:mkE n d=c0d d.data.toList:=by rw[mkE,U0 nb,U0 h1,J2 h2]
    rw[e1,e2];rw[hb]at HI;obtain⟨x,hx⟩:=gn (c0d d.data.toList);rw[hx]at HC h2 |-;have q2:(x != 0)=true:=by simpa using h2
    clear e1 e2 hb hz HP1 HP2 hn hd hL h1 nb h2 hx
   all_goals
    go_enter Tryz.func215,Tryz.ntmps215;go_wp2_with fail;refine (HI _).out.mono ?_;rintro e w1 ⟨rfl,hb1⟩;have b1:=hid hb1;clear hb1;go_wp2_with fail;refine (HC _).out.mono ?_;rintro e w2 ⟨rfl,hb2⟩;have b2:=hid (a0a b1.out hb2);clear hb2;go_wp2_with fail;go_ret2
    exact⟨rfl,b2.out⟩
 all_goals
  go_enter Tryz.func215,Tryz.ntmps215;go_wp2_with fail;refine (HI _).out.mono ?_;rintro e w1 ⟨rfl,hb1⟩;have b1:=hid hb1;clear hb1;go_wp2_with fail;go_ret2
  exact⟨rfl,b1.out⟩
def v0p {a b:Nat}(ha:nDigits a<=4000)(hb:nDigits b<=4000)(h0:b≠0):mkB (a0f a) (a0f b)=c0p (qmk false a b)/\mkE (a0f a) (a0f b)=c0G (qmk false a b):=by
 have e1:iM (a0f a)=false:=by
  unfold iM Lib.hasPrefix;rw[a0q];exact e0J a
 have e2:iD (a0f a)=a0f a:=b0O e1;have e3:iB (a0f a)=true:=by
  unfold iB;rw[e1,e2,n0o];rfl
 have e4:c0d (a0f b).data.toList=0:=b0E hb;have e5:¬ (a0f b=⟨#[48]⟩):=by rw[<- a0p];exact b0M h0
 have e6:¬ 4000<(iD (a0f a)).size:=by rw[e2,a0t];omega
 constructor
 .rw[mkB,U0 (by simp[e3]),U0 e6,U0 (fun h=>h e4),U0 e5,e1,e2,b0x,b0x]
 .rw[mkE,U0 (by simp[e3]),U0 e6,U0 (fun h=>h e4),U0 e5,e1,e2,b0x,b0x]
theorem NoInt.slice (a:Option Addr)(n c:Nat):NoInt #[.slice a n c]:=by
 intro i k x h;rcases i with _ | i<;>simp at h
theorem NoInt.bool (m:Bool):NoInt #[.bool m]:=by
 intro i k x h;rcases i with _ | i<;>simp at h
structure PowS (w:World)(bs bf bl:Nat)(sq:Nat)(fits:Bool):Prop where
 sq:∃ a n c,Blk w bs #[.slice a n c] 124/\IsN .u64 w (.slice a n c) sq
 fits:Blk w bf #[.bool fits] 4
 lim:Blk w bl #[.int .i64 4000] 3
 n1:bs≠bf
 n2:bs≠bl
 n3:bf≠bl
def Fh:=@decide_eq_decide
def v0s (w:World)(bs bf bl sq B:Nat)(f:Bool)(h:PowS w bs bf bl sq f)(hs:B<=bs)(hf:B<=bf)(hB:B<=w.heap.size)(hlen:(limbs sq).length<=100000)(hL:Lay w)(hLB:s0D B):
 Calls Tryz.prog 224 #[.pointer (some ⟨bs,0,none⟩),.pointer (some ⟨bl,0,none⟩),.pointer (some ⟨bf,0,none⟩)] w fun e w'=>
  (∃ v,e=.returned v)/\PowS w' bs bf bl (sq*sq) (decide (nDigits (sq*sq)<=4000))/\(∀ k v x,IsN k w v x->IsN k w' v x)/\Below B w w':=by
 obtain⟨⟨a,n,c,hbs,hv⟩,hbf,hbl,n1,n2,n3⟩:=h;have c0:w.cell? ⟨bs,0,none⟩=some (.slice a n c):=hbs.cell 0;have HBS:=hid hbs;have HBF:=hid hbf;have HBL:=hid hbl;have HV:=hid hv;have N1:=hid n1;have N2:=hid n2;have N3:=hid n3;have HS:=hid hs;have HF:=hid hf;have HB:=hid hB;have HL:=hid hL;have HLB:=hid hLB;have l2:=d0q hlen hlen;have HLM:=hid (show (limbs (sq*sq)).length<=1000000 by omega);obtain⟨S,hS⟩:=gn (sq*sq);have HM:=fun V h=>hid (h0s V (.slice a n c) (.slice a n c) sq sq h h (by omega) (by omega))
 rw[hS]at HM HLM |-;clear hbs hv hbf hbl n1 n2 n3 hs hf hB hlen hL l2 hS hLB;go_enter Tryz.func224,Tryz.ntmps224;go_wp2_with fail;refine (HM _ HV.out).out.mono ?_;rintro e w1 ⟨⟨v1,rfl,hv1⟩,hb1⟩;obtain⟨a1,k1,d1,rfl⟩:∃ a k d,v1=.slice a k d:=by
  obtain⟨a,c,e,_⟩:=hv1.openI;exact⟨_,_,_,e⟩
 have S1:=hid (HBS.out.call hb1);have F1:=hid (HBF.out.call hb1);have T1:=hid (HBL.out.call hb1);have B1:=hid hb1;have V1:=hid hv1;have e0:=S1.out.free 0;have e1:=S1.out.cell 0;simp at e1;clear hb1 hv1 HM c0;go_wp2_with fail;obtain⟨w2,hw2⟩:=gn (w1.setCell ⟨bs,0,none⟩ (.slice a1 k1 d1));have s2:Blk w2 bs #[.slice a1 k1 d1] 124:=by rw[<- hw2];exact S1.out.set 0 _
 have f2:Blk w2 bf #[.bool f] 4:=by rw[<- hw2];exact F1.out.other (fun e=>N1.out e) _
 have t2:Blk w2 bl #[.int .i64 4000] 3:=by rw[<- hw2];exact T1.out.other (fun e=>N2.out e) _
 have v2:IsN .u64 w2 (.slice a1 k1 d1) S:=by rw[<- hw2];exact V1.out.setQ S1.out (NoInt.slice _ _ _) 0 _
 have k2:∀ k v x,IsN k w v x->IsN k w2 v x:=fun k v x h=>by rw[<- hw2];exact (h.call B1.out).setQ S1.out (NoInt.slice _ _ _) 0 _
 have b2:Below B w w2:=by rw[<- hw2];exact (B1.out.mono HB.out).setCell HS.out _
 have hsz:w.heap.size<=w2.heap.size:=by rw[<- hw2];simpa[World.setCell]using B1.out.size
 rw[hw2];have S2:=hid s2;have F2:=hid f2;have T2:=hid t2;have V2:=hid v2;have K2:=hid k2;have B2:=hid b2;have SZ:=hid hsz;have L2:Hid (Lay w2):=HL.out.below b2 HLB.out;clear s2 f2 t2 v2 k2 b2 hw2 e0 e1 hsz;have hS:w2.drew.cell? ⟨bs,0,none⟩=some (.slice a1 k1 d1)/\w2.drew.cell? ⟨bl,0,none⟩=some (.int .i64 4000):=⟨S2.out.cell 0,T2.out.cell 0⟩;refine a0m [0,2] 3 (fun W'=>W'.cell? ⟨bs,0,none⟩=some (.slice a1 k1 d1)/\W'.cell? ⟨bl,0,none⟩=some (.int .i64 4000)) (by kernel_rfl) (by kernel_rfl) (by kernel_rfl) (by kernel_rfl) hS ?_
 iterate 2
  refine⟨_,rfl,?_⟩;apply Exists.intro
  refine⟨.inl ⟨by rfl,?_⟩,?_⟩
  .rintro W' ⟨q1,q2⟩;go_simp;try with_reducible rfl
  go_frame
 clear hS;refine a0c (i:=1) (by kernel_rfl) (by rfl) (by rfl) ?_;go_wp2_with fail;refine (c0m _ _ S (V2.out.call br0.drew) (L2.out.call br0.drew) HLM.out).mono ?_;rintro e w3 ⟨rfl,hb3⟩;have B3:=hid (show Below w2.heap.size w2 w3 from br0.drew.trans hb3);have S3:=hid (S2.out.call B3.out);have F3:=hid (F2.out.call B3.out);have T3:=hid (T2.out.call B3.out);have V3:=hid (V2.out.call B3.out);have hS:w3.cell? ⟨bs,0,none⟩=some (.slice a1 k1 d1)/\w3.cell? ⟨bl,0,none⟩=some (.int .i64 4000):=⟨S3.out.cell 0,T3.out.cell 0⟩;clear hb3;go_wp2_with fail;refine⟨hS,?_⟩;refine b0e (is:=[3]) (g:=1) (by kernel_rfl) rfl hS (by kernel_rfl) ?_
 iterate 1
  refine⟨_,rfl,?_⟩;apply Exists.intro
  refine⟨.inl ⟨by rfl,?_⟩,?_⟩
  ·(intro W' hW';clear hW';go_simp;try (with_reducible rfl))
  go_frame
 refine a0c (i:=4) (by kernel_rfl) (by rfl) (by rfl) ?_;have g0:=F3.out.free 0;have g1:=F3.out.cell 0;simp at g1;clear hS;go_wp2_with fail;have s4:=S3.out.other (a:=⟨bf,0,none⟩) (fun e=>N1.out e.symm) (.bool (decide ((nDigits S:Int)<=4000)));have f4:=F3.out.set 0 (.bool (decide ((nDigits S:Int)<=4000)));have t4:=T3.out.other (a:=⟨bf,0,none⟩) (fun e=>N3.out e) (.bool (decide ((nDigits S:Int)<=4000)));refine⟨⟨s4.cell 0,t4.cell 0⟩,?_⟩;refine H8 (by kernel_rfl) ?_ _;simp only[b0h];go_wp2_with fail
 go_end0
 refine⟨⟨_,rfl⟩,⟨⟨a1,k1,d1,s4,V3.out.setQ F3.out (NoInt.bool _) 0 _⟩,?_,t4,N1.out,N2.out,N3.out⟩,?_,?_⟩
 .have e:decide ((nDigits S:Int)<=4000)=decide (nDigits S<=4000):=Fh.2 (by omega);rw[<- e];exact f4
 .intro k v x h;exact ((K2.out k v x h).call B3.out).setQ F3.out (NoInt.bool _) 0 _
 .exact (B2.out.trans (B3.out.mono (O0 HB.out SZ.out))).setCell HF.out _
structure PowI (A sq out n:Nat)(fits:Bool):Prop where
 eq:out*sq ^ n=A
 two:2<=sq
 n1:1<=n
 small:nDigits out<=4000
 fit:fits=false->4000<nDigits sq
 len:fits=true->(limbs sq).length<=100000
 lim:(limbs sq).length<=200000
 pos:1<=out
theorem PowI.start {a n:Nat}(ha:2<=a)(hn:1<=n)(hl:(limbs a).length<=100000):PowI (a ^ n) a 1 n true:=
 ⟨Gr _,ha,hn,by rw[b0n];omega,fun h=>by (cases h),fun _=>hl,by omega,J4 _⟩
theorem PowI.sq_le {A sq out n:Nat}{fits:Bool}(h:PowI A sq out n fits):out*sq<=A:=by
 rw[<- h.eq];refine Aa _ ?_;have:=H6 (n:=sq) (by have:=h.two;omega) h.n1;rwa[Nat.pow_one]at this
theorem PowI.big {A sq out n:Nat}{fits:Bool}(h:PowI A sq out n fits)(hf:fits=false):4000<nDigits A:=by
 refine U6 (h.fit hf) (a0r ?_);exact O0 (Ju _ h.pos) h.sq_le
theorem PowI.bigO {A sq out n:Nat}{fits:Bool}(h:PowI A sq out n fits)(hb:4000<nDigits (out*sq)):4000<nDigits A:=
 U6 hb (a0r h.sq_le)
theorem PowI.done {A sq out n:Nat}{fits:Bool}(h:PowI A sq out n fits)(hn:n=1):out*sq=A:=by
 rw[<- h.eq,hn,Nat.pow_one]
def v0a {sq:Nat}(h:(limbs sq).length<=100000):(limbs (sq*sq)).length<=200000:=by
 have:=a0H h h;omega
theorem PowI.odd {A sq out n:Nat}{fits:Bool}(h:PowI A sq out n fits)(hf:fits=true)(ho:n%2=1)(hs:nDigits (out*sq)<=4000)(h2:1<=n / 2):PowI A (sq*sq) (out*sq) (n / 2) (decide (nDigits (sq*sq)<=4000)):=by
 have h4:=Bk h.two h.two;refine⟨?_,by omega,h2,hs,fun e=>?_,fun e=>?_,v0a (h.len hf),Dr h.pos (by have:=h.two;omega)⟩
 .rw[<- h.eq,U8,<- Nat.pow_two,<- Nj];have:sq*sq ^ (2*(n / 2))=sq ^ n:=by
   rw[<- Nat.pow_succ']
   congr 1
   omega
  rw[this]
 .have:=Gk e;omega
 .have:=a0n (M9 e);omega
theorem PowI.even {A sq out n:Nat}{fits:Bool}(h:PowI A sq out n fits)(hf:fits=true)(ho:n%2=0):PowI A (sq*sq) out (n / 2) (decide (nDigits (sq*sq)<=4000)):=by
 have h4:=Bk h.two h.two;have h1:=h.n1;refine⟨?_,by omega,by omega,h.small,fun e=>?_,fun e=>?_,v0a (h.len hf),h.pos⟩
 .rw[<- h.eq,<- Nat.pow_two,<- Nj]
  congr 2
  omega
 .have:=Gk e;omega
 .have:=a0n (M9 e);omega
def j0q (n:Nat)(e:Ending)(w':World):Prop:=
 (nDigits n<=4000/\∃ v,e=.returned (.tuple #[v,.bool true])/\IsN .u64 w' v n)\/(4000<nDigits n/\e=.returned (.tuple #[.slice none 0 0,.bool false]))
def u0g (w:World):IsN .u64 (w.alloc (.cells #[.int .u64 1] 161)) (.slice (some ⟨w.heap.size,0,none⟩) 1 1) 1:=by
 unfold IsN;rw[c0O];exact Row.of_blk (b:=w.heap.size) (n:=1) (c:=1) (cs:=#[.int .u64 1]) (Blk.new w _ _) rfl (by unfold maxLen;omega) (fun i x hx=>by simpa[b0p]using hx) nr0 (by unfold maxLen;omega)
def m0S {n:Nat}(h:n<18446744073709551616):(bits BinOp.and IntKind.u64 (n:Int) 1==1)=decide (n%2=1):=by
 rw[and_one_u64 _ (by omega) (by omega),Ay,Dk,K6];omega
def o0D (w:World)(v:Value)(a:Nat)(ha:IsN .u64 w v a):Calls Tryz.prog 159 #[v,.int .u64 0,.int .i64 4000] w fun e w'=>j0q (a ^ 0) e w'/\Below w.heap.size w w':=by
 have H1:=hid (u0g (w.alloc (.cells #[.int .i64 4000] 3)));go_enter Tryz.func159,Tryz.ntmps159;go_wp2_with fail;go_ret2
 refine⟨.inl ⟨by rw[El,b0n];omega,_,rfl,by rw[El];simpa using H1.out⟩,(br0.alloc nr0 _).alloc (by simp) _⟩
def l0E (w:World)(v:Value)(a n:Nat)(ha:IsN .u64 w v a)(hs:a<=1)(hn:0<n)(hn2:n<18446744073709551616):Calls Tryz.prog 159 #[v,.int .u64 n,.int .i64 4000] w fun e w'=>j0q (a ^ n) e w'/\Below w.heap.size w w':=by
 have hpow:=hid (show a ^ n=a/\nDigits a<=4000 from by
  rcases (show a=0\/a=1 by omega) with rfl | rfl
  .exact⟨Nat.zero_pow hn,by rw[c0A];omega⟩
  .exact⟨Nat.one_pow _,by rw[b0n];omega⟩)
 have b0:=hid ((Z3 w.heap.size w).alloc nr0 (.cells #[.int .i64 4000] 3));have A0:=hid (ha.call b0.out);have q0:((n:Int)==0)=false:=by rw[U4];omega
 obtain⟨k1,d1,rfl,_⟩:=ha.openI;obtain⟨len,hlen⟩:=gn ((limbs a).length);rw[hlen]at A0 |-;clear ha hlen;rcases (show a=0\/a=1 by omega) with rfl | rfl
 focus
  have hz:isZ 0=true:=rfl;clear hs hn hn2;go_enter Tryz.func159,Tryz.ntmps159;go_wp2_with fail;refine (f0w _ _ _ A0.out).mono ?_;rintro e w1 ⟨rfl,rfl⟩;rw[hz]
 rotate_left
 focus
  have hz:isZ 1=false:=rfl;have ho:isO 1=true:=rfl;clear hs hn hn2;go_enter Tryz.func159,Tryz.ntmps159;go_wp2_with fail;refine (f0w _ _ _ A0.out).mono ?_;rintro e w1 ⟨rfl,rfl⟩;rw[hz];go_wp2_with fail;refine (l0F _ _ _ A0.out).mono ?_;rintro e w1 ⟨rfl,rfl⟩;rw[ho]
 all_goals
  go_wp2_with fail;go_ret2
  exact⟨.inl ⟨by rw[hpow.out.1];exact hpow.out.2,_,rfl,by rw[hpow.out.1];exact A0.out⟩,b0.out⟩
def M6:=@decide_eq_false
def E7:=@decide_eq_true
def q0V (w:World)(v:Value)(a N:Nat)(ha:IsN .u64 w v a)(hs:2<=a)(hl:(limbs a).length<=100000)(hn:0<N)(hn2:N<18446744073709551616)(hL:Lay w):Calls Tryz.prog 159 #[v,.int .u64 N,.int .i64 4000] w fun e w'=>j0q (a ^ N) e w'/\Below w.heap.size w w':=by
 have b0:=hid ((Z3 w.heap.size w).alloc nr0 (.cells #[.int .i64 4000] 3));have A0:=hid (ha.call b0.out);have HA:=hid ha;have q0:((N:Int)==0)=false:=by rw[U4];omega
 obtain⟨k1,d1,rfl,_⟩:=ha.openI;obtain⟨len,hlen⟩:=gn ((limbs a).length);have PI:=hid (PowI.start (n:=N) hs hn hl);rw[hlen]at A0 HA |-;have hz:isZ a=false:=M6 (by omega);have ho:isO a=false:=M6 (by omega);have HN2:=hid hn2;have HL:=hid hL;have HLL:=hid hL.lt;obtain⟨R,hR⟩:=gn (a ^ N);rw[hR]at PI |-;clear ha hlen hs hl hn hn2 hL hR;go_enter Tryz.func159,Tryz.ntmps159;go_wp2_with fail;refine (f0w _ _ _ A0.out).mono ?_;rintro e w1 ⟨rfl,rfl⟩;rw[hz];clear hz;go_wp2_with fail;refine (l0F _ _ _ A0.out).mono ?_;rintro e w1 ⟨rfl,rfl⟩;rw[ho];clear ho;go_wp2_with fail;obtain⟨W0,hW0⟩:=gn (((((w.alloc (.cells #[.int .i64 4000] 3)).alloc (.cells #[.int .u64 1] 161)).alloc (.cells #[.slice k1 len d1] 124)).alloc (.cells #[.bool true] 4)));have b4:Below w.heap.size w W0:=by rw[<- hW0];exact (((br0.alloc nr0 _).alloc (by simp) _).alloc (by simp<;>omega) _).alloc (by simp<;>omega) _
 have x0:Blk W0 w.heap.size #[.int .i64 4000] 3:=by rw[<- hW0];exact (((Blk.new w _ _).alloc _).alloc _).alloc _
 have x1:Blk W0 (w.heap.size+1) #[.int .u64 1] 161:=by rw[<- hW0];exact ((Blk.made _ _ _ (by simp)).alloc _).alloc _
 have x2:Blk W0 (w.heap.size+1+1) #[.slice k1 len d1] 124:=by rw[<- hW0];exact (Blk.made _ _ _ (by simp)).alloc _
 have x3:Blk W0 (w.heap.size+1+1+1) #[.bool true] 4:=by rw[<- hW0];exact Blk.made _ _ _ (by simp)
 have o0:IsN .u64 W0 (.slice (some ⟨w.heap.size+1,0,none⟩) 1 1) 1:=by
  unfold IsN;rw[c0O];exact Row.of_blk (n:=1) (c:=1) x1 rfl (by unfold maxLen;omega) (fun i x hx=>by simpa[b0p]using hx) nr0 (by unfold maxLen;omega)
 have P0:PowS W0 (w.heap.size+1+1) (w.heap.size+1+1+1) w.heap.size a true:=⟨⟨_,_,_,x2,HA.out.call b4⟩,x3,x0,by omega,by omega,by omega⟩;rw[hW0];have OO:=hid o0;have PP:=hid P0;have BB:=hid b4;obtain⟨bs,hbs⟩:=gn (w.heap.size+1+1);rw[hbs]at PP |-;obtain⟨bf,hbf⟩:=gn (bs+1);rw[hbf]at PP |-;have HBS:=hid (show w.heap.size<=bs by omega);have HBF:=hid (show w.heap.size<=bf by omega);have e159:∀ args w,(callFunc 224 args).run Tryz.prog w=.ok (.enter 224 args) w:=Ch Tryz.func224 (by kernel_rfl) rfl;clear b4 x0 x1 x2 x3 o0 P0 hW0 hbs hbf A0 b0 q0
 go_loopw [1,8] (fun nn oo wr=>∃ (n out sq:Nat) (fits:Bool) (a1:Option Addr) (l1 c1:Nat),nn=.int .u64 (n:Nat)/\oo=.slice a1 l1 c1/\Hid (PowI R sq out n fits)/\Hid (IsN .u64 wr (.slice a1 l1 c1) out)/\Hid (PowS wr bs bf w.heap.size sq fits)/\Hid (Below w.heap.size w wr)/\n<18446744073709551616) (fun nn oo wr=>(intOf nn).toNat)
 case atStart=>exact⟨N,1,a,true,_,_,_,rfl,rfl,PI.out,OO.out,PP.out,BB.out,HN2.out⟩
 case round=>
  obtain⟨n,out,sq,fits,a1,l1,c1,rfl,rfl,hI,hO,hS,hB,hn⟩:=hrel;obtain⟨a2,l2,c2,h1,h2⟩:=hS.out.sq;have HL1:=hid (HL.out.call hB.out);have HO:=hid h1;have HV:=hid h2;have HF:=hid hS.out.fits;have HT:=hid hS.out.lim;have k0:wr.cell? ⟨bs,0,none⟩=some (.slice a2 l2 c2):=h1.cell 0;have k1:wr.cell? ⟨bf,0,none⟩=some (.bool fits):=hS.out.fits.cell 0;have HN:=hid hn;have HN1:=hid hI.out.n1;have HLO:=hid (a0n hI.out.small);have HLS:=hid hI.out.lim;clear h1 h2;by_cases ho:n%2=1
  .have q1:(bits BinOp.and IntKind.u64 (n:Int) 1==1)=true:=by rw[m0S hn];exact E7 ho
   have HO1:=hid ho;clear ho hn;go_wp2_with fail;refine (h0s _ _ _ out sq hO.out HV.out (by have:=HLO.out;omega) (by have:=HLS.out;omega)).mono ?_;rintro e w1 ⟨⟨v1,rfl,hv1⟩,hb1⟩;have HLM:=hid (a0H HLO.out HLS.out);obtain⟨a3,c3,rfl,_⟩:=hv1.openI;obtain⟨l3,hl3⟩:=gn ((limbs (out*sq)).length);rw[hl3]at hv1 |-;have V1:=hid hv1;have F1:=hid (HF.out.call hb1);have T1:=hid (HT.out.call hb1);have B1:=hid (a0a hB.out hb1);have S1:Hid (PowS w1 bs bf w.heap.size sq fits):=⟨⟨_,_,_,HO.out.call hb1,HV.out.call hb1⟩,F1.out,T1.out,hS.out.n1,hS.out.n2,hS.out.n3⟩;have m1:w1.cell? ⟨bf,0,none⟩=some (.bool fits):=F1.out.cell 0;have m2:w1.cell? ⟨w.heap.size,0,none⟩=some (.int .i64 4000):=T1.out.cell 0;have L1:=hid (HL1.out.call hb1);have B1x:=hid hb1;clear hb1 hv1 k0 k1 hl3;cases fits
   .go_wp2_with fail;go_quiet (fail)
    go_wp2_with fail;go_ret2
    exact⟨.inr ⟨hI.out.big rfl,rfl⟩,a0j B1.out _⟩
   .go_wp2_with fail
    go_region_held3 (fun w'=>w'.cell? ⟨bf,0,none⟩=some (.bool true)/\w'.cell? ⟨w.heap.size,0,none⟩=some (.int .i64 4000))
     (first | exact⟨m1,m2⟩ | exact⟨F2.out.cell 0,T2.out.cell 0⟩)
     (first
      | (go_at_call 198;refine (c0m _ _ (out*sq) (V1.out.call br0.drew) (L1.out.call br0.drew) (by have:=HLM.out;omega)).mono ?_;rintro e w2 ⟨rfl,hb2⟩;have B2:=hid (show Below w1.heap.size w1 w2 from br0.drew.trans hb2);have F2:=hid (F1.out.call B2.out);have T2:=hid (T1.out.call B2.out)))
    have S2:Hid (PowS w2 bs bf w.heap.size sq true):=⟨⟨_,_,_,(HO.out.call B1x.out).call B2.out,(HV.out.call B1x.out).call B2.out⟩,F2.out,T2.out,hS.out.n1,hS.out.n2,hS.out.n3⟩;have V2:=hid (V1.out.call B2.out);have L2:=hid (L1.out.call B2.out);have BB2:=hid (a0a B1.out B2.out);clear m1 m2;by_cases hd:4000<nDigits (out*sq)
    .have q2:decide ((4000:Int)<(nDigits (out*sq):Nat))=true:=by simp;omega
     have HD:=hid hd;rw[q2];clear hd q2;go_wp2_with fail;go_ret2
     exact⟨.inr ⟨hI.out.bigO HD.out,rfl⟩,BB2.out⟩
    .have q2:decide ((4000:Int)<(nDigits (out*sq):Nat))=false:=by simp;omega
     have HD:=hid (show nDigits (out*sq)<=4000 by omega);rw[q2];clear hd q2;have m1:w2.cell? ⟨bf,0,none⟩=some (.bool true):=F2.out.cell 0;by_cases h1:n=1
     .have HD1:=hid (hI.out.done h1);subst h1;go_wp2_with fail;go_ret2
      exact⟨.inl ⟨by rw[<- HD1.out];exact HD.out,_,rfl,by rw[<- HD1.out];exact V2.out⟩,BB2.out⟩
     .have h2:1<=n / 2:=by have:=HO1.out;omega
      have q3:((n:Int) / 2==0)=false:=by rw[U4];omega
      have HI2:=hid (hI.out.odd rfl HO1.out HD.out h2);clear h1 h2;go_wp2_with fail;refine (v0s _ bs bf w.heap.size sq w.heap.size true S2.out HBS.out HBF.out BB2.out.size (hI.out.len rfl) L2.out HLL.out).mono ?_;rintro e w5 ⟨⟨v5,rfl⟩,hp5,hk5,hb5⟩;have P5:=hid hp5;have O5:=hid (hk5 _ _ _ V2.out);have B5:=hid (BB2.out.trans hb5);clear hp5 hk5 hb5;go_wp2_with fail;go_roundw
      case rel=>exact⟨n / 2,out*sq,sq*sq,_,_,_,_,by rw[show ((n:Int) / 2)=((n / 2:Nat):Int) by omega],rfl,HI2,O5,P5,B5,by have:=HN.out;omega⟩
      case measure=>simp[intOf]<;>(have:=HN1.out;omega)
  .have q1:(bits BinOp.and IntKind.u64 (n:Int) 1==1)=false:=by rw[m0S hn];exact M6 ho
   have h0:n%2=0:=by omega
   have h2:1<=n / 2:=by have:=HN1.out;omega
   have q3:((n:Int) / 2==0)=false:=by rw[U4];omega
   have H0:=hid h0;clear ho hn h0 h2;cases fits
   .go_wp2_with fail;go_ret2
    exact⟨.inr ⟨hI.out.big rfl,rfl⟩,hB.out⟩
   .have HI2:=hid (hI.out.even rfl H0.out);go_wp2_with fail;refine (v0s _ bs bf w.heap.size sq w.heap.size true hS.out HBS.out HBF.out hB.out.size (hI.out.len rfl) HL1.out HLL.out).mono ?_;rintro e w5 ⟨⟨v5,rfl⟩,hp5,hk5,hb5⟩;have P5:=hid hp5;have O5:=hid (hk5 _ _ _ hO.out);have B5:=hid (hB.out.trans hb5);clear hp5 hk5 hb5;go_wp2_with fail;go_roundw
    case rel=>exact⟨n / 2,out,sq*sq,_,_,_,_,by rw[show ((n:Int) / 2)=((n / 2:Nat):Int) by omega],rfl,HI2,O5,P5,B5,by have:=HN.out;omega⟩
    case measure=>simp[intOf]<;>(have:=HN1.out;omega)
def q0W (w:World)(v:Value)(a n:Nat)(ha:IsN .u64 w v a)(hl:(limbs a).length<=100000)(hn2:n<18446744073709551616)(hL:Lay w):Calls Tryz.prog 159 #[v,.int .u64 n,.int .i64 4000] w fun e w'=>j0q (a ^ n) e w'/\Below w.heap.size w w':=by
 rcases M7 n with rfl | hn
 .exact o0D w v a ha
 .by_cases h:a<=1
  .exact l0E w v a n ha h hn hn2
  .exact q0V w v a n ha (by omega) hl hn hn2 hL
def t0S (w:World)(s:ByteArray)(n:Nat)(hs:c0d s.data.toList=0)(hn:n<=9223372036854775807)(hd:nDigits (bN s ^ n)<=4000)(hL:Lay w):
 Calls Tryz.prog 278 #[.string s,.int .i64 n] w fun e w'=>e=.returned (.tuple #[.string (a0f (bN s ^ n)),.int .i64 0])/\Below w.heap.size w w':=by
 obtain⟨d1,d2,d3⟩:=b0G hs;have HC:=fun V=>hid (f0f V s (by omega))
 rw[hs]at HC;have HP:=fun V=>hid (c0q V s d1 (by omega))
 have hdv:dv s.data.toList=bN s:=rfl;rw[hdv]at HP;have HW:=fun V v hv hL=>hid (q0W V v (bN s) n hv (by omega) (by omega) hL)
 have HR:=fun V v hv hL=>hid (g0c V v (bN s ^ n) hv (by have:=a0n hd;omega) hL)
 have e1:m0F (bN s ^ n)=a0f (bN s ^ n):=by rw[m0F,U0 (by omega)]
 have e2:j0T (bN s ^ n)=0:=by rw[j0T,U0 (by omega)]
 rw[e1,e2]at HR;obtain⟨R,hR⟩:=gn (bN s ^ n);rw[hR]at HW HR hd |-;have HD:=hid hd;have HL:=hid hL;have hn0:(0:Int)<=(n:Int):=by omega
 have hn1:(n:Int)<=9223372036854775807:=by omega
 have q0:decide ((n:Int)<0)=false:=by simp
 clear hs hn d1 d2 d3 hdv e1 e2 hR hd hL;go_enter Tryz.func278,Tryz.ntmps278;go_wp2_with fail;refine (HC _).out.mono ?_;rintro e w1 ⟨rfl,hb1⟩;have b1:=hid hb1;clear hb1;go_wp2_with fail;refine (HP _).out.mono ?_;rintro e w2 ⟨⟨v2,rfl,hv2⟩,hb2⟩;have b2:=hid (a0a b1.out hb2);have V2:=hid hv2;clear hb2 hv2;go_wp2_with fail;refine (HW _ _ V2.out (HL.out.call b2.out)).out.mono ?_;rintro e w3 ⟨h3,hb3⟩;rcases h3 with ⟨-,v3,rfl,hv3⟩ | ⟨h3,-⟩
 .have b3:=hid (a0a b2.out hb3);have V3:=hid hv3;clear hb3 hv3;go_wp2_with fail;refine (HR _ _ V3.out (HL.out.call b3.out)).out.mono ?_;rintro e w4 ⟨rfl,hb4⟩;have b4:=hid (a0a b3.out hb4);clear hb4;go_wp2_with fail;go_ret2
  exact⟨rfl,b4.out⟩
 .exact absurd h3 (by have:=HD.out;omega)
def Mc:=@Nat.pow_le_pow_left
def Gt:=@Nat.pow_lt_pow_right
def Ed:=@Nat.succ_pos
def h0z {n:Nat}(h:n<=1000):nDigits (2 ^ n)<=4000:=by
 have h1:2 ^ n<10 ^ (n+1):=by
  have h2:2 ^ n<=10 ^ n:=Mc (by omega) n;have h3:10 ^ n<10 ^ (n+1):=Gt (by omega) (by omega);omega
 exact O0 (a0l (Ed n) h1) (by omega)
def v0M:bN ⟨#[50]⟩=2:=by decide
def u0D:c0d (⟨#[50]⟩:ByteArray).data.toList=0:=by decide
open Go.Shelf
def shB (m t:Nat):ByteArray:=c0p (qmk false m t)
def w0H (w:World)(m t:Nat)(hm:nDigits m<=4000)(ht:nDigits t<=4000)(h0:t≠0)(hL:Lay w):
 Calls Tryz.prog 215 #[.string (a0f m),.string (a0f t)] w fun e w'=>e=.returned (.tuple #[.string (shB m t),.int .i64 (c0G (qmk false m t))])/\Below w.heap.size w w':=by
 have h:=v0i w (a0f m) (a0f t) (a0N hm) (a0N ht) hL;have e:=v0p hm ht h0;rwa[e.1,e.2]at h
structure MRow (w:World)(v:Value)(L:List (ByteArray×ByteArray)):Prop where
 ex:∃ a c,v=.slice a L.length c/\L.length<=c/\c<=9223372036854775807/\∀ (i:Nat) (x:ByteArray×ByteArray),L[i]?=some x->∃ g o,a=some ⟨g,o,none⟩/\g<w.heap.size/\w.cell? ⟨g,o+2*i,none⟩=some (.string x.1)/\w.cell? ⟨g,o+2*i+1,none⟩=some (.string x.2)
theorem MRow.call {w w':World}{v:Value}{L:List (ByteArray×ByteArray)}(h:MRow w v L)(hb:Below w.heap.size w w'):MRow w' v L:=by
 obtain⟨a,c,rfl,h1,h2,h3⟩:=h.ex;refine⟨a,c,rfl,h1,h2,fun i x hx=>?_⟩;obtain⟨g,o,rfl,hg,k1,k2⟩:=h3 i x hx;exact⟨g,o,rfl,U6 hg hb.size,(hb.cell (p:=⟨g,o+2*i,none⟩) hg).trans k1,(hb.cell (p:=⟨g,o+2*i+1,none⟩) hg).trans k2⟩
theorem MRow.nil (w:World):MRow w (.slice none 0 0) []:=⟨none,0,rfl,J4 _,by omega,fun i x h=>by simp at h⟩
def w0Z {x y:ByteArray}(h:¬ x=y):¬ x.toList=y.toList:=fun e=>h (by
 rw[Cl,Cl]at e;exact b0c e)
def Ha:=@Prod.mk.injEq
def q0Y (w:World)(v u:Value)(L M:List (ByteArray×ByteArray))(hv:MRow w v L)(hu:MRow w u M):
 Calls Tryz.prog 18 #[v,u] w fun e w'=>e=.returned (.bool (decide (L=M)))/\Below w.heap.size w w':=by
 obtain⟨a,c,rfl,h1,h2,h3⟩:=hv.ex;obtain⟨a',c',rfl,h1',h2',h3'⟩:=hu.ex;obtain⟨n,hn⟩:=gn (L.length);obtain⟨m,hm⟩:=gn (M.length);rw[hn]at h1 |-;rw[hm]at h1' |-;have H3:=hid h3;have H3':=hid h3';have HN:=hid hn;have HM:=hid hm;clear hv hu h3 h3';by_cases hnm:n=m
 .subst hnm;have q0:((n:Int) != (n:Int))=false:=by simp
  clear hn hm;go_enter Tryz.func18,Tryz.ntmps18;go_wp2_with fail
  go_loopw [5] (fun ii wr=>∃ i:Nat,ii=.int .i64 (i:Nat)/\i<=n/\Hid (∀ j,j<i->L[j]?=M[j]?)/\Hid (Below w.heap.size w wr)) (fun ii wr=>n-(intOf ii).toNat)
  case atStart=>exact⟨0,rfl,S4 _,fun j hj=>absurd hj (by omega),Z3 _ _⟩
  case round=>
   obtain⟨i,rfl,hi,hI,hB⟩:=hrel;by_cases hlt:i<n
   .obtain⟨x,hx⟩:∃ x,L[i]?=some x:=⟨_,List.getElem?_eq_getElem (by rw[HN.out];exact hlt)⟩;obtain⟨y,hy⟩:∃ x,M[i]?=some x:=⟨_,List.getElem?_eq_getElem (by rw[HM.out];exact hlt)⟩;obtain⟨g,o,rfl,hg,k1,k2⟩:=H3.out i x hx;obtain⟨g',o',rfl,hg',k1',k2'⟩:=H3'.out i y hy;obtain⟨x1,x2⟩:=x;obtain⟨y1,y2⟩:=y;have HX:=hid hx;have HY:=hid hy;have m1:=(hB.out.cell (p:=⟨g,o+2*i,none⟩) hg).trans k1;have m2:=(hB.out.cell (p:=⟨g,o+2*i+1,none⟩) hg).trans k2;have m3:=(hB.out.cell (p:=⟨g',o'+2*i,none⟩) hg').trans k1';have m4:=(hB.out.cell (p:=⟨g',o'+2*i+1,none⟩) hg').trans k2';dsimp only at m1 m2 m3 m4;rw[Nat.mul_comm 2 i]at m1 m2 m3 m4;have b1:(0:Int)<=(i:Int):=by omega
    have b2:(i:Int)<(n:Int):=by omega
    have wi:IntKind.i64.wrap ((i:Int)+1)=(i:Int)+1:=by rw[Q0 _ ⟨by omega,by omega⟩]
    clear k1 k2 k1' k2' hx hy hg hg';by_cases he1:x1=y1
    focus
     subst he1;by_cases he2:x2=y2
     .subst he2;go_wp2_with fail;refine a0m [0,1,2,3,4,5,6,7,8] 0 (fun w'=>w'.cell? ⟨g,o+i*2,none⟩=some (.string x1)/\w'.cell? ⟨g,o+i*2+1,none⟩=some (.string x2)/\w'.cell? ⟨g',o'+i*2,none⟩=some (.string x1)/\w'.cell? ⟨g',o'+i*2+1,none⟩=some (.string x2)) (by kernel_rfl) (by kernel_rfl) (by kernel_rfl) (by kernel_rfl) ⟨m1,m2,m3,m4⟩ ?_
      iterate 9
       refine⟨_,rfl,?_⟩;apply Exists.intro
       refine⟨.inl ⟨by rfl,?_⟩,?_⟩
       .rintro W' ⟨q1,q2,q3,q4⟩;go_simp;try with_reducible rfl
       go_frame
      refine H8 (by kernel_rfl) ?_ _;simp only[b0h];go_wp2_with fail;go_roundw
      case rel=>exact⟨i+1,rfl,by omega,fun j hj=>by
       rcases Cc j i with h | h
       .exact hI.out j h
       .obtain rfl:j=i:=by omega
        rw[HX.out,HY.out],hB.out.drew⟩
      case measure=>simp[intOf]<;>omega
     focus
      have n2:=w0Z he2;have hne:decide (L=M)=false:=by
       rw[D9];rintro rfl;have:=HX.out.symm.trans HY.out;simp only[Ad,Ha]at this;exact he2 this.2
      have HNE:=hid hne;clear hne he2;go_wp2_with fail;refine a0m [0,1,2,3,4,5,6,7,8] 0 (fun w'=>w'.cell? ⟨g,o+i*2,none⟩=some (.string x1)/\w'.cell? ⟨g,o+i*2+1,none⟩=some (.string x2)/\w'.cell? ⟨g',o'+i*2,none⟩=some (.string x1)/\w'.cell? ⟨g',o'+i*2+1,none⟩=some (.string y2)) (by kernel_rfl) (by kernel_rfl) (by kernel_rfl) (by kernel_rfl) ⟨m1,m2,m3,m4⟩ ?_
    rotate_left
    focus
     have n1:=w0Z he1;have hne:decide (L=M)=false:=by
      rw[D9];rintro rfl;have:=HX.out.symm.trans HY.out;simp only[Ad,Ha]at this;exact he1 this.1
     have HNE:=hid hne;clear hne he1;go_wp2_with fail;refine a0m [0,1,2,3,4,5,6,7,8] 0 (fun w'=>w'.cell? ⟨g,o+i*2,none⟩=some (.string x1)/\w'.cell? ⟨g,o+i*2+1,none⟩=some (.string x2)/\w'.cell? ⟨g',o'+i*2,none⟩=some (.string y1)/\w'.cell? ⟨g',o'+i*2+1,none⟩=some (.string y2)) (by kernel_rfl) (by kernel_rfl) (by kernel_rfl) (by kernel_rfl) ⟨m1,m2,m3,m4⟩ ?_
    all_goals
     iterate 9
      refine⟨_,rfl,?_⟩;apply Exists.intro
      refine⟨.inl ⟨by rfl,?_⟩,?_⟩
      .rintro W' ⟨q1,q2,q3,q4⟩;go_simp;try with_reducible rfl
      go_frame
     refine H8 (by kernel_rfl) ?_ _;simp only[b0h];go_wp2_with fail;go_ret
     exact⟨by rw[HNE.out];rfl,hB.out.drew⟩
   .obtain rfl:i=n:=by omega
    have hE:L=M:=by
     apply At
     intro j;by_cases hj:j<i
     .exact hI.out j hj
     .rw[I7 (by rw[HN.out];omega),I7 (by rw[HM.out];omega)]
    have HE:=hid hE;have q1:decide ((i:Int)<(i:Int))=false:=by simp
    clear hlt hE;go_wp2_with fail;go_ret
    exact⟨by rw[E7 HE.out];rfl,hB.out⟩
 .have q0:((n:Int) != (m:Int))=true:=by rw[bne_iff_ne];omega
  have hne:decide (L=M)=false:=by
   rw[D9];rintro rfl;exact hnm (hn.symm.trans hm)
  have HNE:=hid hne;clear hne hnm hn hm;go_enter Tryz.func18,Tryz.ntmps18;go_wp2_with fail;go_ret
  exact⟨by rw[HNE.out];rfl,Z3 _ _⟩
open Go.Maps
attribute [local go_sem] Oper.semAt_some
def b0o:ByteArray:=⟨#[108,97,116,101]⟩
def d0o (q:Rat):(c0p q).size<=10000:=by
 unfold c0p
 split
 .exact (by decide:(0:Nat)<=10000)
 .rename_i h
  unfold ovQ at h;have h1:=a0D (txQ q);unfold txQ at h1 |-;rw[b0T]at h1;rw[<- h1];simp only[Z4,S9];have e1:(if decide (q.num<0)=true then [45] else ([]:List UInt8)).length<=1:=by split<;>simp
  have e2:(if q.den=1 then [] else (47:UInt8)::decDigits q.den).length<=4001:=by
   split
   .simp
   .simp only[U7,S9];omega
  omega
end
section
open Go.RowKit Go.Shelf
open Go.Lib (decDigits nDigits)
def LayS (w:World):Prop:=∃ ev,w.cell? ⟨0,0,none⟩=some ev/\(ev=.nilIface\/∃ te pe,ev=.iface te pe)
theorem LayS.call {w w':World}(h:LayS w)(hb:Below w.heap.size w w'):LayS w':=by
 obtain⟨ev,h1,h2⟩:=h;exact⟨ev,(hb.cell (Ef w _ h1)).trans h1,h2⟩
structure LayB (w:World):Prop where
 l:Lay w
 s:LayS w
theorem LayB.call {w w':World}(h:LayB w)(hb:Below w.heap.size w w'):LayB w':=⟨h.l.call hb,h.s.call hb⟩
def y0v (w:World)(i:Nat)(hi:i<=1000000):
 Calls Tryz.prog 163 #[.string (a0f i)] w fun e w'=>e=.returned (.tuple #[.int .i64 (i:Nat),.nilIface])/\Below w.heap.size w w':=by
 have hd:=a0l (n:=i) (k:=7) (by omega) (by omega);refine (Tryz.strconv_Atoi (a0f i) i (by rw[a0t];omega) (by rw[a0q];exact u0T i) w).mono ?_;rintro e w' ⟨rfl,t,rfl⟩;exact⟨rfl,Go.Joins.below_bytesWorld w.heap.size w 5 t nr0⟩
def y0w (w:World)(h:LayS w):
 Calls Tryz.prog 163 #[.string b0o] w fun e w'=>(∃ te pe,e=.returned (.tuple #[.int .i64 0,.iface te pe]))/\Below w.heap.size w w':=by
 obtain⟨ev,h1,h2⟩:=h;have:=Any.strconv_Atoi_err Tryz.laysC172 b0o (by decide) (by decide) ev w h1 h2
 change Calls Tryz.prog 163 _ _ _ at this
 refine this.mono ?_;rintro e w' ⟨N,rfl,-,-,hb⟩;exact⟨⟨_,_,rfl⟩,hb⟩
end
section
open Go.ChangeShapes Go.WideShapes Go.ChangeAt Go.RowKit
def n0T {H:Type}{enc:TypeId×Value->H}{P:Program}{w:World}{b0:Nat}{sp:Nat->Bool}{held:Bool}{fuel:Nat}{t:TypeId}{cs:List Value}{d:DataW H}{p:List MemPlace}{ms}(ht:P.underlying t=some (.interface ms))(h:DataW.trod enc P w b0 sp held fuel t cs=some (d,p)):cs = [.nilIface]\/∃ u v,cs = [.iface u v]:=by
 cases fuel with
 | zero=>simp[DataW.trod]at h
 | succ n=>
  rcases cs with _ | ⟨a,_ | ⟨b,r⟩⟩
  .simp[DataW.trod,ht]at h
  .cases a<;>simp[DataW.trod,ht]at h
   .exact .inr ⟨_,_,rfl⟩
   .exact .inl rfl
  .simp[DataW.trod,ht]at h
def j0I : Tryz.prog.globalNamed "strconv.ErrSyntax" = some 0 := by kernel_rfl
def l0b:(Tryz.prog.globals[0]?).map (·.type)=some 169:=by kernel_rfl
def x0g {W:World}(h:laidMetH Tryz.prog Rows.noiseCallsRow.laid W)(hsh:W.ShapedOpen Tryz.prog):LayB W:=by
 refine⟨z0O h hsh,?_⟩;rw[If _ _ _ (by kernel_rfl)]at h;obtain⟨ps,⟨g0,t0,cs0,f0,p0,q0,hg0,ht0,hv0,hd0,⟨g1,t1,cs1,f1,p1,q1,hg1,ht1,hv1,hd1,⟨g2,t2,cs2,f2,p2,q2,hg2,ht2,hv2,hd2,⟨g3,t3,cs3,f3,p3,q3,hg3,ht3,hv3,hd3,⟨g4,t4,cs4,f4,p4,q4,hg4,ht4,hv4,hd4,⟨g5,t5,cs5,f5,p5,q5,hg5,ht5,hv5,hd5,_,_⟩,_⟩,_⟩,_⟩,_⟩,_⟩,_,_⟩:=h;obtain rfl:=J9 (j0I.symm.trans hg5);obtain rfl:=J9 (l0b.symm.trans ht5);have h1:=n0T Hh hd5;unfold World.var? at hv5;rw[j0I]at hv5;simp only[Kz]at hv5
 split at hv5
 .rename_i cs t fr ho
  cases hv5
  rcases h1 with h1 | ⟨u,v,h1⟩
  .have e:cs5 = #[.nilIface]:=by cases cs5;simpa using h1
   exact⟨.nilIface,by simp[World.cell?,ho,e],.inl rfl⟩
  .have e:cs5 = #[.iface u v]:=by cases cs5;simpa using h1
   exact⟨.iface u v,by simp[World.cell?,ho,e],.inr ⟨_,_,rfl⟩⟩
 .cases hv5
end
section
open Go.RowKit
def s0v:Nat->List (List UInt8)
 | 0=>[[]]
 | n+1=>(s0v n).flatMap fun l=>[l ++ [48],l ++ [49]]
theorem g0k:∀ {n:Nat} {l:List UInt8},l∈s0v n->l.length=n
 | 0,l,h=>by simp[s0v]at h;subst h;rfl
 | n+1,l,h=>by
  simp only[s0v,List.mem_flatMap]at h;obtain⟨m,hm,hl⟩:=h;have:=g0k hm;simp at hl;rcases hl with rfl | rfl<;>simp[this]
def Ng:=@List.flatMap_cons
theorem e0r:∀ n,(s0v n).length=2 ^ n
 | 0=>rfl
 | n+1=>by
  have h:∀ L:List (List UInt8),(L.flatMap fun l=>[l ++ [48],l ++ [49]]).length=2*L.length:=fun L=>by
   induction L with
   | nil=>rfl
   | cons a r ih=>rw[Ng,Z4,ih,U7];simp;omega
  rw[s0v,h,e0r n,I8];omega
def a0k (c:Nat->Nat):Nat->Nat
 | 0=>0
 | i+1=>a0k c i+c i
theorem a0d {c d:Nat->Nat}:∀ {N:Nat},(∀ i,i<N->c i=d i)->a0k c N=a0k d N
 | 0,_=>rfl
 | N+1,h=>by rw[a0k,a0k,a0d (fun i hi=>h i (by omega)),h N (by omega)]
theorem b0U (c d:Nat->Nat):∀ N,a0k (fun i=>c i+d i) N=a0k c N+a0k d N
 | 0=>rfl
 | N+1=>by rw[a0k,a0k,a0k,b0U c d N];omega
theorem a0B:∀ N,a0k (fun _=>0) N=0
 | 0=>rfl
 | N+1=>by rw[a0k,a0B N]
theorem f0R (j:Nat):∀ N,a0k (fun i=>if j=i then 1 else 0) N=if j<N then 1 else 0
 | 0=>by simp[a0k]
 | N+1=>by
  rw[a0k,f0R j N];by_cases h1:j<N
  .rw[J2 h1,U0 (by omega),J2 (by omega)]
  .rw[U0 h1];by_cases h2:j=N
   .rw[J2 h2,J2 (by omega)]
   .rw[U0 h2,U0 (by omega)]
def In:=@List.countP_cons
def Ej:=@Bool.true_and
theorem k0I {α : Type}(g : α->Bool×Nat)(N:Nat):∀ L:List α,(∀ x∈L,(g x).1=true->(g x).2<N)->a0k (fun i=>L.countP (fun x=>(g x).1 && decide ((g x).2=i))) N+L.countP (fun x => !(g x).1)=L.length
 | [],_=>by simp[a0B]
 | x::r,h=>by
  have ih:=k0I g N r (fun y hy=>h y (Co _ hy));simp only[In];rw[b0U,U7];cases hx:(g x).1
  .simp only[Nd,Bool.not_false,Fm];rw[show a0k (fun i=>if false=true then 1 else 0) N=0 by simpa using a0B N];omega
  .have h1:=h x (Ct ..) hx;simp only[Ej,K6];rw[f0R,J2 h1];simp;omega
end
section
theorem b0r (f:Nat->Nat):∀ n,a0k f (n+1)=f 0+a0k (fun i=>f (i+1)) n
 | 0=>by simp[a0k]
 | n+1=>by rw[a0k,b0r f n,a0k];omega
theorem e0w (k:Nat)(f:Nat->Nat):∀ n,a0k (fun i=>k*f i) n=k*a0k f n
 | 0=>rfl
 | n+1=>by rw[a0k,a0k,e0w k f n,K9]
theorem g0u {f g:Nat->Nat}:∀ {n:Nat},(∀ i,i<n->f i<=g i)->a0k f n<=a0k g n
 | 0,_=>J4 _
 | n+1,h=>by
  rw[a0k,a0k];have:=g0u (n:=n) fun i hi=>h i (by omega)
  have:=h n (by omega);omega
def a0K {f:Nat->Nat}{m n:Nat}(h:m<=n):a0k f m<=a0k f n:=by
 induction n with
 | zero=>rw[show m=0 by omega];exact J4 _
 | succ n ih=>
  rcases Cc n m with h1 | h1
  .rw[show m=n+1 by omega];exact J4 _
  .have:=ih h1;rw[a0k];omega
def p0F {f:Nat->Nat}{i n:Nat}(h:i<n):f i<=a0k f n:=by
 have h1:a0k f (i+1)<=a0k f n:=a0K (by omega);rw[a0k]at h1;omega
def cvo (f g:Nat->Nat)(n:Nat):Nat:=a0k (fun s=>f s*g (n-s)) (n+1)
def a0M {f f' g g':Nat->Nat}{n:Nat}(h1:∀ s,s<=n->f s=f' s)(h2:∀ s,s<=n->g s=g' s):cvo f g n=cvo f' g' n:=by
 unfold cvo;refine a0d fun s hs=>?_
 rw[h1 s (by omega),h2 (n-s) (by omega)]
theorem n0j:∀ (n:Nat) (a:Nat->Nat->Nat),a0k (fun s=>a s (n-s)) (n+1)=a0k (fun s=>a (n-s) s) (n+1)
 | 0,a=>by simp[a0k]
 | n+1,a=>by
  have ih:=n0j n fun x y=>a (x+1) y
  rw[b0r];have e1:a0k (fun i=>a (i+1) (n+1-(i+1))) (n+1)=a0k (fun s=>a (s+1) (n-s)) (n+1):=a0d fun i _=>by rw[show n+1-(i+1)=n-i by omega]
  have e2:a0k (fun s=>a (n-s+1) s) (n+1)=a0k (fun s=>a (n+1-s) s) (n+1):=a0d fun i hi=>by rw[show n+1-i=n-i+1 by omega]
  rw[e1,ih,e2];show _=a0k (fun s=>a (n+1-s) s) (n+1)+a (n+1-(n+1)) (n+1)
  rw[Ce,Kn];omega
def g0h (f g:Nat->Nat)(n:Nat):cvo f g n=cvo g f n:=by
 unfold cvo;rw[n0j n fun x y=>f x*g y];exact a0d fun s _=>E9 _ _
theorem p0w:∀ (n:Nat) (a:Nat->Nat->Nat->Nat),a0k (fun s=>a0k (fun u=>a u (s-u) (n-s)) (s+1)) (n+1)=a0k (fun u=>a0k (fun t=>a u t (n-u-t)) (n-u+1)) (n+1)
 | 0,a=>by simp[a0k]
 | n+1,a=>by
  have ih:=p0w n fun x y z=>a (x+1) y z
  have e1:a0k (fun s=>a0k (fun u=>a u (s-u) (n+1-s)) (s+1)) (n+1+1)=a0k (fun s=>a 0 s (n+1-s)) (n+1+1)+a0k (fun s=>a0k (fun u=>a (u+1) (s-u) (n-s)) (s+1)) (n+1):=by
   have h:∀ s,a0k (fun u=>a u (s-u) (n+1-s)) (s+1)=a 0 s (n+1-s)+a0k (fun u=>a (u+1) (s-(u+1)) (n+1-s)) s:=fun s=>by rw[b0r,Kn]
   rw[a0d (fun s _=>h s),b0U]
   congr 1
   rw[b0r];simp only[a0k,J8];rw[<- a0k];refine a0d fun s _=>?_
   rw[show a0k (fun u=>a (u+1) (s+1-(u+1)) (n+1-(s+1))) s+a (s+1) (s+1-(s+1)) (n+1-(s+1))=a0k (fun u=>a (u+1) (s+1-(u+1)) (n+1-(s+1))) (s+1) from rfl];rw[show a0k (fun u=>a (u+1) (s-u) (n-s)) s+a (s+1) (s-s) (n-s)=a0k (fun u=>a (u+1) (s-u) (n-s)) (s+1) from rfl];refine a0d fun u _=>?_
   rw[show s+1-(u+1)=s-u by omega,show n+1-(s+1)=n-s by omega]
  rw[e1,ih,b0r (fun u=>a0k (fun t=>a u t (n+1-u-t)) (n+1-u+1))]
  congr 1
  refine a0d fun u hu=>?_
  rw[show n+1-(u+1)+1=n-u+1 by omega];exact a0d fun t _=>by rw[show n+1-(u+1)-t=n-u-t by omega]
def b0F (f g h:Nat->Nat)(n:Nat):cvo (cvo f g) h n=cvo f (cvo g h) n:=by
 unfold cvo;have e1:a0k (fun s=>a0k (fun s_1=>f s_1*g (s-s_1)) (s+1)*h (n-s)) (n+1)=a0k (fun s=>a0k (fun u=>f u*g (s-u)*h (n-s)) (s+1)) (n+1):=a0d fun s _=>by
  rw[E9,<- e0w];exact a0d fun u _=>E9 _ _
 have e2:a0k (fun s=>f s*a0k (fun s_1=>g s_1*h (n-s-s_1)) (n-s+1)) (n+1)=a0k (fun u=>a0k (fun t=>f u*g t*h (n-u-t)) (n-u+1)) (n+1):=a0d fun s _=>by
  rw[<- e0w];exact a0d fun u _=>by rw[U8]
 rw[e1,e2];exact p0w n fun x y z=>f x*g y*h z
def chi (c:Nat->Bool)(j:Nat):Nat:=if c j=true then 1 else 0
def a1J (c:Nat->Bool)(j:Nat):chi c j<=1:=by unfold chi;split<;>omega
def cvF (c:Nat->Bool)(f:Nat->Nat):Nat->Nat->Nat
 | _,0=>0
 | j,n+1=>(if c (j+1)=true then f n else 0)+cvF c f (j+1) n
theorem e0U {c:Nat->Bool}{f:Nat->Nat}:∀ (n j:Nat),(∀ i,j<i->c i=false)->cvF c f j n=0
 | 0,_,_=>rfl
 | n+1,j,h=>by
  rw[cvF,U0 (by simp[h (j+1) (by omega)]),e0U n (j+1) fun i hi=>h i (by omega)]
theorem r0Y (c:Nat->Bool)(f:Nat->Nat):∀ n j,cvF c f j n=a0k (fun i=>chi c (j+i+1)*f (n-(i+1))) n
 | 0,j=>rfl
 | n+1,j=>by
  rw[cvF,r0Y c f n (j+1),b0r]
  congr 1
  .unfold chi;rw[show j+0+1=j+1 by omega,show n+1-(0+1)=n by omega]
   split<;>simp
  .exact a0d fun i _=>by rw[show j+1+i+1=j+(i+1)+1 by omega,show n-(i+1)=n+1-(i+1+1) by omega]
def r0W (c:Nat->Bool)(f:Nat->Nat)(n:Nat):cvo (chi c) f n=(if c 0=true then f n else 0)+cvF c f 0 n:=by
 unfold cvo;rw[b0r,r0Y]
 congr 1
 .unfold chi;rw[Kn]
  split<;>simp
 .exact a0d fun i _=>by rw[show 0+i+1=i+1 by omega]
def dlt (j:Nat):Nat:=if j=0 then 1 else 0
def l0Z (f:Nat->Nat)(n:Nat):cvo dlt f n=f n:=by
 unfold cvo;rw[b0r];have:a0k (fun i=>dlt (i+1)*f (n-(i+1))) n=a0k (fun _=>0) n:=a0d fun i _=>by unfold dlt;simp
 rw[this,a0B];unfold dlt;simp
def pw2 (j:Nat):Nat:=2 ^ j
open Go.RowKit
def sdx (N D:Nat):Nat->Nat×Bool
 | 0=>(N,decide (N≠0))
 | j+1=>if (sdx N D j).2=true then (if D<=2*(sdx N D j).1 then (2*(sdx N D j).1-D,decide (2*(sdx N D j).1≠D)) else (2*(sdx N D j).1,true)) else sdx N D j
def a0C (N D:Nat):Nat->Bool
 | 0=>false
 | j+1=>(sdx N D j).2 && decide (D<=2*(sdx N D j).1)
def a0i (N D:Nat):Nat->Bool
 | 0=>decide (N=0)
 | j+1=>(sdx N D j).2 && decide (2*(sdx N D j).1<=D)
theorem e0y {N D j:Nat}(h:(sdx N D j).2=false):∀ i,j<=i->(sdx N D i).2=false
 | 0,hi=>by rw[show j=0 by omega]at h;exact h
 | i+1,hi=>by
  rcases Cc i j with h1 | h1
  .rw[<- show j=i+1 by omega];exact h
  .have:=e0y h i h1;rw[sdx,U0 (by simp[this])];exact this
def g0M {N D j:Nat}(h:(sdx N D j).2=false)(i:Nat)(hi:j<i):a0C N D i=false:=by
 cases i with
 | zero=>rfl
 | succ i=>rw[a0C,e0y h i (by omega)];rfl
def e0Y {N D j:Nat}(h:(sdx N D j).2=false)(i:Nat)(hi:j<i):a0i N D i=false:=by
 cases i with
 | zero=>omega
 | succ i=>rw[a0i,e0y h i (by omega)];rfl
theorem v0f {N D:Nat}(h:N<D):∀ j,(sdx N D j).1<D
 | 0=>h
 | j+1=>by
  have:=v0f h j;rw[sdx]
  split
  .split
   .dsimp only;omega
   .dsimp only;omega
  .exact this
def h0l (f:Nat->Bool)(n j:Nat):List Value:=(List.range (n+1)).map fun i=>.bool (decide (i<j) && f i)
@[simp] theorem tabL_length (f:Nat->Bool) (n j:Nat):(h0l f n j).length=n+1:=by simp[h0l]
def Es:=@List.getElem?_range
def b0j {f:Nat->Bool}{n j i:Nat}(h:i<=n):(h0l f n j)[i]?=some (.bool (decide (i<j) && f i)):=by simp[h0l,Es (show i<n+1 by omega)]
def f0O {f:Nat->Bool}{n j:Nat}(h:j<=n):(h0l f n j).set j (.bool (f j))=h0l f n (j+1):=by
 apply At
 intro i;rw[Ec];by_cases hi:j=i
 .subst hi;rw[J2 rfl,J2 (by simp;omega),b0j h];simp
 .rw[U0 hi];by_cases h2:i<=n
  .rw[b0j h2,b0j h2]
   congr 2
   by_cases h3:i<j
   .simp[h3,show i<j+1 by omega]
   .simp[h3,show ¬ i<j+1 by omega]
  .rw[I7 (by simp;omega),I7 (by simp;omega)]
def j0H {f:Nat->Bool}{n j:Nat}(h:∀ i,j<=i->f i=false):∀ k,j<=k->h0l f n k=h0l f n j:=by
 intro k hk;apply At
 intro i;by_cases h2:i<=n
 .rw[b0j h2,b0j h2];by_cases h3:i<j
  .simp[h3,show i<k by omega]
  .simp[h i (by omega)]
 .rw[I7 (by simp;omega),I7 (by simp;omega)]
def j0G {f:Nat->Bool}{n j:Nat}(h:f j=false):h0l f n (j+1)=h0l f n j:=by
 apply At
 intro i;by_cases h2:i<=n
 .rw[b0j h2,b0j h2];by_cases h3:i<j
  .simp[h3,show i<j+1 by omega]
  .by_cases h4:i=j
   .subst h4;simp[h]
   .simp[h3,show ¬ i<j+1 by omega]
 .rw[I7 (by simp;omega),I7 (by simp;omega)]
def p0A (f:Nat->Bool)(n:Nat):h0l f n 0=List.replicate (n+1) (.bool false):=by
 apply At
 intro i;by_cases h2:i<=n
 .rw[b0j h2,Ag,J2 (by omega)];simp
 .rw[I7 (by simp;omega),I7 (by simp;omega)]
def f0F (f:Nat->Bool)(n:Nat):List Value:=(List.range (n+1)).map fun i=>.bool (f i)
def d0R {f:Nat->Bool}{n i:Nat}(h:i<=n):(f0F f n)[i]?=some (.bool (f i)):=by simp[f0F,Es (show i<n+1 by omega)]
def e0v (f:Nat->Bool)(n:Nat){j:Nat}(h:n<j):h0l f n j=f0F f n:=by
 unfold f0F;apply At
 intro i;by_cases h2:i<=n
 .rw[b0j h2];simp[Es (show i<n+1 by omega),show i<j by omega]
 .rw[I7 (by simp;omega),I7 (by simp;omega)]
def cw:Nat->(List UInt8->Bool)->Nat
 | 0,P=>if P []=true then 1 else 0
 | n+1,P=>cw n (fun l=>P (48::l))+cw n (fun l=>P (49::l))
theorem a0E:∀ {n:Nat} {P Q:List UInt8->Bool},(∀ l,l.length=n->P l=Q l)->cw n P=cw n Q
 | 0,P,Q,h=>by rw[cw,cw,h [] rfl]
 | n+1,P,Q,h=>by
  rw[cw,cw,a0E (n:=n) (fun l hl=>h (48::l) (by simp[hl])),a0E (n:=n) (fun l hl=>h (49::l) (by simp[hl]))]
theorem l0V:∀ (n:Nat) (P:List UInt8->Bool),cw (n+1) P=cw n (fun l=>P (l ++ [48]))+cw n (fun l=>P (l ++ [49]))
 | 0,P=>by simp[cw]
 | n+1,P=>by
  rw[cw,l0V n,l0V n,cw,cw];simp only[Bp];omega
def o0W (L:List (List UInt8))(P:List UInt8->Bool):(L.flatMap fun l=>[l ++ [48],l ++ [49]]).countP P=L.countP (fun l=>P (l ++ [48]))+L.countP (fun l=>P (l ++ [49])):=by
 induction L with
 | nil=>rfl
 | cons a r ih=>
  rw[Ng,List.countP_append,ih];simp only[In,List.countP_nil];omega
theorem f0B:∀ (n:Nat) (P:List UInt8->Bool),(s0v n).countP P=cw n P
 | 0,P=>by simp[s0v,cw]
 | n+1,P=>by rw[s0v,o0W,f0B n,f0B n,<- l0V]
theorem j0e:∀ n,cw n (fun _=>true)=2 ^ n
 | 0=>rfl
 | n+1=>by rw[cw,j0e n,I8];omega
theorem c0n:∀ n,cw n (fun _=>false)=0
 | 0=>rfl
 | n+1=>by rw[cw,c0n n]
def b0C (N D K T:Nat)(P1 P0:List UInt8->Bool)(l:List UInt8):Bool:=
 (b0P N D K T l).1 && (if (b0P N D K T l).2.1=1 then P1 (l.drop (b0P N D K T l).2.2) else P0 (l.drop (b0P N D K T l).2.2))
def m0u {N D K T:Nat}{l:List UInt8}(h:sdB N D K T=true):b0P N D K T l=(true,sdV N D K T,0):=by
 unfold b0P;rw[J2 h]
def p0x {N D K T:Nat}{b:UInt8}{l:List UInt8}(h:sdB N D K T=false):b0P N D K T (b::l)=((b0P N D (2*K+(if b=49 then 1 else 0)) (2*T) l).1,(b0P N D (2*K+(if b=49 then 1 else 0)) (2*T) l).2.1,(b0P N D (2*K+(if b=49 then 1 else 0)) (2*T) l).2.2+1):=by
 rw[b0P,U0 (by simp[h])]
def s0R {N D K T:Nat}(h:sdB N D K T=false):b0P N D K T []=(false,0,0):=by
 rw[b0P,U0 (by simp[h])]
def h0V {N D K T:Nat}{P1 P0:List UInt8->Bool}{l:List UInt8}(h:sdB N D K T=true)(hv:sdV N D K T=1):b0C N D K T P1 P0 l=P1 l:=by
 unfold b0C;rw[m0u h];simp[hv]
def f0n {N D K T:Nat}{P1 P0:List UInt8->Bool}{l:List UInt8}(h:sdB N D K T=true)(hv:sdV N D K T=0):b0C N D K T P1 P0 l=P0 l:=by
 unfold b0C;rw[m0u h];simp[hv]
def h0W {N D K T:Nat}{P1 P0:List UInt8->Bool}{b:UInt8}{l:List UInt8}(h:sdB N D K T=false):b0C N D K T P1 P0 (b::l)=b0C N D (2*K+(if b=49 then 1 else 0)) (2*T) P1 P0 l:=by
 unfold b0C;rw[p0x h];simp
def s0d {N D K T:Nat}{P1 P0:List UInt8->Bool}(h:sdB N D K T=false):b0C N D K T P1 P0 []=false:=by
 unfold b0C;rw[s0R h];rfl
structure OpenC (N D K T j x:Nat):Prop where
 eq:N*T=K*D+x
 pos:0<x
 lt:x<D
 at_:sdx N D j=(x,true)
theorem OpenC.undec {N D K T j x:Nat}(h:OpenC N D K T j x):sdB N D K T=false:=by
 obtain⟨h1,h2,h3,-⟩:=h;unfold sdB;rw[Ic,D9,D9];omega
def s0P {N D K T x b:Nat}(h:N*T=K*D+x):N*(2*T)=2*(K*D)+2*x/\(2*K+b)*D=2*(K*D)+b*D:=by
 constructor
 .rw[Gu,h];omega
 .rw[Ax,U8]
theorem l0X {N D:Nat}{P1 P0:List UInt8->Bool}:∀ (n:Nat) {K T j x:Nat},OpenC N D K T j x->cw n (b0C N D K T P1 P0)=cvF (a0C N D) (fun m=>cw m P1) j n+cvF (a0i N D) (fun m=>cw m P0) j n
 | 0,K,T,j,x,h=>by rw[cw,s0d h.undec];rfl
 | n+1,K,T,j,x,h=>by
  have hu:=h.undec;obtain⟨h1,h2,h3,h4⟩:=h;have c0:cw n (fun l=>b0C N D K T P1 P0 (48::l))=cw n (b0C N D (2*K+0) (2*T) P1 P0):=a0E fun l _=>by rw[h0W hu];rfl
  have c1:cw n (fun l=>b0C N D K T P1 P0 (49::l))=cw n (b0C N D (2*K+1) (2*T) P1 P0):=a0E fun l _=>by rw[h0W hu];rfl
  rw[cw,c0,c1,cvF,cvF];have e1:=(s0P (b:=0) h1).1;have e2:(2*K+0)*D=2*(K*D):=by rw[Ac,U8]
  have e3:(2*K+1)*D=2*(K*D)+D:=by rw[Ax,U8,Gr]
  have eo:a0C N D (j+1)=decide (D<=2*x):=by rw[a0C,h4];simp
  have ez:a0i N D (j+1)=decide (2*x<=D):=by rw[a0i,h4];simp
  rw[eo,ez];rcases Dd (2*x) D with hc | hc | hc
  ·-- a 0 leaves it open,a 1 gives 0
   have hs:sdx N D (j+1)=(2*x,true):=by rw[sdx,h4];simp;omega
   have ih:=l0X (N:=N) (D:=D) (P1:=P1) (P0:=P0) n (K:=2*K+0) (T:=2*T) (j:=j+1) (x:=2*x) ⟨by omega,by omega,hc,hs⟩;have hd:sdB N D (2*K+1) (2*T)=true:=by unfold sdB;rw[Ai,K6,K6];left;omega
   have hv:sdV N D (2*K+1) (2*T)=0:=by unfold sdV;rw[J2 (by omega)]
   rw[ih,a0E (n:=n) (P:=b0C N D (2*K+1) (2*T) P1 P0) (Q:=P0) (fun l _=>f0n hd hv),U0 (by simp;omega),J2 (by simp;omega)];omega
  ·-- both give a result
   have hs:(sdx N D (j+1)).2=false:=by rw[sdx,h4];simp[hc]
   have hd0:sdB N D (2*K+0) (2*T)=true:=by unfold sdB;rw[Ai,K6,K6];right;omega
   have hv0:sdV N D (2*K+0) (2*T)=1:=by unfold sdV;rw[U0 (by omega)]
   have hd1:sdB N D (2*K+1) (2*T)=true:=by unfold sdB;rw[Ai,K6,K6];left;omega
   have hv1:sdV N D (2*K+1) (2*T)=0:=by unfold sdV;rw[J2 (by omega)]
   rw[a0E (n:=n) (P:=b0C N D (2*K+0) (2*T) P1 P0) (Q:=P1) (fun l _=>h0V hd0 hv0),a0E (n:=n) (P:=b0C N D (2*K+1) (2*T) P1 P0) (Q:=P0) (fun l _=>f0n hd1 hv1),J2 (by simp;omega),J2 (by simp;omega),e0U n (j+1) (fun i hi=>g0M hs i hi),e0U n (j+1) (fun i hi=>e0Y hs i hi)]
   rfl
  ·-- a 1 leaves it open,a 0 gives 1
   have hs:sdx N D (j+1)=(2*x-D,true):=by
    rw[sdx,h4];show (if true=true then (if D<=2*x then (2*x-D,decide (2*x≠D)) else (2*x,true)) else (x,true))=_
    rw[J2 rfl,J2 (by omega),E7 (by omega)]
   have ih:=l0X (N:=N) (D:=D) (P1:=P1) (P0:=P0) n (K:=2*K+1) (T:=2*T) (j:=j+1) (x:=2*x-D) ⟨by omega,by omega,by omega,hs⟩;have hd:sdB N D (2*K+0) (2*T)=true:=by unfold sdB;rw[Ai,K6,K6];right;omega
   have hv:sdV N D (2*K+0) (2*T)=1:=by unfold sdV;rw[U0 (by omega)]
   rw[ih,a0E (n:=n) (P:=b0C N D (2*K+0) (2*T) P1 P0) (Q:=P1) (fun l _=>h0V hd hv),J2 (by simp;omega),U0 (by simp;omega)];omega
def d0P {N D:Nat}(h:N<D)(n:Nat)(P1 P0:List UInt8->Bool):cw n (b0C N D 0 1 P1 P0)=cvo (chi (a0C N D)) (fun m=>cw m P1) n+cvo (chi (a0i N D)) (fun m=>cw m P0) n:=by
 rw[r0W,r0W];have o0:a0C N D 0=false:=rfl;rw[o0,U0 (by simp)];by_cases h0:N=0
 .subst h0;have hs:(sdx 0 D 0).2=false:=by simp[sdx]
  have hd:sdB 0 D 0 1=true:=by simp[sdB]
  have hv:sdV 0 D 0 1=0:=by simp[sdV]
  rw[a0E (n:=n) (Q:=P0) (fun l _=>f0n hd hv),show a0i 0 D 0=true from by simp[a0i],J2 rfl,e0U n 0 (fun i hi=>g0M hs i hi),e0U n 0 (fun i hi=>e0Y hs i hi)];omega
 .have hz:a0i N D 0=false:=by simp[a0i,h0]
  rw[hz,U0 (by simp),l0X n (K:=0) (T:=1) (j:=0) (x:=N) ⟨by omega,by omega,h,by simp[sdx,h0]⟩];omega
end
end Go.Proofs.YtfkpfpobmobnbaaGreatDoor
namespace Go.Proofs
open Go.Shelf
def Tryz.lays145_ren:Go.Shelf.Ren:=⟨fun | 145=>249 | 220=>307 | 219=>336 | 217=>350 | 225=>351 | 224=>352 | 267=>353 | 266=>361 | 314=>362 | n=>n,fun | 9=>9 | 4=>4 | 59=>233 | 3=>3 | 5=>5 | 46=>174 | 146=>247 | 51=>224 | n=>n,fun | 1=>3 | n=>n⟩
theorem Tryz.lays145:Go.Proofs.Lays.n145 Tryz.prog Tryz.lays145_ren:={
 mixed:=by kernel_rfl
 f145:=Tryz.func249.trans (congrArg some (by kernel_rfl))
 f217:=Tryz.func350.trans (congrArg some (by kernel_rfl))
 f219:=Tryz.func336.trans (congrArg some (by kernel_rfl))
 f220:=Tryz.func307.trans (congrArg some (by kernel_rfl))
 f224:=Tryz.func352.trans (congrArg some (by kernel_rfl))
 f225:=Tryz.func351.trans (congrArg some (by kernel_rfl))
 f266:=Tryz.func361.trans (congrArg some (by kernel_rfl))
 f267:=Tryz.func353.trans (congrArg some (by kernel_rfl))
 f314:=Tryz.func362.trans (congrArg some (by kernel_rfl))
 t3:=Z7
 a3:=Eo
 z3:=Dt
 v3:=Br
 t4:=Aw
 a4:=Fg
 z4:=Ek
 v4:=Ck
 t5:=Bb
 a5:=Fx
 z5:=Ey
 v5:=Cx
 t9:=Al
 a9:=Ep
 z9:=Du
 v9:=Bu
 t46:=Cu
 a46:=Fl
 z46:=Eu
 v46:=Db
 t51:=Dg
 a51:=Gi
 z51:=Fq
 v51:=Dx
 t59:=Tryz.underlying233
 a59:=Tryz.isAgg233
 z59:=Tryz.sizeOf233
 v59:=Tryz.zeroValue233
 t146:=Tryz.underlying247
 a146:=Tryz.isAgg247
 z146:=Tryz.sizeOf247
 v146:=Tryz.zeroValue247
 g1:=by kernel_rfl }
theorem Tryz.strings_Cut (s sep:ByteArray)(m:Int)(w:World)(hs:s.size<4294967281)(hm:w.cell? ⟨3,0,none⟩=some (.int .i64 m)):
 Calls Tryz.prog 249 #[.string s,.string sep] w fun e w'=>e=.returned (.tuple #[.string ⟨(Lib.cut s.data.toList sep.data.toList).1.toArray⟩,.string ⟨(Lib.cut s.data.toList sep.data.toList).2.1.toArray⟩,.bool (Lib.cut s.data.toList sep.data.toList).2.2])/\∃ n,w'=w.drewN n:=Any.strings_Cut Tryz.lays145 s sep m w hs hm
end Go.Proofs
namespace Go.Proofs.YtfkpfpobmobnbaaGreatDoor
section
open Go.RowKit Go.Shelf
def b1E (w:World)(s:ByteArray)(hs:s.size<=100000000)(hL:Lay w):
 Calls Tryz.prog 249 #[.string s,.string ⟨#[47]⟩] w fun e w'=>e=.returned (.tuple #[.string (cW s),.string (cB s),.bool (cS s)])/\Below w.heap.size w w':=by
 obtain⟨m,hm⟩:=hL.max;refine (Tryz.strings_Cut s ⟨#[47]⟩ m w (by omega) hm).mono ?_;rintro e w' ⟨rfl,n,rfl⟩;exact⟨rfl,a0j br0 n⟩
structure Cuts (s W B D:ByteArray)(S M I fb:Bool):Prop where
 cut:∀ w,Lay w->Calls Tryz.prog 249 #[.string s,.string ⟨#[47]⟩] w fun e w'=>e=.returned (.tuple #[.string W,.string B,.bool S])/\Below w.heap.size w w'
 int:∀ w,Calls Tryz.prog 250 #[.string W] w fun e w'=>e=.returned (.tuple #[.bool M,.string D,.bool I])/\Below w.heap.size w w'
 form:∀ w,Calls Tryz.prog 251 #[.string B] w fun e w'=>e=.returned (.bool fb)/\Below w.heap.size w w'
def r0Z (s:ByteArray)(hs:s.size<=1000000):Cuts s (cW s) (cB s) (iD (cW s)) (cS s) (iM (cW s)) (iB (cW s)) (fB (cB s)):={
 cut:=fun w hL=>b1E w s (by omega) hL
 int:=fun w=>k0A w (cW s) (by have:=j0k s;omega)
 form:=fun w=>k0u w (cB s) (by have:=m0g s;omega) }
def Mu:=@Go.Proofs.Tryz.func190
def Lq:=@Go.Proofs.Tryz.ntmps190
def Ez:=@Go.Proofs.Tryz.results190
def a1j (w:World)(s W B D:ByteArray)(S M I fb:Bool)(HL:Hid (Lay w))(HC:Cuts s W B D S M I fb)
 (h:(I && (!S || (decide (D≠⟨#[48]⟩) && fb && decide (B≠⟨#[48]⟩) && decide (B≠⟨#[49]⟩))))=false):
 Calls Tryz.prog 190 #[.string s] w fun e w'=>e=.returned (.tuple #[.agg #[.bool false,.slice none 0 0,.slice none 0 0],.int .i64 3])/\Below w.heap.size w w':=by
 have key:(I=false)\/(I=true/\S=true/\(D=⟨#[48]⟩\/(¬ D=⟨#[48]⟩/\(fb=false\/(fb=true/\(B=⟨#[48]⟩\/(¬ B=⟨#[48]⟩/\B=⟨#[49]⟩))))))):=by
  by_cases h1:D=⟨#[48]⟩<;>by_cases h2:B=⟨#[48]⟩<;>by_cases h3:B=⟨#[49]⟩<;>cases I<;>cases S<;>cases fb<;>simp[h1,h2,h3]at h |-
 have HK:=hid HC;clear HC h;have t0:=hid (Blk.new w #[.bool false,.slice none 0 0,.slice none 0 0] 126);have t1:=hid ((Z3 w.heap.size w).alloc nr0 (.cells #[.bool false,.slice none 0 0,.slice none 0 0] 126));have t2:=hid (HL.out.call t1.out);rcases key with rfl | ⟨rfl,rfl,rfl | ⟨h1,rfl | ⟨rfl,rfl | ⟨h2,rfl⟩⟩⟩⟩
 .cases S
  all_goals
   go_enter Mu,Lq
   go_wp2_with (first
    | (go_at_call 249;refine (HK.out.cut _ t2.out).mono ?_;rintro e w1 ⟨rfl,hb1⟩
       have x1:=hid (t0.out.call hb1);have y1:=hid (a0a t1.out hb1);clear hb1)
    | (go_at_call 250;refine (HK.out.int _).mono ?_;rintro e w2 ⟨rfl,hb2⟩
       have x2:=hid (x1.out.call hb2);have y2:=hid (a0a y1.out hb2);clear hb2;have d0:=x2.out.cell 0;have d1:=x2.out.cell 1;have d2:=x2.out.cell 2;have e0:=x2.out.free 0;have e1:=x2.out.free 1;have e2:=x2.out.free 2;simp at d0 d1 d2)
    | (go_at_call 251;refine (HK.out.form _).mono ?_;rintro e w3 ⟨rfl,hb3⟩
       have x3:=hid (x2.out.call hb3);have y3:=hid (a0a y2.out hb3);clear hb3 d0 d1 d2 e0 e1 e2;have d0:=x3.out.cell 0;have d1:=x3.out.cell 1;have d2:=x3.out.cell 2;have e0:=x3.out.free 0;have e1:=x3.out.free 1;have e2:=x3.out.free 2;simp at d0 d1 d2)
    | fail)
   first
    | (obtain⟨s1,s2⟩:=c0W x3.out false none none 0 0 0 0
       have f0:=s2.cell 0;have f1:=s2.cell 1;have f2:=s2.cell 2;simp at f0 f1 f2;refine Z6 (v:=.tuple #[.agg #[.bool false,.slice none 0 0,.slice none 0 0],.int .i64 3]) (by simp[results,Ez,go_sem,f0,f1,f2]) rfl ⟨rfl,?_⟩;exact ((y3.out.setCell nr0 _).setCell nr0 _).setCell nr0 _)
    | (obtain⟨s1,s2⟩:=c0W x2.out false none none 0 0 0 0
       have f0:=s2.cell 0;have f1:=s2.cell 1;have f2:=s2.cell 2;simp at f0 f1 f2;refine Z6 (v:=.tuple #[.agg #[.bool false,.slice none 0 0,.slice none 0 0],.int .i64 3]) (by simp[results,Ez,go_sem,f0,f1,f2]) rfl ⟨rfl,?_⟩;exact ((y2.out.setCell nr0 _).setCell nr0 _).setCell nr0 _)
 all_goals (try have i1:=a0L (l:=[48]) h1)
 all_goals (try have i2:=a0L (l:=[48]) h2)
 all_goals
  go_enter Mu,Lq
  go_wp2_with (first
   | (go_at_call 249;refine (HK.out.cut _ t2.out).mono ?_;rintro e w1 ⟨rfl,hb1⟩
      have x1:=hid (t0.out.call hb1);have y1:=hid (a0a t1.out hb1);clear hb1)
   | (go_at_call 250;refine (HK.out.int _).mono ?_;rintro e w2 ⟨rfl,hb2⟩
      have x2:=hid (x1.out.call hb2);have y2:=hid (a0a y1.out hb2);clear hb2;have d0:=x2.out.cell 0;have d1:=x2.out.cell 1;have d2:=x2.out.cell 2;have e0:=x2.out.free 0;have e1:=x2.out.free 1;have e2:=x2.out.free 2;simp at d0 d1 d2)
   | (go_at_call 251;refine (HK.out.form _).mono ?_;rintro e w3 ⟨rfl,hb3⟩
      have x3:=hid (x2.out.call hb3);have y3:=hid (a0a y2.out hb3);clear hb3 d0 d1 d2 e0 e1 e2;have d0:=x3.out.cell 0;have d1:=x3.out.cell 1;have d2:=x3.out.cell 2;have e0:=x3.out.free 0;have e1:=x3.out.free 1;have e2:=x3.out.free 2;simp at d0 d1 d2)
   | fail)
  first
   | (obtain⟨s1,s2⟩:=c0W x3.out false none none 0 0 0 0
      have f0:=s2.cell 0;have f1:=s2.cell 1;have f2:=s2.cell 2;simp at f0 f1 f2;refine Z6 (v:=.tuple #[.agg #[.bool false,.slice none 0 0,.slice none 0 0],.int .i64 3]) (by simp[results,Ez,go_sem,f0,f1,f2]) rfl ⟨rfl,?_⟩;exact ((y3.out.setCell nr0 _).setCell nr0 _).setCell nr0 _)
   | (obtain⟨s1,s2⟩:=c0W x2.out false none none 0 0 0 0
      have f0:=s2.cell 0;have f1:=s2.cell 1;have f2:=s2.cell 2;simp at f0 f1 f2;refine Z6 (v:=.tuple #[.agg #[.bool false,.slice none 0 0,.slice none 0 0],.int .i64 3]) (by simp[results,Ez,go_sem,f0,f1,f2]) rfl ⟨rfl,?_⟩;exact ((y2.out.setCell nr0 _).setCell nr0 _).setCell nr0 _)
def x0z (w:World)(s W B D:ByteArray)(S M fb:Bool)(HL:Hid (Lay w))(HC:Cuts s W B D S M true fb)
 (h:S=false\/(S=true/\¬ D=⟨#[48]⟩/\¬ B=⟨#[48]⟩/\¬ B=⟨#[49]⟩/\fb=true)) (hl:4000<D.size\/(¬ 4000<D.size/\S=true/\4000<B.size)):
 Calls Tryz.prog 190 #[.string s] w fun e w'=>e=.returned (.tuple #[.agg #[.bool false,.slice none 0 0,.slice none 0 0],.int .i64 5])/\Below w.heap.size w w':=by
 have HK:=hid HC;clear HC;have t0:=hid (Blk.new w #[.bool false,.slice none 0 0,.slice none 0 0] 126);have t1:=hid ((Z3 w.heap.size w).alloc nr0 (.cells #[.bool false,.slice none 0 0,.slice none 0 0] 126));have t2:=hid (HL.out.call t1.out);rcases h with rfl | ⟨rfl,h1,h2,h3,rfl⟩
 focus
  have q0:decide ((4000:Int)<(D.size:Int))=true:=by
   rcases hl with hl | ⟨_,hl,_⟩
   .simp;omega
   .cases hl
  clear hl
 rotate_left
 focus
  have i1:=a0L (l:=[48]) h1;have i2:=a0L (l:=[48]) h2;have i3:=a0L (l:=[49]) h3;rcases hl with hl | ⟨hl,-,hl2⟩
  focus
   have q0:decide ((4000:Int)<(D.size:Int))=true:=by simp;omega
   clear hl
  rotate_left
  focus
   have q0:decide ((4000:Int)<(D.size:Int))=false:=by simp;omega
   have q1:decide ((4000:Int)<(B.size:Int))=true:=by simp;omega
   clear hl hl2
 all_goals
  go_enter Mu,Lq
  go_wp2_with (first
   | (go_at_call 249;refine (HK.out.cut _ t2.out).mono ?_;rintro e w1 ⟨rfl,hb1⟩
      have x1:=hid (t0.out.call hb1);have y1:=hid (a0a t1.out hb1);clear hb1)
   | (go_at_call 250;refine (HK.out.int _).mono ?_;rintro e w2 ⟨rfl,hb2⟩
      have x2:=hid (x1.out.call hb2);have y2:=hid (a0a y1.out hb2);clear hb2;have d0:=x2.out.cell 0;have d1:=x2.out.cell 1;have d2:=x2.out.cell 2;have e0:=x2.out.free 0;have e1:=x2.out.free 1;have e2:=x2.out.free 2;simp at d0 d1 d2)
   | (go_at_call 251;refine (HK.out.form _).mono ?_;rintro e w3 ⟨rfl,hb3⟩
      have x3:=hid (x2.out.call hb3);have y3:=hid (a0a y2.out hb3);clear hb3 d0 d1 d2 e0 e1 e2;have d0:=x3.out.cell 0;have d1:=x3.out.cell 1;have d2:=x3.out.cell 2;have e0:=x3.out.free 0;have e1:=x3.out.free 1;have e2:=x3.out.free 2;simp at d0 d1 d2)
   | fail)
  first
   | (obtain⟨s1,s2⟩:=c0W x3.out false none none 0 0 0 0
      have f0:=s2.cell 0;have f1:=s2.cell 1;have f2:=s2.cell 2;simp at f0 f1 f2;refine Z6 (v:=.tuple #[.agg #[.bool false,.slice none 0 0,.slice none 0 0],.int .i64 5]) (by simp[results,Ez,go_sem,f0,f1,f2]) rfl ⟨rfl,?_⟩;exact ((y3.out.setCell nr0 _).setCell nr0 _).setCell nr0 _)
   | (obtain⟨s1,s2⟩:=c0W x2.out false none none 0 0 0 0
      have f0:=s2.cell 0;have f1:=s2.cell 1;have f2:=s2.cell 2;simp at f0 f1 f2;refine Z6 (v:=.tuple #[.agg #[.bool false,.slice none 0 0,.slice none 0 0],.int .i64 5]) (by simp[results,Ez,go_sem,f0,f1,f2]) rfl ⟨rfl,?_⟩;exact ((y2.out.setCell nr0 _).setCell nr0 _).setCell nr0 _)
def e0W {s:ByteArray}(h:allDig s.data.toList)(hs:¬ 4000<s.size):(limbs (bN s)).length<=1000000:=by
 refine j0d h ?_;have:s.data.toList.length=s.size:=An;omega
def d0H {s:ByteArray}(h:cS s=false):qD s=⟨#[49]⟩:=by simp[qD,h]
def c0e {s:ByteArray}(h:cS s=true):qD s=cB s:=by simp[qD,h]
def IsF (w:World)(v:Value)(m:Bool)(n d:Nat):Prop:=∃ N D,v=.agg #[.bool m,N,D]/\IsN .u64 w N n/\IsN .u64 w D d
def RetF (x:Int)(m:Bool)(n d:Nat)(e:Ending)(w':World):Prop:=∃ v,e=.returned (.tuple #[v,.int .i64 x])/\(x=0->IsF w' v m n d)/\(x≠0->v=.agg #[.bool false,.slice none 0 0,.slice none 0 0])
theorem RetF.err {x:Int}{m:Bool}{n d:Nat}{w':World}(h:x≠0):RetF x m n d (.returned (.tuple #[.agg #[.bool false,.slice none 0 0,.slice none 0 0],.int .i64 x])) w':=⟨_,rfl,fun e=>absurd e h,fun _=>rfl⟩
def x0A (w:World)(s W B D:ByteArray)(M:Bool)(HL:Hid (Lay w))(HC:Cuts s W B D true M true true)
 (h1:¬ D=⟨#[48]⟩) (h2:¬ B=⟨#[48]⟩) (h3:¬ B=⟨#[49]⟩) (hl1:¬ 4000<D.size) (hl2:¬ 4000<B.size) (hd1:allDig D.data.toList) (hd2:allDig B.data.toList):
 Calls Tryz.prog 190 #[.string s] w fun e w'=>RetF (if Nat.gcd (bN D) (bN B)=1 then 0 else 3) M (bN D) (bN B) e w'/\Below w.heap.size w w':=by
 obtain⟨xc,hxc⟩:∃ x:Int,(if Nat.gcd (bN D) (bN B)=1 then 0 else 3)=x:=⟨_,rfl⟩;rw[hxc];have HXC:=hid hxc;clear hxc;have HK:=hid HC;clear HC;have t0:=hid (Blk.new w #[.bool false,.slice none 0 0,.slice none 0 0] 126);have t1:=hid ((Z3 w.heap.size w).alloc nr0 (.cells #[.bool false,.slice none 0 0,.slice none 0 0] 126));have t2:=hid (HL.out.call t1.out);have i1:=a0L (l:=[48]) h1;have i2:=a0L (l:=[48]) h2;have i3:=a0L (l:=[49]) h3;have q0:decide ((4000:Int)<(D.size:Int))=false:=by simp;omega
 have q1:decide ((4000:Int)<(B.size:Int))=false:=by simp;omega
 have L1:=hid (e0W hd1 hl1);have L2:=hid (e0W hd2 hl2);have P1:=fun W=>hid (c0q W D hd1 (by omega))
 have P2:=fun W=>hid (c0q W B hd2 (by omega))
 clear hd1 hd2 h1 h2 h3 hl1 hl2;go_enter Mu,Lq
 go_wp2_with (first
  | (go_at_call 249;refine (HK.out.cut _ t2.out).mono ?_;rintro e w1 ⟨rfl,hb1⟩
     have x1:=hid (t0.out.call hb1);have y1:=hid (a0a t1.out hb1);clear hb1)
  | (go_at_call 250;refine (HK.out.int _).mono ?_;rintro e w2 ⟨rfl,hb2⟩
     have x2:=hid (x1.out.call hb2);have y2:=hid (a0a y1.out hb2);clear hb2)
  | (go_at_call 251;refine (HK.out.form _).mono ?_;rintro e w3 ⟨rfl,hb3⟩
     have x3:=hid (x2.out.call hb3);have y3:=hid (a0a y2.out hb3);clear hb3)
  | fail)
 refine (P1 _).out.mono ?_;rintro e w4 ⟨⟨v4,rfl,hv4⟩,hb4⟩;have x4:=hid (x3.out.call hb4);have y4:=hid (a0a y3.out hb4);have N4:=hid hv4;clear hb4 hv4;obtain⟨a4,c4,rfl,_⟩:=N4.out.openI;obtain⟨k1,hk1⟩:=gn ((limbs (dv D.data.toList)).length);rw[hk1]at N4 |-;clear P1;go_wp2_with fail;refine (P2 _).out.mono ?_;rintro e w5 ⟨⟨v5,rfl,hv5⟩,hb5⟩;have x5:=hid (x4.out.call hb5);have y5:=hid (a0a y4.out hb5);have N5:=hid (N4.out.call hb5);have D5:=hid hv5;clear hb5 hv5;obtain⟨a5,c5,rfl,_⟩:=D5.out.openI;obtain⟨k2,hk2⟩:=gn ((limbs (dv B.data.toList)).length);rw[hk2]at D5 |-;clear P2;go_wp2_with fail;have z5:=hid (Blk.new w5 #[.bool M,.slice a4 k1 c4,.slice a5 k2 c5] 126);have b5:=hid ((Z3 w5.heap.size w5).alloc nr0 (.cells #[.bool M,.slice a4 k1 c4,.slice a5 k2 c5] 126));refine (z0S _ _ _ _ _ (N5.out.call b5.out) (D5.out.call b5.out) L1.out L2.out).mono ?_;rintro e w6 ⟨⟨v6,rfl,hv6⟩,hb6⟩;have z6:=hid (z5.out.call hb6);have x6:=hid ((x5.out.call b5.out).call hb6);have y6:=hid (a0a (a0a y5.out b5.out) hb6);have N6:=hid ((N5.out.call b5.out).call hb6);have D6:=hid ((D5.out.call b5.out).call hb6);have G6:=hid hv6;clear hb6 hv6;obtain⟨a6,c6,rfl,_⟩:=G6.out.openI;go_wp2_with fail;refine (l0F _ _ _ G6.out).mono ?_;rintro e w7 ⟨rfl,rfl⟩;by_cases hG:Nat.gcd (bN D) (bN B)=1
 .have hO:isO (Nat.gcd (dv D.data.toList) (dv B.data.toList))=true:=e0j.2 hG;have X0:=hid (show xc=0 from by rw[<- HXC.out,J2 hG]);rw[hO];have d0:=x6.out.cell 0;have d1:=x6.out.cell 1;have d2:=x6.out.cell 2;have e0:=x6.out.free 0;have e1:=x6.out.free 1;have e2:=x6.out.free 2;have g0:=z6.out.cell 0;have g1:=z6.out.cell 1;have g2:=z6.out.cell 2;simp at d0 d1 d2 g0 g1 g2;clear hO;clear hG;go_wp2_with fail;obtain⟨s1,s2⟩:=c0W x6.out M a4 a5 k1 c4 k2 c5;have f0:=s2.cell 0;have f1:=s2.cell 1;have f2:=s2.cell 2;simp at f0 f1 f2;refine Z6 (v:=.tuple #[.agg #[.bool M,.slice a4 k1 c4,.slice a5 k2 c5],.int .i64 0]) (by simp[results,Ez,go_sem,f0,f1,f2]) rfl ⟨by rw[X0.out];exact⟨_,rfl,fun _=>⟨_,_,rfl,s1 _ _ _ N6.out,s1 _ _ _ D6.out⟩,fun h=>absurd rfl h⟩,?_⟩;exact ((y6.out.setCell nr0 _).setCell nr0 _).setCell nr0 _
 .have hO:isO (Nat.gcd (dv D.data.toList) (dv B.data.toList))=false:=by
   rw[Kf];exact fun h=>hG (e0j.1 h)
  have X0:=hid (show xc=3 from by rw[<- HXC.out,U0 hG]);rw[hO];have d0:=x6.out.cell 0;have d1:=x6.out.cell 1;have d2:=x6.out.cell 2;have e0:=x6.out.free 0;have e1:=x6.out.free 1;have e2:=x6.out.free 2;simp at d0 d1 d2;clear hO;clear hG;go_wp2_with fail;obtain⟨s1,s2⟩:=c0W x6.out false none none 0 0 0 0;have f0:=s2.cell 0;have f1:=s2.cell 1;have f2:=s2.cell 2;simp at f0 f1 f2;refine Z6 (v:=.tuple #[.agg #[.bool false,.slice none 0 0,.slice none 0 0],.int .i64 3]) (by simp[results,Ez,go_sem,f0,f1,f2]) rfl ⟨by rw[X0.out];exact RetF.err (by decide),?_⟩;exact ((y6.out.setCell nr0 _).setCell nr0 _).setCell nr0 _
def a1i (w:World)(s W B D:ByteArray)(M fb:Bool)(HL:Hid (Lay w))(HC:Cuts s W B D false M true fb)
 (hl1:¬ 4000<D.size) (hd1:allDig D.data.toList):
 Calls Tryz.prog 190 #[.string s] w fun e w'=>RetF 0 M (bN D) 1 e w'/\Below w.heap.size w w':=by
 have HK:=hid HC;clear HC;have t0:=hid (Blk.new w #[.bool false,.slice none 0 0,.slice none 0 0] 126);have t1:=hid ((Z3 w.heap.size w).alloc nr0 (.cells #[.bool false,.slice none 0 0,.slice none 0 0] 126));have t2:=hid (HL.out.call t1.out);have q0:decide ((4000:Int)<(D.size:Int))=false:=by simp;omega
 have P1:=fun W=>hid (c0q W D hd1 (by omega))
 have P2:=fun W=>hid (c0q W ⟨#[49]⟩ (by intro b hb;simp at hb;subst hb;rfl) (Nq (S4 _)))
 clear hd1 hl1;go_enter Mu,Lq
 go_wp2_with (first
  | (go_at_call 249;refine (HK.out.cut _ t2.out).mono ?_;rintro e w1 ⟨rfl,hb1⟩
     have x1:=hid (t0.out.call hb1);have y1:=hid (a0a t1.out hb1);clear hb1)
  | (go_at_call 250;refine (HK.out.int _).mono ?_;rintro e w2 ⟨rfl,hb2⟩
     have x2:=hid (x1.out.call hb2);have y2:=hid (a0a y1.out hb2);clear hb2)
  | fail)
 refine (P1 _).out.mono ?_;rintro e w4 ⟨⟨v4,rfl,hv4⟩,hb4⟩;have x4:=hid (x2.out.call hb4);have y4:=hid (a0a y2.out hb4);have N4:=hid hv4;clear hb4 hv4;obtain⟨a4,c4,rfl,_⟩:=N4.out.openI;obtain⟨k1,hk1⟩:=gn ((limbs (dv D.data.toList)).length);rw[hk1]at N4 |-;clear P1;go_wp2_with fail;refine (P2 _).out.mono ?_;rintro e w5 ⟨⟨v5,rfl,hv5⟩,hb5⟩;have x5:=hid (x4.out.call hb5);have y5:=hid (a0a y4.out hb5);have N5:=hid (N4.out.call hb5);have D5:=hid (show IsN .u64 w5 v5 1 from hv5);clear hb5 hv5;obtain⟨a5,c5,rfl,_⟩:=D5.out.openI;obtain⟨k2,hk2⟩:=gn ((limbs 1).length);rw[hk2]at D5 |-;clear P2;have z6:=hid (Blk.new w5 #[.bool M,.slice a4 k1 c4,.slice a5 k2 c5] 126);have b5:=hid ((Z3 w5.heap.size w5).alloc nr0 (.cells #[.bool M,.slice a4 k1 c4,.slice a5 k2 c5] 126));have x6:=hid (x5.out.call b5.out);have y6:=hid (a0a y5.out b5.out);have N6:=hid (N5.out.call b5.out);have D6:=hid (D5.out.call b5.out);have d0:=x6.out.cell 0;have d1:=x6.out.cell 1;have d2:=x6.out.cell 2;have e0:=x6.out.free 0;have e1:=x6.out.free 1;have e2:=x6.out.free 2;have g0:=z6.out.cell 0;have g1:=z6.out.cell 1;have g2:=z6.out.cell 2;simp at d0 d1 d2 g0 g1 g2;go_wp2_with fail;obtain⟨s1,s2⟩:=c0W x6.out M a4 a5 k1 c4 k2 c5;have f0:=s2.cell 0;have f1:=s2.cell 1;have f2:=s2.cell 2;simp at f0 f1 f2;refine Z6 (v:=.tuple #[.agg #[.bool M,.slice a4 k1 c4,.slice a5 k2 c5],.int .i64 0]) (by simp[results,Ez,go_sem,f0,f1,f2]) rfl ⟨⟨_,rfl,fun _=>⟨_,_,rfl,s1 _ _ _ N6.out,s1 _ _ _ D6.out⟩,fun h=>absurd rfl h⟩,?_⟩;exact ((y6.out.setCell nr0 _).setCell nr0 _).setCell nr0 _
def l0P (w:World)(s:ByteArray)(hs:s.size<=1000000)(hL:Lay w):
 Calls Tryz.prog 190 #[.string s] w fun e w'=>RetF (qE s) (iM (cW s)) (bN (iD (cW s))) (bN (qD s)) e w'/\Below w.heap.size w w':=by
 have HC:=r0Z s hs;have HL:=hid hL;by_cases hq:qB s=true
 .have hi:=c0k hq;rw[hi]at HC;have hdD:=e0Q (d0b hi);have hcS:cS s=false\/(cS s=true/\¬ iD (cW s)=⟨#[48]⟩/\¬ cB s=⟨#[48]⟩/\¬ cB s=⟨#[49]⟩/\fB (cB s)=true):=by
   have hq':=hq;unfold qB at hq';simp only[F9,Ai,Bv,K6]at hq';rcases hq'.2 with h | h
   .exact .inl h
   .cases hc:cS s
    .exact .inl rfl
    .exact .inr ⟨rfl,h.1.1.1,h.1.2,h.2,h.1.1.2⟩
  by_cases hl:qL s=true
  .have e:qE s=5:=by simp[qE,hq,hl]
   rw[e];unfold qL at hl;simp only[Ai,K6]at hl;refine (x0z w s _ _ _ _ _ _ HL HC hcS ?_).mono ?_
   .by_cases h4:4000<(iD (cW s)).size
    .exact .inl h4
    .refine .inr ⟨h4,?_⟩;rcases hcS with hc | ⟨hc,-⟩
     .rw[d0H hc]at hl;exact absurd (hl.resolve_left h4) (by decide)
     .rw[c0e hc]at hl;exact⟨hc,hl.resolve_left h4⟩
   .rintro e w' ⟨rfl,hb⟩;exact⟨RetF.err (by decide),hb⟩
  .have hl':qL s=false:=by simpa using hl
   have hl1:¬ 4000<(iD (cW s)).size/\¬ 4000<(qD s).size:=by
    unfold qL at hl';simpa using hl'
   rcases hcS with hc | ⟨hc,h1,h2,h3,h4⟩
   .rw[hc]at HC;have e:qE s=0:=by simp[qE,hq,hl',qG,hc]
    rw[e,d0H hc];exact a1i w s _ _ _ _ _ HL HC hl1.1 hdD
   .rw[hc,h4]at HC;have hl2:=hl1.2;rw[c0e hc]at hl2;have e:qE s=if Nat.gcd (bN (iD (cW s))) (bN (cB s))=1 then 0 else 3:=by
     simp only[qE,hq,hl',qG,hc,c0e hc];by_cases hg:Nat.gcd (bN (iD (cW s))) (bN (cB s))=1<;>simp[hg]
    rw[e,c0e hc];exact x0A w s _ _ _ _ HL HC h1 h2 h3 hl1.1 hl2 hdD (e0Q h4)
 .have hq':qB s=false:=by simpa using hq
  have e:qE s=3:=by simp[qE,hq']
  rw[e];refine (a1j w s _ _ _ _ _ _ _ HL HC hq').mono ?_;rintro e w' ⟨rfl,hb⟩;exact⟨RetF.err (by decide),hb⟩
theorem RetF.parts {x:Int}{m:Bool}{n d:Nat}{e:Ending}{w':World}(h:RetF x m n d e w'):∃ (b:Bool) (a1 a2:Option Addr) (n1 c1 n2 c2:Nat),e=.returned (.tuple #[.agg #[.bool b,.slice a1 n1 c1,.slice a2 n2 c2],.int .i64 x]):=by
 obtain⟨v,rfl,h1,h2⟩:=h;by_cases hx:x=0
 .obtain⟨N,D,rfl,hN,hD⟩:=h1 hx;obtain⟨a1,c1,rfl,_⟩:=hN.openI;obtain⟨a2,c2,rfl,_⟩:=hD.openI;exact⟨_,_,_,_,_,_,_,rfl⟩
 .rw[h2 hx];exact⟨_,_,_,_,_,_,_,rfl⟩
def w0G (w:World)(s:ByteArray)(hs:s.size<=1000000)(hL:Lay w):
 Calls Tryz.prog 323 #[.string s] w fun e w'=>e=.returned (.int .i64 (qE s))/\Below w.heap.size w w':=by
 have HC:=hid (l0P w s hs hL);go_enter Tryz.func323,Tryz.ntmps323;go_wp2_with fail;refine HC.out.mono ?_;rintro e w1 ⟨hr,hb⟩;obtain⟨b,a1,a2,n1,c1,n2,c2,rfl⟩:=hr.parts;have HB:=hid hb;clear hr hb;go_wp2_with fail;go_ret
 exact⟨rfl,HB.out.alloc HB.out.size _⟩
def pW (s:ByteArray):ByteArray:=if qE s=0 then cW s else ⟨#[]⟩
def pD (s:ByteArray):ByteArray:=if qE s=0 then qD s else ⟨#[]⟩
def q0n (w:World)(s:ByteArray)(hs:s.size<=1000000)(hL:Lay w):
 Calls Tryz.prog 273 #[.string s] w fun e w'=>e=.returned (.tuple #[.string (pW s),.string (pD s),.int .i64 (qE s)])/\Below w.heap.size w w':=by
 have HC:=hid (w0G w s hs hL);have HU:=hid (r0Z s hs);have HL:=hid hL;clear hL;by_cases he:qE s=0
 .have e1:pW s=cW s:=J2 he;have e2:pD s=qD s:=J2 he;rw[e1,e2,he];rw[he]at HC;clear e1 e2;obtain⟨W,hW⟩:=gn (cW s);obtain⟨B,hB⟩:=gn (cB s);rw[hW,hB]at HU;rw[hW];cases hc:cS s
  focus
   rw[d0H hc]
  rotate_left
  focus
   rw[c0e hc,hB]
  all_goals
   rw[hc]at HU;clear hW hB hc he;go_enter Tryz.func273,Tryz.ntmps273
   go_wp2_with (first
    | (go_at_call 323;refine HC.out.mono ?_;rintro e w1 ⟨rfl,hb1⟩
       have y1:=hid hb1;clear hb1)
    | (go_at_call 249;refine (HU.out.cut _ (HL.out.call y1.out)).mono ?_;rintro e w2 ⟨rfl,hb2⟩
       have y2:=hid (a0a y1.out hb2);clear hb2)
    | fail)
   go_ret3
   exact⟨rfl,y2.out⟩
 .have e1:pW s=⟨#[]⟩:=U0 he;have e2:pD s=⟨#[]⟩:=U0 he;rw[e1,e2];have q0:(qE s != 0)=true:=by simpa using he
  obtain⟨x,hx⟩:=gn (qE s);rw[hx]at HC q0 |-;clear hx he e1 e2;go_enter Tryz.func273,Tryz.ntmps273
  go_wp2_with (first
   | (go_at_call 323;refine HC.out.mono ?_;rintro e w1 ⟨rfl,hb1⟩
      have y1:=hid hb1;clear hb1)
   | fail)
  go_ret3
  exact⟨rfl,y1.out⟩
open Go.Lib (decDigits nDigits)
def s0m (w:World)(s:ByteArray)(hs:s.size<=100000000):
 Calls Tryz.prog 343 #[.string s] w fun e w'=>e=.returned (.int .i64 (c0u s))/\Below w.heap.size w w':=by
 have HC:=hid (m0k w s hs);by_cases hb:n0I s=true
 .have e0:j0s s=0:=J2 hb;rw[e0]at HC;by_cases hl:256<s.size
  .have e1:c0u s=4:=by rw[c0u,J2 hb,J2 hl]
   have q0:decide ((256:Int)<(s.size:Int))=true:=by simp;omega
   rw[e1];clear hb hl e0 e1;go_enter Tryz.func343,Tryz.ntmps343;go_wp2_with fail;refine HC.out.mono ?_;rintro e w1 ⟨rfl,hb1⟩;go_wp2_with fail;go_ret
   exact⟨rfl,hb1⟩
  .have e1:c0u s=0:=by rw[c0u,J2 hb,U0 hl]
   have q0:decide ((256:Int)<(s.size:Int))=false:=by simp;omega
   rw[e1];clear hb hl e0 e1;go_enter Tryz.func343,Tryz.ntmps343;go_wp2_with fail;refine HC.out.mono ?_;rintro e w1 ⟨rfl,hb1⟩;go_wp2_with fail;go_ret
   exact⟨rfl,hb1⟩
 .have e0:j0s s=3:=U0 hb;have e1:c0u s=3:=U0 hb;rw[e0]at HC;rw[e1];clear hb e0 e1;go_enter Tryz.func343,Tryz.ntmps343;go_wp2_with fail;refine HC.out.mono ?_;rintro e w1 ⟨rfl,hb1⟩;go_wp2_with fail;go_ret
  exact⟨rfl,hb1⟩
def s0l (w:World)(s t:ByteArray)(hs:s.size<=1000000)(ht:t.size<=1000000)(hL:Lay w):
 Calls Tryz.prog 359 #[.string s,.string t] w fun e w'=>e=.returned (.string (v0o (· + ·) s t))/\Below w.heap.size w w':=by
 have P:=hid (z0J w s t hs ht hL);go_enter Tryz.func359,Tryz.ntmps359;go_wp2_with fail;refine P.out.mono ?_;rintro e w1 ⟨rfl,hb1⟩;go_wp2_with fail;go_ret
 exact⟨rfl,hb1⟩
def s0k (w:World)(s t:ByteArray)(hs:s.size<=1000000)(ht:t.size<=1000000)(hL:Lay w):
 Calls Tryz.prog 358 #[.string s,.string t] w fun e w'=>e=.returned (.string (v0o (· * ·) s t))/\Below w.heap.size w w':=by
 have P:=hid (z0H w s t hs ht hL);go_enter Tryz.func358,Tryz.ntmps358;go_wp2_with fail;refine P.out.mono ?_;rintro e w1 ⟨rfl,hb1⟩;go_wp2_with fail;go_ret
 exact⟨rfl,hb1⟩
def z0Z (w:World)(s t:ByteArray)(hs:s.size<=1000000)(ht:t.size<=1000000)(hL:Lay w):
 Calls Tryz.prog 211 #[.string s,.string t] w fun e w'=>e=.returned (.string (v0o (· + ·) s t))/\Below w.heap.size w w':=by
 have P:=hid (z0J w s t hs ht hL);go_enter Tryz.func211,Tryz.ntmps211;go_wp2_with fail;refine P.out.mono ?_;rintro e w1 ⟨rfl,hb1⟩;go_wp2_with fail;go_ret
 exact⟨rfl,hb1⟩
def x0t (w:World)(s t:ByteArray)(hs:s.size<=1000000)(ht:t.size<=1000000)(hL:Lay w):
 Calls Tryz.prog 212 #[.string s,.string t] w fun e w'=>e=.returned (.string (v0o (· * ·) s t))/\Below w.heap.size w w':=by
 have P:=hid (z0H w s t hs ht hL);go_enter Tryz.func212,Tryz.ntmps212;go_wp2_with fail;refine P.out.mono ?_;rintro e w1 ⟨rfl,hb1⟩;go_wp2_with fail;go_ret
 exact⟨rfl,hb1⟩
def q0o {s W:ByteArray}(h:qE s=0)(hW:cW s=W):∃ h0:0<W.size,((W[0].toNat:Int)==45)=iM W:=by
 subst hW;have h1:=(i0y h).1;have h2:=e0Q (d0b (c0k h1));have h3:=(a0V.1 (d0b (c0k h1))).1;obtain⟨l,hl⟩:=gn ((cW s).data.toList);have e:cW s=⟨⟨l⟩⟩:=by
  apply Lk
  rw[<- hl]
 rw[e]at h2 h3 |-;cases l with
 | nil=>exact absurd rfl h3
 | cons b r=>
  refine⟨Ed _,?_⟩;have e2:(ByteArray.mk ⟨b::r⟩)[0]'(Ed _)=b:=rfl;have e3:iM ⟨⟨b::r⟩⟩=((45:UInt8)==b):=by
   simp[iM,Lib.hasPrefix,List.isPrefixOf]
  rw[e3];show ((((ByteArray.mk ⟨b::r⟩)[0]'(Ed _)).toNat:Int)==45)=_
  rw[e2,Ay,Dk,Dk]
  constructor
  .intro h;apply Eh.1
   simp;omega
  .intro h;rw[<- h]
   rfl
def cPE (s:ByteArray):Int:=if qE s≠0 then qE s else if iM (cW s)=true\/0<k0J (cW s).data.toList (qD s).data.toList then 2 else if 1000<(cW s).size\/1000<(qD s).size then 5 else 0
def y0j (w:World)(s:ByteArray)(hs:s.size<=100000)(hL:Lay w):
 Calls Tryz.prog 342 #[.string s] w fun e w'=>e=.returned (.tuple #[.string (if cPE s=0 then cW s else ⟨#[]⟩),.string (if cPE s=0 then qD s else ⟨#[]⟩),.int .i64 (cPE s)])/\Below w.heap.size w w':=by
 have HC:=hid (q0n w s (by omega) hL);have z1:=j0k s;have z2:=q0p s;have HM:=fun V=>hid (q0N V (cW s) (qD s) (by omega) (by omega))
 by_cases he:qE s=0
 focus
  have e1:pW s=cW s:=J2 he;have e2:pD s=qD s:=J2 he;rw[e1,e2,he]at HC;have HE:cPE s=if iM (cW s)=true\/0<k0J (cW s).data.toList (qD s).data.toList then 2 else if 1000<(cW s).size\/1000<(qD s).size then 5 else 0:=by
   unfold cPE;rw[U0 (fun h=>h he)]
  rw[HE];clear HE e1 e2;obtain⟨D,hD⟩:=gn (qD s);obtain⟨W,hW⟩:=gn (cW s);obtain⟨hw0,hiM⟩:=q0o he hW;clear he;obtain⟨m,hm⟩:=gn (iM W);obtain⟨c,hc⟩:=gn (k0J W.data.toList D.data.toList);rw[hD,hW]at HC HM;rw[hm]at hiM;rw[hc]at HM;rw[hD,hW,hm,hc];clear hD hW hm hc z1 z2;rcases m with _ | _
  .by_cases hc2:0<c
   focus
    have q0:decide ((0:Int)<c)=true:=by simp;omega
    simp only[hc2,or_true,Fm,show ¬ (2:Int)=0 by decide,Ew];clear hc2
   rotate_left
   focus
    have q0:decide ((0:Int)<c)=false:=by simp;omega
    simp only[hc2,Bi,or_self,Ew];clear hc2;by_cases hl1:1000<W.size
    focus
     have q1:decide ((1000:Int)<(W.size:Int))=true:=by simp;omega
     simp only[hl1,true_or,Fm,show ¬ (5:Int)=0 by decide,Ew];clear hl1
    rotate_left
    focus
     have q1:decide ((1000:Int)<(W.size:Int))=false:=by simp;omega
     by_cases hl2:1000<D.size
     focus
      have q2:decide ((1000:Int)<(D.size:Int))=true:=by simp;omega
      simp only[hl2,or_true,Fm,show ¬ (5:Int)=0 by decide,Ew];clear hl1 hl2
     rotate_left
     focus
      have q2:decide ((1000:Int)<(D.size:Int))=false:=by simp;omega
      simp only[hl1,hl2,or_self,Ew,Fm];clear hl1 hl2
   all_goals
    go_enter Tryz.func342,Tryz.ntmps342;go_wp2_with fail;refine HC.out.mono ?_;rintro e w1 ⟨rfl,hb1⟩;have y1:=hid hb1;clear hb1;go_wp2_with fail;refine (HM _).out.mono ?_;rintro e w2 ⟨rfl,hb2⟩;have y2:=hid (a0a y1.out hb2);clear hb2;go_wp2_with fail
    go_ret3
    exact⟨rfl,y2.out⟩
  focus
   simp only[true_or,Fm,show ¬ (2:Int)=0 by decide,Ew]
 rotate_left
 focus
  have e1:pW s=⟨#[]⟩:=U0 he;have e2:pD s=⟨#[]⟩:=U0 he;have e3:cPE s=qE s:=by unfold cPE;rw[J2 he]
  rw[e1,e2]at HC;rw[e3,U0 he,U0 he];obtain⟨x,hx⟩:=gn (qE s);rw[hx]at HC he |-;have q0:(x==0)=false:=by simpa using he
  have q1:(x != 0)=true:=by simpa using he
  clear e1 e2 e3 hx z1 z2 HM
 all_goals
  go_enter Tryz.func342,Tryz.ntmps342;go_wp2_with fail;refine HC.out.mono ?_;rintro e w1 ⟨rfl,hb1⟩;have y1:=hid hb1;clear hb1;go_wp2_with fail
  go_ret3
  exact⟨rfl,y1.out⟩
def gPE (s:ByteArray):Int:=if qE s≠0 then qE s else if iM (cW s)=true\/0<=k0J (cW s).data.toList (qD s).data.toList then 2 else if 1000<(cW s).size\/1000<(qD s).size then 5 else 0
def d0u (w:World)(s:ByteArray)(hs:s.size<=100000)(hL:Lay w):
 Calls Tryz.prog 209 #[.string s] w fun e w'=>e=.returned (.tuple #[.string (if gPE s=0 then cW s else ⟨#[]⟩),.string (if gPE s=0 then qD s else ⟨#[]⟩),.int .i64 (gPE s)])/\Below w.heap.size w w':=by
 have HC:=hid (q0n w s (by omega) hL);have z1:=j0k s;have z2:=q0p s;have HM:=fun V=>hid (q0N V (cW s) (qD s) (by omega) (by omega))
 by_cases he:qE s=0
 focus
  have e1:pW s=cW s:=J2 he;have e2:pD s=qD s:=J2 he;rw[e1,e2,he]at HC;have HE:gPE s=if iM (cW s)=true\/0<=k0J (cW s).data.toList (qD s).data.toList then 2 else if 1000<(cW s).size\/1000<(qD s).size then 5 else 0:=by
   unfold gPE;rw[U0 (fun h=>h he)]
  rw[HE];clear HE e1 e2;obtain⟨D,hD⟩:=gn (qD s);obtain⟨W,hW⟩:=gn (cW s);obtain⟨hw0,hiM⟩:=q0o he hW;clear he;obtain⟨m,hm⟩:=gn (iM W);obtain⟨c,hc⟩:=gn (k0J W.data.toList D.data.toList);rw[hD,hW]at HC HM;rw[hm]at hiM;rw[hc]at HM;rw[hD,hW,hm,hc];clear hD hW hm hc z1 z2;rcases m with _ | _
  .by_cases hc2:0<=c
   focus
    have q0:decide ((0:Int)<=c)=true:=by simp;omega
    simp only[hc2,or_true,Fm,show ¬ (2:Int)=0 by decide,Ew];clear hc2
   rotate_left
   focus
    have q0:decide ((0:Int)<=c)=false:=by simp;omega
    simp only[hc2,Bi,or_self,Ew];clear hc2;by_cases hl1:1000<W.size
    focus
     have q1:decide ((1000:Int)<(W.size:Int))=true:=by simp;omega
     simp only[hl1,true_or,Fm,show ¬ (5:Int)=0 by decide,Ew];clear hl1
    rotate_left
    focus
     have q1:decide ((1000:Int)<(W.size:Int))=false:=by simp;omega
     by_cases hl2:1000<D.size
     focus
      have q2:decide ((1000:Int)<(D.size:Int))=true:=by simp;omega
      simp only[hl2,or_true,Fm,show ¬ (5:Int)=0 by decide,Ew];clear hl1 hl2
     rotate_left
     focus
      have q2:decide ((1000:Int)<(D.size:Int))=false:=by simp;omega
      simp only[hl1,hl2,or_self,Ew,Fm];clear hl1 hl2
   all_goals
    go_enter Tryz.func209,Tryz.ntmps209;go_wp2_with fail;refine HC.out.mono ?_;rintro e w1 ⟨rfl,hb1⟩;have y1:=hid hb1;clear hb1;go_wp2_with fail;refine (HM _).out.mono ?_;rintro e w2 ⟨rfl,hb2⟩;have y2:=hid (a0a y1.out hb2);clear hb2;go_wp2_with fail
    go_ret3
    exact⟨rfl,y2.out⟩
  focus
   simp only[true_or,Fm,show ¬ (2:Int)=0 by decide,Ew]
 rotate_left
 focus
  have e1:pW s=⟨#[]⟩:=U0 he;have e2:pD s=⟨#[]⟩:=U0 he;have e3:gPE s=qE s:=by unfold gPE;rw[J2 he]
  rw[e1,e2]at HC;rw[e3,U0 he,U0 he];obtain⟨x,hx⟩:=gn (qE s);rw[hx]at HC he |-;have q0:(x==0)=false:=by simpa using he
  have q1:(x != 0)=true:=by simpa using he
  clear e1 e2 e3 hx z1 z2 HM
 all_goals
  go_enter Tryz.func209,Tryz.ntmps209;go_wp2_with fail;refine HC.out.mono ?_;rintro e w1 ⟨rfl,hb1⟩;have y1:=hid hb1;clear hb1;go_wp2_with fail
  go_ret3
  exact⟨rfl,y1.out⟩
end
section
open Go.RowKit
open Go.Lib (decDigits nDigits)
def c0I {N D K T:Nat}{l:List UInt8}(h:sdB N D K T=true):b0P N D K T l=(true,sdV N D K T,0):=by
 rw[b0P.eq_def];dsimp only;rw[if_pos h]
def e0u {N D K T:Nat}(h:sdB N D K T=false):b0P N D K T []=(false,0,0):=by
 rw[b0P.eq_def];dsimp only;rw[if_neg (by simp[h])]
def e0t {N D K T:Nat}{b:UInt8}{r:List UInt8}(h:sdB N D K T=false):b0P N D K T (b::r)=((b0P N D (2*K+(if b=49 then 1 else 0)) (2*T) r).1,(b0P N D (2*K+(if b=49 then 1 else 0)) (2*T) r).2.1,(b0P N D (2*K+(if b=49 then 1 else 0)) (2*T) r).2.2+1):=by
 rw[b0P.eq_def];dsimp only;rw[if_neg (by simp[h])]
def b0u (N D:Nat)(l:List UInt8)(K T u:Nat):Bool×Nat×Nat:=let x:=b0P N D K T (l.drop u);(x.1,x.2.1,x.2.2+u)
def g0r {N D K T u:Nat}{l:List UInt8}(h:sdB N D K T=true):b0u N D l K T u=(true,sdV N D K T,u):=by
 unfold b0u;rw[c0I h];simp
def g0q {N D K T:Nat}{l:List UInt8}(h:sdB N D K T=false):b0u N D l K T l.length=(false,0,l.length):=by
 unfold b0u;rw[List.drop_length,e0u h];simp
def Nn:=@Nat.two_mul
def g0p {N D K T u:Nat}{l:List UInt8}(h:sdB N D K T=false)(hu:u<l.length):b0u N D l K T u=b0u N D l (K+K+(if l[u]=49 then 1 else 0)) (T+T) (u+1):=by
 unfold b0u;rw[H9 hu,e0t h,Nn,Nn];simp only[Ha,true_and];omega
structure Cell (K T u:Nat):Prop where
 t:T=2 ^ u
 k:K<T
theorem Cell.next {K T u x:Nat}(h:Cell K T u)(hx:x<=1):Cell (K+K+x) (T+T) (u+1):=by
 refine⟨?_,?_⟩
 .rw[h.t,I8];omega
 .have:=h.k;omega
theorem Cell.fits {N D K T u:Nat}(h:Cell K T u)(hu:u<=256)(hN:N<10 ^ eN)(hD:D<10 ^ eN):Fits N D K T:=by
 have h1:2 ^ u<=2 ^ 256:=H6 (by omega) hu;have h2:2 ^ 256<10 ^ eK:=by decide
 have ht:=h.t;have hk:=h.k;exact⟨hN,hD,by omega,by omega⟩
def Hu:=@Decidable.not_not
def v0H {p:ByteArray}(h:cPE p=0):cW p=a0f (bN (cW p))/\qD p=a0f (bN (qD p))/\bN (cW p)<10 ^ eN/\bN (qD p)<10 ^ eN/\bN (cW p)<=bN (qD p):=by
 unfold cPE at h
 split at h
 .rename_i he
  exact absurd h he
 .rename_i he
  have he':qE p=0:=Hu.1 he
  split at h
  .cases h
  .rename_i h2
   split at h
   .cases h
   .rename_i h3
    obtain⟨a,b,c,d,e1,e2⟩:=f0Z he' (fun h=>h2 (.inl h)) h3;refine⟨a,b,c,d,?_⟩;have h4:¬ 0<k0J (cW p).data.toList (qD p).data.toList:=fun h=>h2 (.inr h)
    rw[k0J,J2 ⟨e1,e2⟩,b0d]at h4;show dv _<=dv _
    split at h4
    .omega
    .split at h4
     .simp at h4
     .omega
theorem j0E (N D:Nat):∀ (l:List UInt8) (K T:Nat),(b0P N D K T l).2.2<=l.length
 | [],K,T=>by
  cases h:sdB N D K T
  .rw[e0u h];simp
  .rw[c0I h];simp
 | b::r,K,T=>by
  cases h:sdB N D K T
  .rw[e0t h];have:=j0E N D r (2*K+(if b=49 then 1 else 0)) (2*T);simp only[U7];omega
  .rw[c0I h];simp
theorem m0t (N D:Nat):∀ (l:List UInt8) (K T:Nat),(b0P N D K T l).2.1<=1
 | [],K,T=>by
  cases h:sdB N D K T
  .rw[e0u h];simp
  .rw[c0I h];simp only[sdV];split<;>omega
 | b::r,K,T=>by
  cases h:sdB N D K T
  .rw[e0t h];exact m0t N D r _ _
  .rw[c0I h];simp only[sdV];split<;>omega
def Gl:=@Nat.zero_mul
def s0Q {N D:Nat}(h:N<D){l:List UInt8}(hd:(b0P N D 0 1 l).1=true)(hv:(b0P N D 0 1 l).2.1=1):1<=(b0P N D 0 1 l).2.2:=by
 cases hs:sdB N D 0 1
 .cases l with
  | nil=>rw[e0u hs]at hd;cases hd
  | cons b r=>rw[e0t hs];simp
 .rw[c0I hs]at hv;simp only[sdV,De,Gl]at hv;simp only[sdB,De,Gl,J8,Ai,K6]at hs
  split at hv
  .cases hv
  .omega
def a0A (N D:Nat)(l:List UInt8)(p:Nat):Bool×Nat×Nat:=b0u N D (l.drop p) 0 1 0
def g0i (N D:Nat)(l:List UInt8)(p:Nat):a0A N D l p=b0P N D 0 1 (l.drop p):=by simp[a0A,b0u]
def e0d (pre:List (Nat×Nat)):Nat:=match pre.getLast? with | some x=>x.1 | none=>0
def q0r:e0d []=0:=rfl
def b0I (pre:List (Nat×Nat))(x:Nat×Nat):e0d (pre ++ [x])=x.1:=by simp[e0d]
def b0g {N D:Nat}{l:List UInt8}{p:Nat}(hp:p<=l.length):p+(a0A N D l p).2.2<=l.length:=by
 rw[g0i];have:=j0E N D (l.drop p) 0 1;rw[Ah]at this;omega
def ser (N D:Nat)(l:List UInt8):Nat->Nat->Nat->List Nat->Nat->Option (List Nat×Nat)
 | 0,_,_,_,_=>none
 | f+1,m,p,vs,n=>
  if (a0A N D l p).1=false then none
  else if (a0A N D l p).2.1=1 then ser N D l f m (p+(a0A N D l p).2.2) vs (n+1)
  else if m<=1 then some (vs ++ [n],p+(a0A N D l p).2.2)
  else ser N D l f (m-1) (p+(a0A N D l p).2.2) (vs ++ [n]) 0
def b0q {N D:Nat}(h:N<D){l:List UInt8}{p:Nat}(hd:(a0A N D l p).1=true)(hv:(a0A N D l p).2.1=1):1<=(a0A N D l p).2.2:=by
 rw[g0i]at *;exact s0Q h hd hv
def t0c {N D:Nat}(h:N<D){l:List UInt8}:∀ (f f' m p:Nat) (vs:List Nat) (n:Nat),1<=m->p<=l.length->l.length-p+m<=f->l.length-p+m<=f'->ser N D l f m p vs n=ser N D l f' m p vs n:=by
 intro f
 induction f with
 | zero=>intro f' m p vs n hm hp h1 h2;omega
 | succ f ih=>
  intro f' m p vs n hm hp h1 h2;cases f' with
  | zero=>omega
  | succ f'=>
   have hle:=b0g (N:=N) (D:=D) hp;simp only[ser]
   split
   .rfl
   .rename_i hd
    have hd':(a0A N D l p).1=true:=by simpa using hd
    split
    .rename_i hv
     have:=b0q h hd' hv;exact ih _ _ _ _ _ hm hle (by omega) (by omega)
    .split
     .rfl
     .exact ih _ _ _ _ _ (by omega) hle (by omega) (by omega)
def sr (N D:Nat)(l:List UInt8)(m p:Nat)(vs:List Nat)(n:Nat):Option (List Nat×Nat):=ser N D l (l.length-p+m) m p vs n
def z0c {N D:Nat}(h:N<D){l:List UInt8}{f m p n:Nat}{vs:List Nat}(hm:1<=m)(hp:p<=l.length)(hf:l.length-p+m<=f):ser N D l f m p vs n=sr N D l m p vs n:=t0c h _ _ _ _ _ _ hm hp hf nr0
def e0x {N D:Nat}{l:List UInt8}{m p n:Nat}{vs:List Nat}(hm:1<=m):sr N D l m p vs n=ser N D l ((l.length-p+m-1)+1) m p vs n:=by
 unfold sr;rw[show l.length-p+m-1+1=l.length-p+m by omega]
def b0S {N D:Nat}{l:List UInt8}{m p n:Nat}{vs:List Nat}(hm:1<=m)(hd:(a0A N D l p).1=false):sr N D l m p vs n=none:=by
 rw[e0x hm,ser,J2 hd]
def f0s {N D:Nat}(h:N<D){l:List UInt8}{m p n:Nat}{vs:List Nat}(hm:1<=m)(hp:p<=l.length)(hd:(a0A N D l p).1=true)(hv:(a0A N D l p).2.1=1):sr N D l m p vs n=sr N D l m (p+(a0A N D l p).2.2) vs (n+1):=by
 have hle:=b0g (N:=N) (D:=D) hp;have:=b0q h hd hv;rw[e0x hm,ser,U0 (by simp[hd]),J2 hv];exact z0c h hm hle (by omega)
def b0R {N D:Nat}{l:List UInt8}{p n:Nat}{vs:List Nat}(hd:(a0A N D l p).1=true)(hv:¬ (a0A N D l p).2.1=1):sr N D l 1 p vs n=some (vs ++ [n],p+(a0A N D l p).2.2):=by
 rw[e0x (J4 1),ser,U0 (by simp[hd]),U0 hv,J2 (J4 1)]
def w0a {N D:Nat}(h:N<D){l:List UInt8}{m p n:Nat}{vs:List Nat}(hm:2<=m)(hp:p<=l.length)(hd:(a0A N D l p).1=true)(hv:¬ (a0A N D l p).2.1=1):sr N D l m p vs n=sr N D l (m-1) (p+(a0A N D l p).2.2) (vs ++ [n]) 0:=by
 have hle:=b0g (N:=N) (D:=D) hp;rw[e0x (by omega),ser,U0 (by simp[hd]),U0 hv,U0 (by omega)];exact z0c h (by omega) hle (by omega)
def s1 (N D:Nat)(l:List UInt8)(p n:Nat):Option (Nat×Nat):=match sr N D l 1 p [] n with | some (x::_,at')=>some (x,at') | _=>none
def p0H {N D:Nat}(h:N<D){l:List UInt8}:∀ (f p:Nat) (vs:List Nat) (n:Nat),p<=l.length->l.length-p<=f->sr N D l 1 p vs n=match s1 N D l p n with | some (x,a)=>some (vs ++ [x],a) | none=>none:=by
 intro f
 induction f with
 | zero=>
  intro p vs n hp hf;cases hd:(a0A N D l p).1
  .rw[s1,b0S (J4 1) hd,b0S (J4 1) hd]
  .by_cases hv:(a0A N D l p).2.1=1
   .have:=b0q h hd hv;have:=b0g (N:=N) (D:=D) hp;omega
   .rw[s1,b0R hd hv,b0R hd hv]
    rfl
 | succ f ih=>
  intro p vs n hp hf;cases hd:(a0A N D l p).1
  .rw[s1,b0S (J4 1) hd,b0S (J4 1) hd]
  .by_cases hv:(a0A N D l p).2.1=1
   .have:=b0q h hd hv;have hle:=b0g (N:=N) (D:=D) hp;rw[s1,f0s h (J4 1) hp hd hv,f0s h (J4 1) hp hd hv,ih _ _ _ hle (by omega)]
    rfl
   .rw[s1,b0R hd hv,b0R hd hv]
    rfl
def z0e {N D:Nat}(h:N<D){l:List UInt8}:∀ (f p n x a:Nat),p<=l.length->l.length-p<=f->s1 N D l p n=some (x,a)->p<=a/\a<=l.length/\x<=n+(a-p):=by
 intro f
 induction f with
 | zero=>
  intro p n x a hp hf hs;cases hd:(a0A N D l p).1
  .rw[s1,b0S (J4 1) hd]at hs;cases hs
  .by_cases hv:(a0A N D l p).2.1=1
   .have:=b0q h hd hv;have:=b0g (N:=N) (D:=D) hp;omega
   .rw[s1,b0R hd hv]at hs;simp at hs;have:=b0g (N:=N) (D:=D) hp;omega
 | succ f ih=>
  intro p n x a hp hf hs;cases hd:(a0A N D l p).1
  .rw[s1,b0S (J4 1) hd]at hs;cases hs
  .by_cases hv:(a0A N D l p).2.1=1
   .have:=b0q h hd hv;have hle:=b0g (N:=N) (D:=D) hp;rw[s1,f0s h (J4 1) hp hd hv]at hs;have:=ih _ _ _ _ hle (by omega) hs;omega
   .rw[s1,b0R hd hv]at hs;simp at hs;have:=b0g (N:=N) (D:=D) hp;omega
def h0X (N D:Nat)(l:List UInt8)(a q:Nat):a0A N D (l.drop a) q=a0A N D l (a+q):=by
 unfold a0A;rw[Ee]
def p0V {N D:Nat}(h:N<D){l:List UInt8}{a:Nat}(ha:a<=l.length):∀ (f q n:Nat),a+q<=l.length->l.length-(a+q)<=f->s1 N D l (a+q) n=(s1 N D (l.drop a) q n).map (fun x=>(x.1,a+x.2)):=by
 intro f
 induction f with
 | zero=>
  intro q n hp hf;have hc:=h0X N D l a q;cases hd:(a0A N D l (a+q)).1
  .rw[s1,s1,b0S (J4 1) hd,b0S (J4 1) (by rw[hc];exact hd)]
   rfl
  .by_cases hv:(a0A N D l (a+q)).2.1=1
   .have:=b0q h hd hv;have:=b0g (N:=N) (D:=D) hp;omega
   .rw[s1,s1,b0R hd hv,b0R (by rw[hc];exact hd) (by rw[hc];exact hv),hc];simp[Bn]
 | succ f ih=>
  intro q n hp hf;have hc:=h0X N D l a q;cases hd:(a0A N D l (a+q)).1
  .rw[s1,s1,b0S (J4 1) hd,b0S (J4 1) (by rw[hc];exact hd)]
   rfl
  .by_cases hv:(a0A N D l (a+q)).2.1=1
   .have:=b0q h hd hv;have hle:=b0g (N:=N) (D:=D) hp;have ih':=ih (q+(a0A N D l (a+q)).2.2) (n+1) (by omega) (by omega);rw[<- Bn]at ih';rw[s1,s1,f0s h (J4 1) hp hd hv,f0s (l:=l.drop a) (p:=q) h (J4 1) (by rw[Ah];omega) (by rw[hc];exact hd) (by rw[hc];exact hv),hc];exact ih'
   .rw[s1,s1,b0R hd hv,b0R (by rw[hc];exact hd) (by rw[hc];exact hv),hc];simp[Bn]
end
section
open Go.RowKit
def e0B {N D:Nat}{l:List UInt8}{p n:Nat}(hd:(a0A N D l p).1=false):s1 N D l p n=none:=by
 unfold s1;rw[b0S (J4 1) hd]
def i0m {N D:Nat}(h:N<D){l:List UInt8}{p n:Nat}(hp:p<=l.length)(hd:(a0A N D l p).1=true)(hv:(a0A N D l p).2.1=1):s1 N D l p n=s1 N D l (p+(a0A N D l p).2.2) (n+1):=by
 unfold s1;rw[f0s h (J4 1) hp hd hv]
def e0A {N D:Nat}{l:List UInt8}{p n:Nat}(hd:(a0A N D l p).1=true)(hv:¬ (a0A N D l p).2.1=1):s1 N D l p n=some (n,p+(a0A N D l p).2.2):=by
 unfold s1;rw[b0R hd hv];rfl
def t0f {N D:Nat}(h:N<D){l:List UInt8}:∀ (f p n:Nat),p<=l.length->l.length-p<=f->s1 N D l p (n+1)=(s1 N D l p n).map (fun x=>(x.1+1,x.2)):=by
 intro f
 induction f with
 | zero=>
  intro p n hp hf;cases hd:(a0A N D l p).1
  .rw[e0B hd,e0B hd];rfl
  .by_cases hv:(a0A N D l p).2.1=1
   .have:=b0q h hd hv;have:=b0g (N:=N) (D:=D) hp;omega
   .rw[e0A hd hv,e0A hd hv];rfl
 | succ f ih=>
  intro p n hp hf;cases hd:(a0A N D l p).1
  .rw[e0B hd,e0B hd];rfl
  .by_cases hv:(a0A N D l p).2.1=1
   .have:=b0q h hd hv;have hle:=b0g (N:=N) (D:=D) hp;rw[i0m h hp hd hv,i0m h hp hd hv,ih _ (n+1) hle (by omega)]
   .rw[e0A hd hv,e0A hd hv];rfl
def h0p (N D i:Nat)(l:List UInt8):Bool:=match s1 N D l 0 0 with | none=>false | some (x,_)=>decide (x=i)
def s0F (N D i k:Nat)(l:List UInt8):Bool:=match s1 N D l 0 0 with | none=>false | some (x,p)=>decide (x=i) && h0p N D k (l.drop p)
def g0x {N D:Nat}(h:N<D)(l:List UInt8):s1 N D l 0 0=if (b0P N D 0 1 l).1=true then (if (b0P N D 0 1 l).2.1=1 then (s1 N D (l.drop (b0P N D 0 1 l).2.2) 0 0).map (fun x=>(x.1+1,(b0P N D 0 1 l).2.2+x.2)) else some (0,(b0P N D 0 1 l).2.2)) else none:=by
 have e:=g0i N D l 0;rw[A9]at e;cases hd:(b0P N D 0 1 l).1
 .rw[e0B (by rw[e];exact hd)];rfl
 .rw[J2 rfl];by_cases hv:(b0P N D 0 1 l).2.1=1
  .have hle:=b0g (N:=N) (D:=D) (l:=l) (p:=0) (S4 _);rw[e,J8]at hle;rw[J2 hv,i0m h (S4 _) (by rw[e];exact hd) (by rw[e];exact hv),e,t0f h l.length _ _ (by omega) (by omega)];have:=p0V h (l:=l) (a:=(b0P N D 0 1 l).2.2) (by omega) l.length 0 0 (by omega) (by omega);rw[Ac]at this;rw[J8,this,Option.map_map]
   rfl
  .rw[U0 hv,e0A (by rw[e];exact hd) (by rw[e];exact hv),e,J8]
def k0l {N D:Nat}(h:N<D)(i:Nat)(l:List UInt8):h0p N D i l=b0C N D 0 1 (match i with | 0=>fun _=>false | i+1=>h0p N D i) (fun _=>decide (i=0)) l:=by
 unfold b0C;rw[h0p,g0x h];cases hd:(b0P N D 0 1 l).1
 .rfl
 .rw[J2 rfl,Ej];by_cases hv:(b0P N D 0 1 l).2.1=1
  .rw[J2 hv,J2 hv];cases i with
   | zero=>
    cases s1 N D (l.drop (b0P N D 0 1 l).2.2) 0 0 with
    | none=>rfl
    | some x=>simp
   | succ i=>
    show _=h0p N D i (l.drop (b0P N D 0 1 l).2.2)
    rw[h0p];cases s1 N D (l.drop (b0P N D 0 1 l).2.2) 0 0 with
    | none=>rfl
    | some x=>simp
  .rw[U0 hv,U0 hv];simp only[eq_comm]
def j0C {N D:Nat}(h:N<D)(i k:Nat)(l:List UInt8):s0F N D i k l=b0C N D 0 1 (match i with | 0=>fun _=>false | i+1=>s0F N D i k) (fun r=>decide (i=0) && h0p N D k r) l:=by
 unfold b0C;rw[s0F,g0x h];cases hd:(b0P N D 0 1 l).1
 .rfl
 .rw[J2 rfl,Ej];by_cases hv:(b0P N D 0 1 l).2.1=1
  .rw[J2 hv,J2 hv];cases i with
   | zero=>
    cases s1 N D (l.drop (b0P N D 0 1 l).2.2) 0 0 with
    | none=>rfl
    | some x=>simp
   | succ i=>
    show _=s0F N D i k (l.drop (b0P N D 0 1 l).2.2)
    rw[s0F];cases s1 N D (l.drop (b0P N D 0 1 l).2.2) 0 0 with
    | none=>rfl
    | some x=>simp[Ee]
  .rw[U0 hv,U0 hv];simp only[eq_comm]
def opn (N D:Nat):Nat->Nat->Nat
 | 0=>dlt
 | i+1=>cvo (chi (a0C N D)) (opn N D i)
def edn (N D i:Nat):Nat->Nat:=cvo (chi (a0i N D)) (opn N D i)
def g0g (f:Nat->Nat)(n:Nat):cvo f (fun _=>0) n=0:=by
 unfold cvo;rw[a0d (d:=fun _=>0) (fun i _=>Hl _)];exact a0B _
def j0f (f g h:Nat->Nat)(n:Nat):cvo f (cvo g h) n=cvo g (cvo f h) n:=by
 rw[<- b0F,<- b0F];exact a0M (fun s _=>g0h f g s) fun _ _=>rfl
def n0q (N D m:Nat):edn N D 0 m=chi (a0i N D) m:=by
 unfold edn opn;rw[g0h,l0Z]
def n0r (N D i m:Nat):edn N D (i+1) m=cvo (chi (a0C N D)) (edn N D i) m:=by
 unfold edn;rw[opn];exact j0f _ _ _ _
theorem e0q {N D:Nat}(h:N<D):∀ i n,cw n (h0p N D i)=cvo (edn N D i) pw2 n
 | 0,n=>by
  rw[a0E (Q:=b0C N D 0 1 (fun _=>false) (fun _=>true)) (fun l _=>k0l h 0 l),d0P h,a0M (f':=chi (a0C N D)) (g':=fun _=>0) (fun _ _=>rfl) (fun m _=>c0n m),g0g,J8];exact a0M (fun s _=>(n0q N D s).symm) fun m _=>j0e m
 | i+1,n=>by
  rw[a0E (Q:=b0C N D 0 1 (h0p N D i) (fun _=>false)) (fun l _=>k0l h (i+1) l),d0P h,a0M (f:=chi (a0i N D)) (f':=chi (a0i N D)) (g':=fun _=>0) (fun _ _=>rfl) (fun m _=>c0n m),g0g,Ac];rw[a0M (f':=chi (a0C N D)) (g':=cvo (edn N D i) pw2) (fun _ _=>rfl) (fun m _=>e0q h i m),<- b0F];exact a0M (fun s _=>(n0r N D i s).symm) fun _ _=>rfl
theorem l0U {N D:Nat}(h:N<D)(k:Nat):∀ i n,cw n (s0F N D i k)=cvo (edn N D i) (cvo (edn N D k) pw2) n
 | 0,n=>by
  rw[a0E (Q:=b0C N D 0 1 (fun _=>false) (h0p N D k)) (fun l _=>by rw[j0C h 0 k l];rfl),d0P h,a0M (f':=chi (a0C N D)) (g':=fun _=>0) (fun _ _=>rfl) (fun m _=>c0n m),g0g,J8];exact a0M (fun s _=>(n0q N D s).symm) fun m _=>e0q h k m
 | i+1,n=>by
  rw[a0E (Q:=b0C N D 0 1 (s0F N D i k) (fun _=>false)) (fun l _=>by rw[j0C h (i+1) k l];rfl),d0P h,a0M (f:=chi (a0i N D)) (f':=chi (a0i N D)) (g':=fun _=>0) (fun _ _=>rfl) (fun m _=>c0n m),g0g,Ac];rw[a0M (f':=chi (a0C N D)) (g':=cvo (edn N D i) (cvo (edn N D k) pw2)) (fun _ _=>rfl) (fun m _=>l0U h k i m),<- b0F];exact a0M (fun s _=>(n0r N D i s).symm) fun _ _=>rfl
end
end Go.Proofs.YtfkpfpobmobnbaaGreatDoor
