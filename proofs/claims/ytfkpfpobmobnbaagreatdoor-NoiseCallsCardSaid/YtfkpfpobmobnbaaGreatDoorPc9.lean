/- Texts that the proof rests on, merged: Lt, Gt0, Ol, Gd1, Gd2, Sw2, Nz0, Nz1, Cf, Fw, Fr1b, QC, LtP, RtW, Rt2, Rt3, Fr2, Fr4, Rt4, Rt5, Rt6, Rt7, Fac0, Gm0, Gn1, Cr0. -/
import Derived.Test.YtfkpfpobmobnbaaGreatDoorPc8
import Derived.Maps.RangeWalk
import Derived.Maps.StringElems
import Derived.Maps.OwnSet
import Derived.Deep.DeepCutAuto
import Derived.WalkLawsBesides
set_option linter.defProp false
set_option linter.unusedVariables false
set_option linter.unusedSimpArgs false
set_option linter.unusedSectionVars false
set_option maxRecDepth 100000
set_option maxHeartbeats 8000000
namespace Go.Proofs.YtfkpfpobmobnbaaGreatDoor
section
open Go.RowKit
open Go.Lib (decDigits nDigits)
def c1A (w:World)(H n:Nat)(v:Value)(l:List Nat):Prop:=∃ g,v=.slice (some ⟨g,0,none⟩) (n+1) (n+1)/\H<=g/\NRowT w g l
def f0k (two:Bool)(L:List Nat)(n:Nat):List Nat:=if two=true then k0P L n (n+1) else L
def a1x (w:World)(a:ByteArray)(n N D:Nat)(two:Bool)(ha:a.size<=100000)(he:gPE a=0)(hn:n<=256)(hN:bN (cW a)=N)(hD:bN (qD a)=D)(hND:N<D)(hL:Lay w)
 (hR:∀ i,i<=n->(f0k two (b0L (a0C N D) (a0i N D) n (n+1)).2 n).getD i 0*2 ^ (n-i)<=rIn (f0k two (b0L (a0C N D) (a0i N D) n (n+1)).2 n) n i):
 Calls Tryz.prog 142 #[.string a,.int .i64 n,.bool two] w fun e w'=>e=.returned (.tuple #[.string (c0u (qmk false (rIn (f0k two (b0L (a0C N D) (a0i N D) n (n+1)).2 n) n (n+1)) (2 ^ n))),.int .i64 0])/\Below w.heap.size w w':=by
 have HA:=hid (d0u w a ha hL);rw[U0 he,U0 he,he]at HA;have HT:=fun V hV=>hid (u0u V a n N D ha he (by omega) hN hD hND hV)
 have HRep:=fun V g h=>hid (f0X V g (n+1) ⟨#[48]⟩ (by omega) (by omega) h)
 have hLb:=p0v (os:=a0C N D) (zs:=a0i N D) rfl hn;obtain⟨L,hL0⟩:=gn ((b0L (a0C N D) (a0i N D) n (n+1)).2);have HLQ:=hid hL0;rw[hL0]at hLb hR |-;have HLb:=hid hLb;have hM:(f0k two L n).length=n+1/\∀ k,(f0k two L n).getD k 0<=2 ^ e7:=by
  unfold f0k
  split
  .have h:=CB.outer hLb.2 (n+1) (Z3 (n+1));exact⟨h.len,fun k=>i0j hn nr (h.up k)⟩
  .exact⟨hLb.1,fun k=>E0 (hLb.2 k) (Z4 (by omega) (by unfold e3 e7;omega))⟩
 obtain⟨M,hM0⟩:=gn (f0k two L n);have HMQ:=hid hM0;rw[hM0]at hM hR |-;obtain⟨HMb,HR⟩:=zg hM hR;have hmk:=v0C (a:=rIn M n (n+1)) (b:=2 ^ n) (a0b (k0e M n _) (by omega)) (a0b nr (by omega)) (by have:=Ej (n:=n) (show 0<2 by omega);omega);have hov:¬ ovQ (qmk false (rIn M n (n+1)) (2 ^ n)):=by
  have hd:0<2 ^ n:=Ej (by omega);unfold ovQ;rw[g0R hd,i0K hd,b0s];have h1:=a0r (Dx (rIn M n (n+1)) (Nat.gcd (rIn M n (n+1)) (2 ^ n)));have h2:=a0r (Dx (2 ^ n) (Nat.gcd (rIn M n (n+1)) (2 ^ n)));have h3:=a0b (k0e M n (n+1)) (by omega);have h4:=a0b (Z3 (2 ^ n)) (by omega);omega
 have HQM:=fun V hV=>hid (v0p V (a0g (rIn M n (n+1))) (a0g (2 ^ n)) (a0N (a0b (k0e M n _) (by omega))) (a0N (a0b nr (by omega))) hV)
 rw[hmk.1,hmk.2,q0q hov]at HQM;obtain⟨out,hout⟩:=gn (c0u (qmk false (rIn M n (n+1)) (2 ^ n)));rw[hout]at HQM |-;obtain⟨HLy,HLL,HN⟩:=zc hL hL.lt hn;have wn:IntKind.i64.wrap ((n:Int)+1)=((n+1:Nat):Int):=by rw[O0 _ ⟨by omega,by omega⟩];omega
 have q0:decide ((n:Int)<0)=false:=by simp
 have q1:decide ((256:Int)<(n:Int))=false:=by simp;omega
 have n256:(n:Int)<=256:=by omega
 clear ha he hn hN hD hND hL hR hLb hL0 hM hM0 hmk hov hout;go_enter Tryz.func142,Tryz.ntmps142;go_wp2_with fail;refine HA.out.mono ?_;rintro e w1 ⟨rfl,hb1⟩;have B1:=hid hb1;clear hb1 HA;go_wp2_with fail;refine (HT _ (HLy.out.call B1.out)).out.mono ?_;rintro e w2 ⟨⟨g11,rfl,h11,hr11⟩,hb2⟩;rw[HLQ.out]at hr11;obtain⟨R11,B2,K11⟩:=zc hr11 (a0a B1.out hb2) (show w.heap.size<=g11 from E0 B1.out.size h11);clear h11 hr11 hb2 HT
 go_upto_if 38 with fail
 go_cut [11] (fun s11 wx=>c1A wx w.heap.size n s11 M/\Below w.heap.size w wx)
 case first=>
  cases two
  .go_wp2_with fail
   go_meet
   exact⟨⟨g11,rfl,K11.out,by rw[<- HMQ.out];exact R11.out⟩,B2.out⟩
  .go_wp2_with fail;refine (HRep _ _ ((Blk.new w2 _ _).cell 0)).out.mono ?_;rintro e w3 ⟨rfl,hg8,hb3⟩;obtain⟨g12,h8⟩:=gn ((w2.alloc (.cells #[.string ⟨#[48]⟩] 23)).heap.size);rw[h8]at hg8 |-;have R12:=hid (NRowT.zeros hg8);have a2:=(J3 w2.heap.size w2).alloc nr (.cells #[.string ⟨#[48]⟩] 23);have b3:=hid (a0a a2 hb3);obtain⟨B3,R113,K12,NE⟩:=zd (a0a B2.out b3.out) (R11.out.call b3.out) (show w.heap.size<=g12 by rw[<- h8];have:=B2.out.size;simp;omega) (show g11≠g12 by have:=R11.out.lt;rw[<- h8];simp;omega);clear hg8 hb3 a2 h8 HRep b3;have hc0:=hid (show NRowT w3 g12 (k0P L n 0) from R12.out);go_wp2_with fail
   go_loopw [45] (fun ii wr=>∃ i:Nat,ii=.int .i64 (i:Nat)/\i<=n+1/\Hid (NRowT wr g12 (k0P L n i))/\Hid (NRowT wr g11 L)/\Hid (Below w.heap.size w wr)) (fun ii wr=>n+1-(intOf ii).toNat)
   case atStart=>exact⟨0,rfl,J5 _,hc0,R113,B3⟩
   case round=>
    obtain⟨i,rfl,hi,hg12,hg11,hB⟩:=hrel;by_cases hlt:i<n+1
    .have q5:decide ((i:Int)<((n+1:Nat):Int))=true:=by simp;omega
     have f0:(0:Int)<=(i:Int):=by omega
     have f1:(i:Int)<((n+1:Nat):Int):=by omega
     have f2:(i:Int)<=256:=by have:=HN.out;omega
     obtain⟨IL,CBI⟩:=zg hlt (CB.outer (n:=n) HLb.out.2 i hi);clear hi hlt;go_wp2_with fail;have d30:decide ((i:Int)<(n:Int)+1)=true:=by have:=IL.out;simp;omega
     try rw[d30]
     clear d30;obtain⟨wo,rfl⟩:∃ wo:World,wo=wr:=⟨_,rfl⟩;obtain⟨m0,hm0⟩:=gn (k0P L n i);have hnext:=hid (show k0P L n (i+1)=cIn L i (n+1-i) m0 from by rw[k0P,hm0]);rw[hm0]at hg12 CBI;clear hm0
     go_loopw [14] (fun jj wq=>∃ j:Nat,jj=.int .i64 (j:Nat)/\i+j<=n+1/\Hid (NRowT wq g12 (cIn L i j m0))/\Hid (NRowT wq g11 L)/\Hid (Below w.heap.size w wq)) (fun jj wq=>n+1-(intOf jj).toNat)
     case atStart=>exact⟨0,rfl,by have:=IL.out;omega,hg12,hg11,hB⟩
     case round=>
      clear hg12 hg11 hB;obtain⟨j,rfl,hj,hg12,hg11,hB⟩:=hrel;have CBJ:=hid (CB.inner CBI.out HLb.out.2 j hj);by_cases hlt:i+j<=n
      .have q6:decide ((i:Int)+(j:Int)<=(n:Int))=true:=by simp;omega
       have f5:(0:Int)<=(j:Int):=by omega
       have f6:(j:Int)<((n+1:Nat):Int):=by omega
       have f7:(j:Int)<=256:=by have:=HN.out;omega
       have f8:(i:Int)+(j:Int)<((n+1:Nat):Int):=by omega
       have f9:(i:Int)+(j:Int)<(n:Int)+1:=by omega
       have f10:(0:Int)<=(i:Int)+(j:Int):=by omega
       have f11:(j:Int)<(n:Int)+1:=by omega
       have HLT:=hid hlt;obtain⟨y,hy⟩:=gn ((cIn L i j m0).getD (i+j) 0);obtain⟨x1,hx1⟩:=gn (L.getD i 0);obtain⟨x2,hx2⟩:=gn (L.getD j 0);have b1:x1<=2 ^ e3:=hx1 ▸ HLb.out.2 i;have b2:x2<=2 ^ e3:=hx2 ▸ HLb.out.2 j;have tb:i*(n+1)+j+1<=(n+1)*(n+1):=by
        have h1:(i+1)*(n+1)<=(n+1)*(n+1):=H8 _ (by omega);rw[He]at h1;omega
       have by0:y<=2 ^ e7:=hy ▸ i0j HN.out (t:=i*(n+1)+j) (by omega) (CBJ.out.up (i+j));have bm:x1*x2<=2 ^ e7:=by
        have h1:=Aw b1 b2;rw[<- Dd]at h1;exact E0 h1 (Z4 (by omega) (by unfold e3 e7;omega))
       have bs:y+x1*x2<=2 ^ (e7+1):=by rw[M7];omega
       have e37:e3<=3000/\e7+1<=3000:=by unfold e3 e7;omega
       have P1:=fun V hV=>hid (g0U V x1 x2 (a0b b1 e37.1) (a0b b2 e37.1) (a0b bm (by omega)) hV)
       have P2:=fun V hV=>hid (f0x V y (x1*x2) (a0b by0 (by omega)) (a0b bm (by omega)) (a0b bs e37.2) hV)
       have t1:wr.cell? ⟨g12,i+j,none⟩=some (.string (a0g y)):=by rw[<- hy];exact hg12.out.cell (by rw[CBJ.out.len];have:=HLT.out;omega)
       have t2:wr.cell? ⟨g11,i,none⟩=some (.string (a0g x1)):=by rw[<- hx1];exact hg11.out.cell (by rw[HLb.out.1];exact IL.out)
       have t3:wr.cell? ⟨g11,j,none⟩=some (.string (a0g x2)):=by rw[<- hx2];exact hg11.out.cell (by rw[HLb.out.1];have:=HLT.out;omega)
       obtain⟨u1,hu1⟩:=gn (a0g y);obtain⟨u2,hu2⟩:=gn (a0g x1);obtain⟨u3,hu3⟩:=gn (a0g x2);obtain⟨u4,hu4⟩:=gn (a0g (x1*x2));obtain⟨u5,hu5⟩:=gn (a0g (y+x1*x2));rw[hu2,hu3,hu4]at P1;rw[hu1,hu4,hu5]at P2;rw[hu1]at t1;rw[hu2]at t2;rw[hu3]at t3;obtain⟨hstep,HU5⟩:=zg (show cIn L i (j+1) m0=(cIn L i j m0).set (i+j) (y+x1*x2) from by rw[cIn,l0Y,hy,hx1,hx2]) hu5;clear hy hx1 hx2 b1 b2 tb by0 bm bs e37 hu1 hu2 hu3 hu4 hu5 hlt hj;go_wp2_with fail;have ew:IntKind.i64.wrap ((i:Int)+(j:Int))=(i:Int)+(j:Int):=by rw[O0 _ ⟨by omega,by omega⟩]
       have et:((i:Int)+(j:Int)).toNat=i+j:=by omega
       refine b0b 20 2 [0,1,2,3,4,5,6,7,8,9,10,11,12,13,14,15,16,17] 2 (fun W'=>W'.cell? ⟨g12,i+j,none⟩=some (.string u1)/\W'.cell? ⟨g11,i,none⟩=some (.string u2)/\W'.cell? ⟨g11,j,none⟩=some (.string u3)) (by kernel_rfl) rfl (by kernel_rfl) (by kernel_rfl) (by kernel_rfl) (by kernel_rfl) ⟨t1,t2,t3⟩ ?_
       iterate 18
        refine⟨_,rfl,?_⟩;apply Exists.intro
        refine⟨.inl ⟨by rfl,?_⟩,?_⟩
        .rintro W' ⟨r1,r2,r3⟩;go_simp;try with_reducible rfl
        go_frame
       refine a0c (i:=18) (by kernel_rfl) rfl rfl ?_;go_wp2_with fail;refine (P1 _ (HLy.out.below hB.out.drew HLL.out)).out.mono ?_;rintro e w5 ⟨rfl,hbc⟩;have C5:=hid (show Below wr.heap.size wr w5 from br0.drew.trans hbc);obtain⟨E5,F5,EB5⟩:=zc (hg12.out.call C5.out) (hg11.out.call C5.out) (hB.out.trans (C5.out.mono hB.out.size));have s1:=(C5.out.cell (a0e t1)).trans t1;have s2:=(C5.out.cell (a0e t2)).trans t2;have s3:=(C5.out.cell (a0e t3)).trans t3;clear hbc t1 t2 t3;go_wp2_with fail;refine⟨⟨s1,s2,s3⟩,?_⟩;refine a0c (i:=19) (by kernel_rfl) rfl rfl ?_;go_wp2_with fail;refine (P2 _ (HLy.out.below EB5.out HLL.out)).out.mono ?_;rintro e w6 ⟨rfl,hbc⟩;obtain⟨E6,F6,EB6⟩:=zc (E5.out.call hbc) (F5.out.call hbc) (EB5.out.trans (hbc.mono EB5.out.size));have v1:=(hbc.cell (a0e s1)).trans s1;have v2:=(hbc.cell (a0e s2)).trans s2;have v3:=(hbc.cell (a0e s3)).trans s3;clear hbc s1 s2 s3;go_wp2_with fail;refine⟨⟨v1,v2,v3⟩,?_⟩;refine Z7 (by kernel_rfl) ?_ _;simp only[a0Z,b0K,Ab,A9];have fz:=E6.out.free (i+j);clear v2 v3;go_wp2_with fail
       try simp only[a0Z]
       go_roundw
       case rel=>
        refine⟨j+1,by go_num,by have:=HLT.out;omega,?_,F6.out.other (fun e=>NE.out e.symm) _,EB6.out.setCell K12.out _⟩;show NRowT _ _ _
        rw[hstep.out,<- HU5.out];exact E6.out.set (i+j) (y+x1*x2)
       case measure=>simp[intOf]<;>(have:=HLT.out;omega)
      .have q6:decide ((i:Int)+(j:Int)<=(n:Int))=false:=by simp;omega
       have e1:j=n+1-i:=by omega
       have f7:(j:Int)<=257:=by have:=HN.out;omega
       have f5:(0:Int)<=(j:Int):=by omega
       subst e1;clear hj hlt;go_wp2_with fail;go_roundw
       case rel=>exact⟨i+1,by go_num,by have:=IL.out;omega,by rw[hnext.out];exact hg12,hg11,hB⟩
       case measure=>simp[intOf]<;>(have:=IL.out;omega)
    .have q5:decide ((i:Int)<((n+1:Nat):Int))=false:=by simp;omega
     have e1:i=n+1:=by omega
     subst e1;go_wp2_with fail
     go_meet
     exact⟨⟨g12,rfl,K12.out,by rw[<- HMQ.out];exact hg12.out⟩,hB.out⟩
 case rest=>
  obtain⟨⟨g,rfl,hg,hrow⟩,hB⟩:=hcut;obtain⟨RG,B3⟩:=zg hrow hB;have HPow:=fun V k (hk:k<=256) hV=>hid (j0k V k (by omega) hV)
  clear hrow hg hB;go_wp2_with fail;refine (HPow _ n HN.out (HLy.out.call B3.out)).out.mono ?_;rintro e w4 ⟨rfl,hb4⟩;obtain⟨RG4,B4⟩:=zg (RG.out.call hb4) (a0a B3.out hb4);clear hb4;go_wp2_with fail
  go_loopw [15,82] (fun rr ii wr=>∃ i:Nat,ii=.int .i64 (i:Nat)/\i<=n+1/\rr=.string (a0g (rIn M n i))/\Hid (NRowT wr g M)/\Hid (Below w.heap.size w wr)) (fun rr ii wr=>n+1-(intOf ii).toNat)
  case atStart=>exact⟨0,rfl,J5 _,rfl,RG4,B4⟩
  case round=>
   obtain⟨i,rfl,hi,rfl,hrow,hB⟩:=hrel;by_cases hlt:i<n+1
   .have q5:decide ((i:Int)<((n+1:Nat):Int))=true:=by simp;omega
    have f0:(0:Int)<=(i:Int):=by omega
    have f1:(i:Int)<((n+1:Nat):Int):=by omega
    have f2:(i:Int)<=256:=by have:=HN.out;omega
    have w1':IntKind.i64.wrap ((n:Int)-(i:Int))=((n-i:Nat):Int):=by rw[O0 _ ⟨by omega,by omega⟩];omega
    have IL:=hid hlt;obtain⟨x,hx⟩:=gn (M.getD i 0);have t1:wr.cell? ⟨g,i,none⟩=some (.string (a0g x)):=by rw[<- hx];exact hrow.out.cell (by rw[HMb.out.1];exact IL.out)
    have bx:x<=2 ^ e7:=hx ▸ HMb.out.2 i;have hle:x*2 ^ (n-i)<=rIn M n i:=hx ▸ HR.out i (by omega);have hnx:=hid (show rIn M n (i+1)=rIn M n i-x*2 ^ (n-i) from by rw[rIn,hx]);have br:=k0e M n i;obtain⟨r,hr⟩:=gn (rIn M n i);rw[hr]at hle hnx br |-;have P1:=fun V hV=>hid (g0U V x (2 ^ (n-i)) (a0b bx (by unfold e7;omega)) (a0b nr (by omega)) (a0b (E0 hle br) (by have:=HN.out;omega)) hV)
    have P2:=fun V hV=>hid (x0h V r (x*2 ^ (n-i)) (a0b br (by have:=HN.out;omega)) (a0b (E0 hle br) (by have:=HN.out;omega)) hle hV)
    have P0:=fun V hV=>(HPow V (n-i) (by have:=HN.out;omega) hV)
    obtain⟨u1,hu1⟩:=gn (a0g x);obtain⟨u2,hu2⟩:=gn (a0g (2 ^ (n-i)));obtain⟨u3,hu3⟩:=gn (a0g (x*2 ^ (n-i)));obtain⟨u4,hu4⟩:=gn (a0g r);obtain⟨u5,hu5⟩:=gn (a0g (r-x*2 ^ (n-i)));rw[hu2]at P0;rw[hu1,hu2,hu3]at P1;rw[hu3,hu4,hu5]at P2;rw[hu1]at t1;rw[hu4];have HU5:=hid hu5;clear hx bx hle br hr hu1 hu2 hu3 hu4 hu5 hi hlt HPow;go_wp2_with fail;refine (P0 _ (HLy.out.below hB.out HLL.out)).out.mono ?_;rintro e w5 ⟨rfl,hb5⟩;obtain⟨R5,B5⟩:=zg (hrow.out.call hb5) (hB.out.trans (hb5.mono hB.out.size));clear hb5 t1;go_wp2_with fail;refine (P1 _ (HLy.out.below B5.out HLL.out)).out.mono ?_;rintro e w6 ⟨rfl,hb6⟩;obtain⟨R6,B6⟩:=zg (R5.out.call hb6) (B5.out.trans (hb6.mono B5.out.size));clear hb6;go_wp2_with fail;refine (P2 _ (HLy.out.below B6.out HLL.out)).out.mono ?_;rintro e w7 ⟨rfl,hb7⟩;obtain⟨R7,B7⟩:=zg (R6.out.call hb7) (B6.out.trans (hb7.mono B6.out.size));clear hb7 w1';go_wp2_with fail;go_roundw
    case rel=>exact⟨i+1,by go_num,by have:=IL.out;omega,by rw[hnx.out,HU5.out],R7,B7⟩
    case measure=>simp[intOf]<;>(have:=IL.out;omega)
   .have q5:decide ((i:Int)<((n+1:Nat):Int))=false:=by simp;omega
    have e1:i=n+1:=by omega
    subst e1;obtain⟨u1,hu1⟩:=gn (a0g (rIn M n (n+1)));obtain⟨u2,hu2⟩:=gn (a0g (2 ^ n));have P0:=fun V hV=>(HPow V n HN.out hV)
    rw[hu1,hu2]at HQM;rw[hu2]at P0;rw[hu1];clear hu1 hu2 HPow hi hlt;go_wp2_with fail;refine (P0 _ (HLy.out.below hB.out HLL.out)).out.mono ?_;rintro e w5 ⟨rfl,hb5⟩;have B5:=hid (hB.out.trans (hb5.mono hB.out.size));clear hb5;go_wp2_with fail;refine (HQM _ (HLy.out.below B5.out HLL.out)).out.mono ?_;rintro e w6 ⟨rfl,hb6⟩;have B6:=hid (B5.out.trans (hb6.mono B5.out.size));clear hb6;go_wp2_with fail;go_ret2
    exact⟨rfl,B6.out⟩
end
section
open Go.RowKit
def drT (N D:Nat)(two:Bool)(l:List UInt8):Bool×Int×Int:=if two=true then y0Y N D l else b1n N D l
def a1M {N D:Nat}(h:N<D)(two:Bool)(l:List UInt8):∃ u:Nat,u<=l.length/\((h0K N D two l=none/\drT N D two l=(false,0,(u:Int)))\/(∃ v:Int,-(l.length:Int)<=v/\v<=l.length/\h0K N D two l=some v/\drT N D two l=(true,v,(u:Int)))):=by
 have hb:=fun v hv=>i0s h (two:=two) (l:=l) (v:=v) hv
 unfold h0K at hb;unfold h0K drT b1n y0Y;cases hs:s1 N D l 0 0 with
 | none=>exact⟨l.length,Z3 _,.inl ⟨rfl,by cases two<;>rfl⟩⟩
 | some xp=>
  obtain⟨x,p⟩:=xp;obtain⟨b1,b2⟩:=l0i h hs;rw[hs]at hb;cases two
  .exact⟨p,b1,.inr ⟨x,(hb _ rfl).1,(hb _ rfl).2,rfl,rfl⟩⟩
  .simp only[Fp]at hb |-;have hd:=l0h h (l:=l) (a:=p) b1 l.length 0 0 (by omega) (by omega);rw[Ao]at hd;rw[hd];cases hs2:s1 N D (l.drop p) 0 0 with
   | none=>exact⟨l.length,Z3 _,.inl ⟨rfl,rfl⟩⟩
   | some yq=>
    obtain⟨y,q⟩:=yq;obtain⟨b3,b4⟩:=l0i h hs2;rw[S9]at b3;rw[hs2]at hb;exact⟨p+q,by omega,.inr ⟨(x:Int)-(y:Int),(hb _ rfl).1,(hb _ rfl).2,rfl,rfl⟩⟩
def x0H {N D:Nat}(h:N<D)(two:Bool)(n:Nat):rIn (f0k two (b0L (a0C N D) (a0i N D) n (n+1)).2 n) n (n+1)=gL N D two n/\∀ i,i<=n->(f0k two (b0L (a0C N D) (a0i N D) n (n+1)).2 n).getD i 0*2 ^ (n-i)<=rIn (f0k two (b0L (a0C N D) (a0i N D) n (n+1)).2 n) n i:=by
 have hs:a0n (fun i=>(f0k two (b0L (a0C N D) (a0i N D) n (n+1)).2 n).getD i 0*2 ^ (n-i)) (n+1)=if two=true then cw n (d0x N D) else cw n (f0E N D):=by
  cases two
  .exact i0v h n (Z3 n)
  .rw[U0 rfl,<- m0m h n (Z3 n)];unfold f0k;rw[U0 rfl];refine a0d fun i hi=>?_
   rw[u0W (by omega)];rfl
 have hle:a0n (fun i=>(f0k two (b0L (a0C N D) (a0i N D) n (n+1)).2 n).getD i 0*2 ^ (n-i)) (n+1)<=2 ^ n:=by
  rw[hs];have h1:=k0L (d0x N D) n;have h2:=k0L (f0E N D) n
  split<;>omega
 refine⟨?_,z0A hle⟩;rw[l0j hle _ nr,hs];cases two
 .exact (v0Q N D n).symm
 .exact (r0G N D n).symm
open Go.Lib (decDigits nDigits)
def glE (a:ByteArray)(n:Int)(m:Int):Int:=if gPE a≠0 then gPE a else if n<0\/m<n then 2 else 0
def glB (a:ByteArray)(n:Int)(two:Bool):ByteArray:=if glE a n 256=0 then shB (gL (bN (cW a)) (bN (qD a)) two n.toNat) (2 ^ n.toNat) else ⟨#[]⟩
def x0V (w:World)(a:ByteArray)(n:Int)(two:Bool)(ha:a.size<=100000)(hL:Lay w):
 Calls Tryz.prog 142 #[.string a,.int .i64 n,.bool two] w fun e w'=>e=.returned (.tuple #[.string (glB a n two),.int .i64 (glE a n 256)])/\Below w.heap.size w w':=by
 by_cases he:gPE a=0
 focus
  by_cases hn:n<0\/256<n
  focus
   have e1:glE a n 256=2:=by unfold glE;rw[Q0 (by rw[he];simp),U0 hn]
   have e2:glB a n two=⟨#[]⟩:=by unfold glB;rw[Q0 (by rw[e1];decide)]
   rw[e1,e2];have HA:=hid (d0u w a ha hL);rw[U0 he,U0 he,he]at HA;obtain⟨b1,k1⟩:=gn (decide (n<0));obtain⟨b2,k2⟩:=gn (decide (256<n));have k3:(b1 || b2)=true:=by rw[<- k1,<- k2];simpa using hn
   clear ha hL he hn e1 e2;cases b1
   focus
    obtain rfl:b2=true:=by simpa using k3
    clear k3
   rotate_left
   focus
    clear k2 k3
  rotate_left 2
  .obtain⟨m,rfl⟩:∃ m:Nat,n=(m:Nat):=⟨n.toNat,by omega⟩;have e1:glE a (m:Nat) 256=0:=by unfold glE;rw[Q0 (by rw[he];simp),Q0 hn]
   have hND:=(b0S he).2;obtain⟨l1,l2⟩:=x0H hND two m;have:=a1x w a m _ _ two ha he (by omega) rfl rfl hND hL l2;rw[l1]at this;unfold glB;rw[U0 e1,e1];exact this
 rotate_left 2
 focus
  have e1:glE a n 256=gPE a:=by unfold glE;rw[U0 he]
  have e2:glB a n two=⟨#[]⟩:=by unfold glB;rw[Q0 (by rw[e1];exact he)]
  rw[e1,e2];have HA:=hid (d0u w a ha hL);rw[Q0 he,Q0 he]at HA;obtain⟨x,hx⟩:=gn (gPE a);rw[hx]at HA he |-;have x0:(x != 0)=true:=by simpa using he
  clear ha hL he hx e1 e2
 all_goals
  go_enter Tryz.func142,Tryz.ntmps142;go_wp2_with fail;refine HA.out.mono ?_;rintro e w1 ⟨rfl,hb1⟩;have B1:=hid hb1;clear hb1 HA;go_wp2_with fail;go_ret2
  exact⟨rfl,B1.out⟩
def o0H (w:World)(a:ByteArray)(n:Int)(ha:a.size<=100000)(hL:Lay w):
 Calls Tryz.prog 49 #[.string a,.int .i64 n] w fun e w'=>e=.returned (.tuple #[.string (glB a n true),.int .i64 (glE a n 256)])/\Below w.heap.size w w':=by
 have H:=hid (x0V w a n true ha hL);obtain⟨o,ho⟩:=gn (glB a n true);obtain⟨x,hx⟩:=gn (glE a n 256);rw[ho,hx]at H |-;clear ha hL ho hx;go_enter Tryz.func49,Tryz.ntmps49;go_wp2_with fail;refine H.out.mono ?_;rintro e w1 ⟨rfl,hb1⟩;have B1:=hid hb1;clear hb1;go_wp2_with fail;go_ret2
 exact⟨rfl,B1.out⟩
open Go.Sort Go.Shelf Go.Maps
def prL (N D:Nat)(two:Bool)(n:Nat)(vs:List Int):List (ByteArray×ByteArray):=vs.map fun v=>(zB v,shB (gV N D two n v) (2 ^ n))
def t0E (N D:Nat)(two:Bool)(n:Nat)(vs:List Int)(v:Int):prL N D two n (vs ++ [v])=prL N D two n vs ++ [(zB v,shB (gV N D two n v) (2 ^ n))]:=by simp[prL]
def t0g {n:Nat}{vs:List Int}(hn:vs.Nodup)(hb:∀ v∈vs,-(n:Int)<=v/\v<=n):vs.length<=2*n+1:=by
 have h:=f0W (fun _=>1) n vs hn hb;have h2:a0n (fun j=>if ((j:Int)-n)∈vs then 1 else 0) (2*n+1)<=a0n (fun _=>1) (2*n+1):=g0A fun j _=>by split<;>omega
 have h3:∀ m,a0n (fun _=>1) m=m:=fun m=>by
  induction m with
  | zero=>rfl
  | succ m ih=>rw[a0n,ih]
 have h4:∀ l:List Int,(l.map fun _=>1).sum=l.length:=fun l=>by
  induction l with
  | nil=>rfl
  | cons a r ih=>rw[Jr,List.sum_cons,ih,J7];omega
 rw[h3]at h2;rw[h4]at h;omega
def Nh:=@Go.cell_two_new
def l0I {H:Type}(w:World)(a:ByteArray)(n N D:Nat)(two:Bool)(ha:a.size<=100000)(he:gPE a=0)(hn:n<=32)(hN:bN (cW a)=N)(hD:bN (qD a)=D)(hND:N<D)(hL:Lay w):
 Calls Tryz.prog 162 #[.string a,.int .i64 n,.bool two] w fun e w'=>(∃ v,e=.returned (.tuple #[v,.int .i64 0])/\MRow w' v (a0B (glP (gV N D two n) (2 ^ n) n (gL N D two n))))/\Below w.heap.size w w':=by
 have HA:=hid (d0u w a ha hL);rw[U0 he,U0 he,he]at HA;have HLAW:∀ V,Lay V->Hid (Calls Tryz.prog 225 #[.string a,.int .i64 n,.bool two] V fun e w'=>(∃ B nn Dm,e=.returned (.map (some B))/\V.heap.size<=B/\nn<=3000000/\w'.ownsMap Tryz.prog 3 (plainElem (H:=H) Tryz.prog 23) B nn Dm/\ReadsI Dm (gV N D two n))/\Below V.heap.size V w'):=fun V hV=>by
  cases two
  .exact a1w V a n N D ha he hn hN hD hND hV
  .exact a1v V a n N D ha he hn hN hD hND hV
 have HPW:=fun V hV=>hid (j0k V n (by omega) hV)
 have HSL:Hid (∀ vs left,Seen (gV N D two n) n left vs->(vs.map (gV N D two n)).sum<=2 ^ n):=fun vs left h=>h.sum_le hND
 have HSA:Hid (∀ vs left,Seen (gV N D two n) n left vs->(∀ v,left v=false)->2 ^ n-(vs.map (gV N D two n)).sum=gL N D two n):=fun vs left h hl=>h.sum_all hND hl
 have HSP:Hid (∀ vs left,Seen (gV N D two n) n left vs->(∀ v,left v=false)->∀ r,((prL N D two n vs++if r=0 then [] else [(b0h,shB r (2 ^ n))]).map b0C).Nodup/\a0B (prL N D two n vs++if r=0 then [] else [(b0h,shB r (2 ^ n))])=a0B (glP (gV N D two n) (2 ^ n) n r)):=fun vs left h hl r=>h.pairs hND hl
 have HVS:Hid (∀ vs left,Seen (gV N D two n) n left vs->vs.length<=100):=fun vs left h=>by
  have h1:=t0g h.nd fun v hv=>by
   have h1:=((h.mem v).1 hv).1;rcases Fj v (-(n:Int)) with h2 | h2
   .exact absurd (d0n hND (.inl h2)) h1
   .rcases Fj (n:Int) v with h3 | h3
    .exact absurd (d0n hND (.inr h3)) h1
    .exact⟨h2,h3⟩
  omega
 have HOUT:Hid (∀ v,gV N D two n v≠0 -> -100<=v/\v<=100):=fun v h1=>by
  rcases Fj v (-(n:Int)) with h2 | h2
  .exact absurd (d0n hND (.inl h2)) h1
  .rcases Fj (n:Int) v with h3 | h3
   .exact absurd (d0n hND (.inr h3)) h1
   .omega
 have HGV:Hid (∀ v,gV N D two n v<=2 ^ n):=fun v=>l0J hND two n v
 have hpn:2 ^ n<=2 ^ 32:=Z4 (by omega) hn;have dT:=a0b hpn (by omega);have hT0:2 ^ n≠0:=Ob (Ej (by omega));have HMK:∀ x,x<=2 ^ n->∀ V,Lay V->Hid (Calls Tryz.prog 215 #[.string (a0g x),.string (a0g (2 ^ n))] V fun e w'=>e=.returned (.tuple #[.string (shB x (2 ^ n)),.int .i64 (c0J (qmk false x (2 ^ n)))])/\Below V.heap.size V w'):=fun x hx V hV=>x0g V x (2 ^ n) (a0b (i:=32) (by omega) (by omega)) dT hT0 hV
 have HSB:∀ x y,y<=x->x<=2 ^ n->∀ V,Lay V->Hid (Calls Tryz.prog 214 #[.string (a0g x),.string (a0g y)] V fun e w'=>e=.returned (.tuple #[.string (a0g (x-y)),.int .i64 0])/\Below V.heap.size V w'):=fun x y hy hx V hV=>x0h V x y (a0b (i:=32) (by omega) (by omega)) (a0b (i:=32) (by omega) (by omega)) hy hV
 obtain⟨HMK',HSB'⟩:=zg HMK HSB;obtain⟨cg,hcg⟩:=gn (gV N D two n);obtain⟨gl,hgl⟩:=gn (gL N D two n);obtain⟨pr,hpr⟩:=gn (prL N D two n);have HPR:Hid (∀ vs v,pr (vs ++ [v])=pr vs ++ [(zB v,shB (cg v) (2 ^ n))]):=fun vs v=>by rw[<- hpr,<- hcg];exact t0E N D two n vs v
 have HPL:Hid (∀ vs,(pr vs).length=vs.length):=fun vs=>by rw[<- hpr];unfold prL;rw[Aa]
 have HP0:Hid (pr [] = []):=by show pr [] = [];rw[<- hpr];rfl
 rw[hcg]at HSL HSA HSP HVS HOUT HGV;rw[hpr]at HSP;rw[hgl]at HSA;simp only[hcg]at HLAW;rw[hcg,hgl];obtain⟨T,hT⟩:=gn (2 ^ n);obtain⟨sT,hsT⟩:=gn (a0g T);rw[hT]at HPW HSL HSA HSP HGV HMK' HSB' HPR hT0 |-;rw[hsT]at HPW;simp only[hsT]at HMK';obtain⟨HST,HT0,HLy⟩:=zc hsT hT0 hL;have q0:decide ((n:Int)<0)=false:=by simp
 have q1:decide ((32:Int)<(n:Int))=false:=by simp;omega
 obtain⟨i0,hi,hz0,hz1,hz2⟩:=Cl e0N;clear ha he hn hN hD hND hL hcg hgl hpr hT hsT hpn dT hT0 HMK HSB;go_enter Tryz.func162,Tryz.ntmps162;go_wp2_with fail;refine HA.out.mono ?_;rintro e w1 ⟨rfl,hb1⟩;have B1:=hid hb1;clear hb1 HA;go_wp2_with fail;refine (HPW _ (HLy.out.call B1.out)).out.mono ?_;rintro e w2 ⟨rfl,hb2⟩;have B2:=hid (a0a B1.out hb2);clear hb2;go_wp2_with fail;refine (HLAW _ (HLy.out.call B2.out)).out.mono ?_;rintro e w3 ⟨⟨B,nn,Dm,rfl,hBs,hnn,hown,hR⟩,hb3⟩;obtain⟨B3,HR⟩:=zg (a0a B2.out hb3) hR;clear hb3 hBs hnn hR HLAW;go_wp2_with (first | (at_range;refine wpList_range_own _ rfl _ 211 rfl 3 23 (int_keyed U8) Jv _ B nn Dm rfl hown ?_;intro w4 hrg0 hg0 hs0) | go_in)
 go_frame
 have B4:Hid (Below w.heap.size w w4):=B3.out.trans ⟨hg0.os,hg0.tape,hg0.output,hg0.size,fun k hk=>hg0.block k (by have:=B3.out.size;omega) (by simp)⟩;obtain⟨r,hr⟩:=gn (w3.heap.size);rw[hr]at hrg0 |-;have Hr:Hid (w.heap.size<=r/\r<w4.heap.size/\B<w4.heap.size):=⟨by rw[<- hr];exact B3.out.size,hrg0.lt,hrg0.owns.lt⟩;have S0:Hid (Seen cg n (fun v=>Maps.has Dm (.int .i64 v)) []):=Seen.start fun v hv=>by rw[HR.out.has];simpa using hv
 have RG:=hid hrg0;clear hrg0 hg0 hs0 hown hr
 go_loopw [11,12] (fun s11 s12 wr=>∃ (left:Lit->Bool) (cnt:Nat) (vs:List Int),Hid (wr.ranges Tryz.prog 3 (plainElem Tryz.prog 23) B r nn Dm left cnt)/\Hid (Seen cg n (fun v=>left (.int .i64 v)) vs)/\s12=.string (a0g (T-(vs.map cg).sum))/\Hid (wr.ownsRow w4.heap.size 42 2 s11 vs.length (a0R (pr vs)))/\Hid (w4.heap.size<=wr.heap.size)/\Hid (Below w.heap.size w wr)) (fun s11 s12 wr=>wr.rangeLeft B r)
 case atStart=>exact⟨_,_,[],RG,S0,by simp[HST.out],hid (by rw[HP0.out];exact⟨rfl,.inl ⟨rfl,rfl⟩⟩),hid nr,B4⟩
 case round=>
  clear RG S0 B4;obtain⟨left,cnt,vs,hrg,hS,rfl,hO,hW,hBl⟩:=hrel;obtain⟨ar,cr,rfl⟩:=b0k hO.out
  go_wp2_with (first
   | (at_next;refine wpList_next_ranges_is _ rfl _ rfl 3 23 .i64 (int_keyed U8) U8 Gf B r nn _ _ _ rfl hrg.out ?_ ?_)
   | go_in)
  .intro _ hl0;have hl1:∀ v,(fun v=>left (.int .i64 v)) v=false:=fun v=>hl0 _
   have hrest:=HSA.out vs _ hS.out hl1;obtain⟨hnd,hsort⟩:=HSP.out vs _ hS.out hl1 gl;have hvl:=HVS.out vs _ hS.out;have hgT:gl<=T:=by omega
   rw[hrest];obtain⟨HND,HSO,HVL⟩:=zc hnd hsort hvl;have P1:=fun V hV=>HMK'.out gl hgT V hV
   obtain⟨L,hL⟩:=gn (pr vs);have hLl:=HPL.out vs;rw[hL]at hO HND HSO hLl;rw[<- hLl]at hO hvl |-;have hpos:0<(L++if gl=0 then [] else [(b0h,shB gl T)]).length:=by
    rw[J4]
    split
    .rename_i h0
     have:vs ≠ []:=fun e=>by subst e;simp at hrest;have:=HT0.out;omega
     have:=Ea.2 this;simp;omega
    .simp
   have HPOS:=hid hpos;clear hl0 hl1 hrest hnd hsort hS hrg hgT hL hLl hpos HVL;obtain⟨sg,hsg⟩:=gn (a0g gl);rw[hsg]at P1 |-;have HSG:=hid hsg;clear hsg;obtain⟨tb0,htb⟩:=gn ((sg.toList == [48]))
   go_upto_if 67 with fail
   have HTB:=hid htb;clear htb
   go_cut [11] (fun s11 wx=>∃ k,k=(L++if gl=0 then [] else [(b0h,shB gl T)]).length/\wx.ownsRow w4.heap.size 42 2 s11 k (a0R (L++if gl=0 then [] else [(b0h,shB gl T)]))/\w4.heap.size<=wx.heap.size/\Below w.heap.size w wx)
   case first=>
    by_cases h0:gl=0
    .have e1:L++(if gl=0 then [] else [(b0h,shB gl T)])=L:=by rw[U0 h0,Bw]
     have q3:(sg.toList == [48])=true:=by rw[<- HSG.out,h0,a0q];exact c0q
     obtain rfl:true=tb0:=by rw[<- HTB.out];exact q3.symm
     have HE1:=hid e1;clear h0 e1 q3;go_wp2_with fail
     go_meet
     exact⟨_,rfl,by rw[HE1.out];exact hO.out,hW.out,hBl.out⟩
    .have e1:L++(if gl=0 then [] else [(b0h,shB gl T)])=L ++ [(b0h,shB gl T)]:=by rw[Q0 h0]
     have q3:(sg.toList == [48])=false:=by rw[<- HSG.out];exact a0I (l:=[48]) (by rw[<- a0q];exact b0M h0)
     obtain rfl:false=tb0:=by rw[<- HTB.out];exact q3.symm
     have HE1:=hid e1;obtain⟨sh,hsh⟩:=gn (shB gl T);rw[hsh]at P1;have HSH:=hid hsh;clear hsh h0 e1 q3;go_wp2_with fail;refine (HPW _ (HLy.out.call hBl.out)).out.mono ?_;rintro e w5 ⟨rfl,hb5⟩;obtain⟨B5,O5,W5⟩:=zc (a0a hBl.out hb5) (a0T hO.out hb5) (E0 hW.out hb5.size);clear hb5;go_wp2_with fail;refine (P1 _ (HLy.out.call B5.out)).out.mono ?_;rintro e w6 ⟨rfl,hb6⟩;obtain⟨B6,O6,W6⟩:=zc (a0a B5.out hb6) (a0T O5.out hb6) (E0 W5.out hb6.size);clear hb6;have hw6:=W6.out;obtain⟨hr0,hr1,hr2⟩:=Hr.out;go_wp2_with (at_builtin;refine Bo _ rfl _ _ 37 rfl w4.heap.size 42 i0 (.agg #[.string ⟨#[]⟩,.string ⟨#[]⟩]) 2 32 Br hi hz0 hz1 hz2 rfl (by decide) _ L.length _ rfl (O6.out.alloc _) ⟨w6.heap.size,0,none⟩ 1 1 [.string ⟨#[108,97,116,101]⟩,.string sh] rfl rfl (Nh w6 (.string ⟨#[108,97,116,101]⟩) (.string sh) 42) (by simp[Value.oneCell']) (by unfold maxLen;omega) (by omega) (by simp;omega) ?_;intro v' w7 hown7 hgrow7 _)
     have O7:=hid hown7;have B7:Hid (Below w.heap.size w w7):=B6.out.trans (br0.alloc nr _ |>.mono (by have:=B6.out.size;omega) |>.trans ⟨hgrow7.os,hgrow7.tape,hgrow7.output,hgrow7.size,fun k hk=>hgrow7.block k (by have:=B6.out.size;simp;omega) (fun e=>by have:=(O6.out.lt k e.symm).1;omega)⟩);have W7:=hid (show w4.heap.size<=w7.heap.size by have:=hgrow7.size;simp at this;omega);clear hown7 hgrow7 hw6 hr0 hr1 hr2;go_wp2_with fail
     go_meet
     refine⟨_,rfl,?_,W7.out,B7.out⟩;rw[HE1.out,J4,b0m,HSH.out];exact O7.out
   case rest=>
    obtain⟨k,rfl,hOx,hWx,hBx⟩:=hcut;have HB:=hid hBx;obtain⟨d,hd⟩:=gn ((L++if gl=0 then [] else [(b0h,shB gl T)]));rw[hd]at hOx HND HSO HPOS;have hdl:d.length<=1000:=by rw[<- hd,J4];split<;>simp<;>omega
    rcases hOx.2 with ⟨_,h0⟩ | ⟨g,cap,cur,rfl,hgb,hg,h1,h2,h3,h4⟩
    .have:=HPOS.out;omega
    .have hSM:=l0g 226 g cap w4.heap.size d.toArray wc cur hgb hg (by simpa using h1) h2 h3 (by simpa[b0v]using h4) (by simp;omega) (by simpa using HND.out) (Cx Tryz.func226 (by kernel_rfl) rfl) (fun x y W=>x0U x y W);simp only[Ae]at hSM;have HSM:=hid hSM;clear hd hdl hSM hOx hWx hBx h1 h2 h3 h4 hg;go_wp2_with fail;refine HSM.out.mono ?_;rintro e w8 ⟨rfl,ho8,hb8⟩;have B8:Hid (Below w.heap.size w w8):=HB.out.trans (hb8.mono (by have:=Hr.out.1;have:=Hr.out.2.1;omega));have M8:=hid (MRow.of_owns ho8);clear ho8 hb8;go_wp2_with fail;go_ret2
     refine⟨⟨_,rfl,?_⟩,B8.out⟩;rw[<- HSO.out];exact M8.out
  .intro x c w5 cnt1 hwx hwc hlx hat hrg1 hlt hg1 hs1 hen;have hxc:cg x≠0:=by
    have h1:=has_true_of_atKey hat;rw[HR.out.has]at h1;simpa using h1
   have hcx:c=a0g (cg x):=by
    have h1:=(HR.out.look x hxc (.lit (.string []))).symm.trans (hat (.lit (.string [])));simp only[DataW.lit.injEq,Lit.string.injEq]at h1;exact (a0M h1).symm
   subst hcx;have hS1:=Seen.step (left':=fun v=>(fun z=>left z && !z.sameKey (.int .i64 x)) (.int .i64 v)) hS.out (x:=x) hlx hxc (fun v=>by simp only[l0f]);have hsum:=HSL.out _ _ hS1;have hsum1:((vs ++ [x]).map cg).sum=(vs.map cg).sum+cg x:=by simp
   rw[hsum1]at hsum;have hvl:=HVS.out _ _ hS1;rw[J4,E8]at hvl;have hxb:=HOUT.out x hxc;have P1:=fun V hV=>HMK'.out (cg x) (HGV.out x) V hV
   have P2:=fun V hV=>HSB'.out (T-(vs.map cg).sum) (cg x) (by omega) (by omega) V hV
   have PI:=fun V hV=>hid (w0D V x (by omega) (by omega) hV)
   have HNX:Hid (T-(vs.map cg).sum-cg x=T-((vs ++ [x]).map cg).sum):=by show _=_;rw[hsum1];omega
   have hb5:Below w.heap.size w w5:=hBl.out.trans ⟨hg1.os,hg1.tape,hg1.output,hg1.size,fun k hk=>hg1.block k (by have:=hBl.out.size;omega) (fun e=>by have:=Hr.out.1;injection e with e;omega)⟩;have hO5:w5.ownsRow w4.heap.size 42 2 (.slice ar vs.length cr) vs.length (a0R (pr vs)):=hO.out.kept hg1 (.inr fun e=>by have:=(hO.out.lt r e).1;have:=Hr.out.2.1;omega);obtain⟨B5,O5,RG1,HS1,HLT,W5,HRG⟩:=kq hb5 hO5 hrg1 hS1 hlt (show w4.heap.size<=w5.heap.size by have:=hW.out;omega) hrg.out;rw[HNX.out]at P2;obtain⟨s1,hs1'⟩:=gn (a0g (T-(vs.map cg).sum));obtain⟨s2,hs2⟩:=gn (a0g (cg x));obtain⟨s3,hs3⟩:=gn (a0g (T-((vs ++ [x]).map cg).sum));obtain⟨s4,hs4⟩:=gn (shB (cg x) T);obtain⟨s5,hs5⟩:=gn (zB x);rw[hs1',hs2,hs3]at P2;rw[hs2,hs4]at P1;rw[hs5]at PI;rw[hs2]at hen hwc;rw[hs1',hs2];obtain⟨HS3,HS4,HS5,HVL⟩:=zd hs3 hs4 hs5 hvl;clear hlx hat hrg1 hlt hg1 hs1 hxc hS1 hsum hsum1 hvl hxb hb5 hO5 hs1' hs2 hs3 hs4 hs5 hrg hS hO hW hBl;go_wp2_with fail;refine (HPW _ (HLy.out.call B5.out)).out.mono ?_;rintro e w6 ⟨rfl,hb6⟩;obtain⟨B6,O6,R6,W6⟩:=zd (a0a B5.out hb6) (a0T O5.out hb6) (RG1.out.kept (row:=none) ⟨hb6.os,hb6.tape,hb6.output,hb6.size,fun k hk _=>hb6.block k hk⟩ (by simp) (by simp)) (E0 W5.out hb6.size);clear hb6 hen;go_wp2_with fail;refine (P1 _ (HLy.out.call B6.out)).out.mono ?_;rintro e w7 ⟨rfl,hb7⟩;obtain⟨B7,O7,R7,W7⟩:=zd (a0a B6.out hb7) (a0T O6.out hb7) (R6.out.kept (row:=none) ⟨hb7.os,hb7.tape,hb7.output,hb7.size,fun k hk _=>hb7.block k hk⟩ (by simp) (by simp)) (E0 W6.out hb7.size);clear hb7;go_wp2_with fail;refine (PI _ (HLy.out.call B7.out)).out.mono ?_;rintro e w8 ⟨rfl,hb8⟩;obtain⟨B8,O8,R8,W8⟩:=zd (a0a B7.out hb8) (a0T O7.out hb8) (R7.out.kept (row:=none) ⟨hb8.os,hb8.tape,hb8.output,hb8.size,fun k hk _=>hb8.block k hk⟩ (by simp) (by simp)) (E0 W7.out hb8.size);clear hb8;have hw8:=W8.out;obtain⟨hr0,hr1,hr2⟩:=Hr.out;have hvl:=HVL.out;go_wp2_with (at_builtin;refine Bo _ rfl _ _ 37 rfl w4.heap.size 42 i0 (.agg #[.string ⟨#[]⟩,.string ⟨#[]⟩]) 2 32 Br hi hz0 hz1 hz2 rfl (by decide) _ vs.length _ rfl (O8.out.alloc _) ⟨w8.heap.size,0,none⟩ 1 1 [.string s5,.string s4] rfl rfl (Nh w8 (.string s5) (.string s4) 42) (by simp[Value.oneCell']) (by unfold maxLen;omega) (by omega) (by simp;omega) ?_;intro v' w9 hown9 hgrow9 _)
   have O9:=hid hown9;have B9:Hid (Below w.heap.size w w9):=B8.out.trans (br0.alloc nr _ |>.mono (by have:=B8.out.size;omega) |>.trans ⟨hgrow9.os,hgrow9.tape,hgrow9.output,hgrow9.size,fun k hk=>hgrow9.block k (by have:=B8.out.size;simp;omega) (fun e=>by have:=(O8.out.lt k e.symm).1;omega)⟩);obtain⟨R9,W9⟩:=zg ((R8.out.alloc (.cells #[.string s5,.string s4] 42)).kept hgrow9 (fun e=>by have:=(O8.out.lt B e.symm).1;omega) (fun e=>by have:=(O8.out.lt r e.symm).1;omega)) (show w4.heap.size<=w9.heap.size by have:=hgrow9.size;simp at this;omega);clear hown9 hgrow9 hw8 hr0 hr1 hr2 hvl;go_wp2_with fail;refine (P2 _ (HLy.out.call B9.out)).out.mono ?_;rintro e w10 ⟨rfl,hb10⟩;obtain⟨B10,O10,R10,W10⟩:=zd (a0a B9.out hb10) (a0T O9.out hb10) (R9.out.kept (row:=none) ⟨hb10.os,hb10.tape,hb10.output,hb10.size,fun k hk _=>hb10.block k hk⟩ (by simp) (by simp)) (E0 W9.out hb10.size);clear hb10;go_wp2_with fail;go_roundw
   case rel=>
    refine⟨_,cnt1,vs ++ [x],R10,HS1,by rw[HS3.out],hid ?_,W10,B10⟩;rw[J4,E8,HPR.out,b0m,HS4.out,HS5.out];exact O10.out
   case measure=>rw[R10.out.left_eq,HRG.out.left_eq];exact HLT.out
end
section
open Go.RowKit
open Go.Lib (decDigits nDigits)
def glR (a:ByteArray)(n:Int)(two:Bool):List (ByteArray×ByteArray):=if glE a n 32=0 then a0B (glP (gV (bN (cW a)) (bN (qD a)) two n.toNat) (2 ^ n.toNat) n.toNat (gL (bN (cW a)) (bN (qD a)) two n.toNat)) else []
def u0v (w:World)(a:ByteArray)(n:Int)(two:Bool)(ha:a.size<=100000)(hL:Lay w):
 Calls Tryz.prog 162 #[.string a,.int .i64 n,.bool two] w fun e w'=>(∃ v,e=.returned (.tuple #[v,.int .i64 (glE a n 32)])/\MRow w' v (glR a n two))/\Below w.heap.size w w':=by
 by_cases he:gPE a=0
 focus
  by_cases hn:n<0\/32<n
  focus
   have e1:glE a n 32=2:=by unfold glE;rw[Q0 (by rw[he];simp),U0 hn]
   have e2:glR a n two = []:=by unfold glR;rw[Q0 (by rw[e1];decide)]
   rw[e1,e2];have HA:=hid (d0u w a ha hL);rw[U0 he,U0 he,he]at HA;obtain⟨b1,k1⟩:=gn (decide (n<0));obtain⟨b2,k2⟩:=gn (decide (32<n));have k3:(b1 || b2)=true:=by rw[<- k1,<- k2];simpa using hn
   clear ha hL he hn e1 e2;cases b1
   focus
    obtain rfl:b2=true:=by simpa using k3
    clear k3
   rotate_left
   focus
    clear k2 k3
  rotate_left 2
  .obtain⟨m,rfl⟩:∃ m:Nat,n=(m:Nat):=⟨n.toNat,by omega⟩;have e1:glE a (m:Nat) 32=0:=by unfold glE;rw[Q0 (by rw[he];simp),Q0 hn]
   have hND:=(b0S he).2;have:=l0I (H:=Unit) w a m _ _ two ha he (by omega) rfl rfl hND hL;unfold glR;rw[U0 e1,e1,An];exact this
 rotate_left 2
 focus
  have e1:glE a n 32=gPE a:=by unfold glE;rw[U0 he]
  have e2:glR a n two = []:=by unfold glR;rw[Q0 (by rw[e1];exact he)]
  rw[e1,e2];have HA:=hid (d0u w a ha hL);rw[Q0 he,Q0 he]at HA;obtain⟨x,hx⟩:=gn (gPE a);rw[hx]at HA he |-;have x0:(x != 0)=true:=by simpa using he
  clear ha hL he hx e1 e2
 all_goals
  go_enter Tryz.func162,Tryz.ntmps162;go_wp2_with fail;refine HA.out.mono ?_;rintro e w1 ⟨rfl,hb1⟩;have B1:=hid hb1;clear hb1 HA;go_wp2_with fail;go_ret2
  exact⟨⟨_,rfl,MRow.nil _⟩,B1.out⟩
def n0j (w:World)(a:ByteArray)(n:Int)(ha:a.size<=100000)(hL:Lay w):
 Calls Tryz.prog 59 #[.string a,.int .i64 n] w fun e w'=>(∃ v,e=.returned (.tuple #[v,.int .i64 (glE a n 32)])/\MRow w' v (glR a n true))/\Below w.heap.size w w':=by
 have H:=hid (u0v w a n true ha hL);obtain⟨o,ho⟩:=gn (glR a n true);obtain⟨x,hx⟩:=gn (glE a n 32);rw[ho,hx]at H |-;clear ha hL ho hx;go_enter Tryz.func59,Tryz.ntmps59;go_wp2_with fail;refine H.out.mono ?_;rintro e w1 ⟨⟨v,rfl,hv⟩,hb1⟩;obtain⟨B1,V1⟩:=zg hb1 hv;clear hb1 hv;go_wp2_with fail;go_ret2
 exact⟨⟨_,rfl,V1.out⟩,B1.out⟩
noncomputable def kz (s:ByteArray):Option Int:=@dite _ (∃ v:Int,s=zB v) (Classical.propDecidable _) (fun h=>some (Classical.choose h)) (fun _=>none)
def a1r (v:Int):kz (zB v)=some v:=by
 unfold kz;have h:∃ x:Int,zB v=zB x:=⟨v,rfl⟩;rw[dif_pos h];exact congrArg some (g0s (Classical.choose_spec h)).symm
def r0f:kz b0h=none:=by
 unfold kz;rw[dif_neg];rintro⟨v,h⟩;exact g0r v (congrArg (fun b:ByteArray=>b.data.toList) h.symm)
noncomputable def chS (d:List (ByteArray×ByteArray)):List Int:=d.filterMap fun p=>kz p.1
def Lb:=@List.filterMap_append
def n0w {d:List (ByteArray×ByteArray)}{i:Nat}{p:ByteArray×ByteArray}(h:d[i]?=some p):chS (d.take (i+1))=chS (d.take i)++(kz p.1).toList:=by
 unfold chS;rw[Dr,h,Et,Lb]
 congr 1
def u0T {d:List (ByteArray×ByteArray)}{i:Nat}{p:ByteArray×ByteArray}(h:d[i]?=some p)(hp:kz p.1=none):chS (d.take (i+1))=chS (d.take i):=by
 rw[n0w h,hp,Option.toList_none,Bw]
def y0A {d:List (ByteArray×ByteArray)}{i:Nat}{p:ByteArray×ByteArray}{v:Int}(h:d[i]?=some p)(hp:kz p.1=some v):chS (d.take (i+1))=chS (d.take i) ++ [v]:=by
 rw[n0w h,hp];rfl
def Hd:=@List.length_filterMap_le
def o0Z (d:List (ByteArray×ByteArray)):(chS d).length<=d.length:=Hd _ _
def y0B (g:Int->Nat)(t n:Nat):(glM g t n).filterMap (fun p=>kz p.1)=chA g n:=by
 unfold glM chA chV;rw[List.filterMap_filterMap,List.filter_map,<- List.filterMap_eq_map,<- List.filterMap_eq_filter,List.filterMap_filterMap]
 congr 1
 funext j
 by_cases h:g ((j:Int)-n)=0
 .simp[h,Option.guard]
 .simp[h,Option.guard,a1r]
def s0o (g:Int->Nat)(t n r:Nat):(chS (a0B (glP g t n r))).Perm (chA g n):=by
 have h:(a0B (glP g t n r)).Perm (glP g t n r):=Gk _ _;refine (h.filterMap fun p=>kz p.1).trans ?_;unfold glP;rw[Lb,y0B];by_cases hr:r=0
 .rw[U0 hr];simp
 .rw[Q0 hr];simp[r0f]
def t0i (g:Int->Nat)(t n r:Nat):y0V g n (chS (a0B (glP g t n r))):=fun f hf=>by
 rw[w0G (s0o g t n r)];exact p0G hf n
def u0S {g:Int->Nat}{n r:Nat}{p:ByteArray×ByteArray}(h:p∈a0B (glP g (2 ^ n) n r)):(∃ v:Int,-(n:Int)<=v/\v<=n/\p.1=zB v/\kz p.1=some v/\p.2=dyB (g v) n)\/(p.1=b0h/\kz p.1=none):=by
 rw[c0e,f0m]at h;rcases h with ⟨v,h1,h2,-,rfl⟩ | ⟨-,rfl⟩
 .exact .inl ⟨v,h1,h2,rfl,a1r v,rfl⟩
 .exact .inr ⟨rfl,r0f⟩
def spB:ByteArray:=⟨#[32]⟩
def jnF (p:ByteArray):List Int->ByteArray
 | []=>p
 | x::r=>jnF ((p++spB)++zB x) r
def jn:List Int->ByteArray
 | []=>⟨#[]⟩
 | x::r=>jnF (zB x) r
def jnS (l:List Int):ByteArray:=if l = [] then ⟨#[]⟩ else jn l++spB
def u0m (p:ByteArray)(l:List Int)(x:Int):jnF p (l ++ [x])=(jnF p l++spB)++zB x:=by
 induction l generalizing p with
 | nil=>rfl
 | cons y r ih=>exact ih _
def j0b (l:List Int)(x:Int):jn (l ++ [x])=jnS l++zB x:=by
 cases l with
 | nil=>refine a0M ?_;simp[jn,jnS,jnF]
 | cons y r=>unfold jnS;rw[Q0 (by simp)];exact u0m _ _ _
def jl:List Int->List UInt8
 | []=>[]
 | x::r=>32::(Lib.itoa x++jl r)
def u0n (p:ByteArray)(l:List Int):(jnF p l).data.toList=p.data.toList++jl l:=by
 induction l generalizing p with
 | nil=>simp[jnF,jl]
 | cons x r ih=>
  rw[jnF,ih,jl];simp[spB,c0Z]
def h0f (x:Int)(r:List Int):(jn (x::r)).data.toList=Lib.itoa x++jl r:=by
 rw[jn,u0n,c0Z]
def r0o {x:Int}{b:UInt8}(h:b∈Lib.itoa x):b=45\/b∈decDigits x.natAbs:=by
 unfold Lib.itoa at h
 split at h
 .rcases Az.1 h with h | h
  .exact .inl h
  .exact .inr h
 .exact .inr (by rwa[show x.natAbs=x.toNat by omega])
def r0m {x:Int}{b:UInt8}(h1:b≠45)(h2:∀ n,b ∉ decDigits n):b ∉ Lib.itoa x:=fun h=>by
 rcases r0o h with h | h
 .exact h1 h
 .exact h2 _ h
def j0d (x:Int):(32:UInt8) ∉ Lib.itoa x:=r0m (by decide) fun n h=>absurd (b0l n 32 h) (by decide)
def v0I (x:Int):(108:UInt8) ∉ Lib.itoa x:=r0m (by decide) fun n h=>absurd (b0l n 108 h) (by decide)
theorem p0B:∀ {a b r s:List UInt8},(32:UInt8) ∉ a->(32:UInt8) ∉ b->(r = []\/∃ r',r=32::r')->(s = []\/∃ s',s=32::s')->a++r=b++s->a=b/\r=s
 | [],[],_,_,_,_,_,_,h=>⟨rfl,h⟩
 | [],y::b,r,s,_,hb,hr,_,h=>by
  exfalso
  rcases hr with rfl | ⟨r',rfl⟩
  .cases h
  .exact hb (Az.2 (.inl (Lz h).1))
 | x::a,[],r,s,ha,_,_,hs,h=>by
  exfalso
  rcases hs with rfl | ⟨s',rfl⟩
  .cases h
  .exact ha (Az.2 (.inl (Lz h).1.symm))
 | x::a,y::b,r,s,ha,hb,hr,hs,h=>by
  obtain⟨h1,h2⟩:=Lz h;obtain⟨e1,e2⟩:=p0B (fun m=>ha (Cd _ m)) (fun m=>hb (Cd _ m)) hr hs h2;exact⟨by rw[h1,e1],e2⟩
def j0c (l:List Int):jl l = []\/∃ r,jl l=32::r:=by
 cases l with
 | nil=>exact .inl rfl
 | cons x r=>exact .inr ⟨_,rfl⟩
def n0d {x y:Int}(h:Lib.itoa x=Lib.itoa y):x=y:=g0s (by unfold zB;rw[h])
theorem v0H:∀ {l m:List Int},jl l=jl m->l=m
 | [],[],_=>rfl
 | [],_::_,h=>by cases h
 | _::_,[],h=>by cases h
 | x::r,y::s,h=>by
  obtain⟨e1,e2⟩:=p0B (j0d x) (j0d y) (j0c r) (j0c s) (Lz h).2;rw[n0d e1,v0H e2]
def r0n (x:Int):Lib.itoa x ≠ []:=fun h=>by
 unfold Lib.itoa at h
 split at h
 .cases h
 .exact c0U x.toNat h
def v0G {l m:List Int}(h:jn l=jn m):l=m:=by
 have h:(jn l).data.toList=_:=congrArg (fun b:ByteArray=>b.data.toList) h;cases l with
 | nil=>
  cases m with
  | nil=>rfl
  | cons y s=>
   rw[h0f]at h;have:=(List.append_eq_nil_iff.1 h.symm).1;exact absurd this (r0n y)
 | cons x r=>
  cases m with
  | nil=>
   rw[h0f]at h;have:=(List.append_eq_nil_iff.1 h).1;exact absurd this (r0n x)
  | cons y s=>
   rw[h0f,h0f]at h;obtain⟨e1,e2⟩:=p0B (j0d x) (j0d y) (j0c r) (j0c s) h;rw[n0d e1,v0H e2]
theorem c1k:∀ l:List Int,(108:UInt8) ∉ jl l
 | []=>by simp[jl]
 | x::r=>by
  rw[jl];intro h;rcases Az.1 h with h | h
  .exact absurd h (by decide)
  .rcases Cu.1 h with h | h
   .exact v0I x h
   .exact c1k r h
def r0i (l:List Int):jn l≠b0h:=fun h=>by
 have h:(jn l).data.toList=_:=congrArg (fun b:ByteArray=>b.data.toList) h;have hm:(108:UInt8)∈b0h.data.toList:=by decide
 rw[<- h]at hm;cases l with
 | nil=>simp[jn]at hm
 | cons x r=>
  rw[h0f]at hm;rcases Cu.1 hm with h | h
  .exact v0I x h
  .exact c1k r h
def nzX (g:Int->Nat)(vs:List Int):List Int->List Int->Nat->List (List Int×Nat)
 | [],dn,x=>[(dn,x)]
 | c::cs,dn,x=>vs.flatMap fun v=>nzX g vs cs (dn ++ [c+v]) (x*g v)
def wN (g:Int->Nat):List Int->List Int->Nat
 | [],[]=>1
 | c::cs,y::ys=>g (y-c)*wN g cs ys
 | _,_=>0
theorem g0Y {g:Int->Nat}{vs:List Int}(hv:∀ v,v∈vs↔g v≠0):∀ {c dn:List Int} {x:Nat} {p:List Int×Nat},p∈nzX g vs c dn x ↔ ∃ ys,wN g c ys≠0/\p=(dn++ys,x*wN g c ys)
 | [],dn,x,p=>by
  rw[nzX,Co]
  constructor
  .rintro rfl;exact⟨[],by simp[wN],by simp[wN]⟩
  .rintro⟨ys,h1,rfl⟩;cases ys with
   | nil=>simp[wN]
   | cons y ys=>exact absurd rfl h1
 | c::cs,dn,x,p=>by
  rw[nzX,Io]
  constructor
  .rintro⟨v,h1,h2⟩;obtain⟨ys,h3,rfl⟩:=(g0Y hv).1 h2;refine⟨(c+v)::ys,?_,?_⟩
   .rw[wN,show c+v-c=v by omega];exact Nat.mul_ne_zero ((hv v).1 h1) h3
   .rw[wN,show c+v-c=v by omega,G8];simp
  .rintro⟨ys,h1,rfl⟩;cases ys with
   | nil=>exact absurd rfl h1
   | cons y ys=>
    rw[wN]at h1;refine⟨y-c,(hv _).2 (Nat.ne_zero_of_mul_ne_zero_left h1),(g0Y hv).2 ⟨ys,Nat.ne_zero_of_mul_ne_zero_right h1,?_⟩⟩;rw[wN,show c+(y-c)=y by omega,G8];simp
theorem l0x {g:Int->Nat}{vs:List Int}:∀ {c dn:List Int} {x:Nat} {p:List Int×Nat},p∈nzX g vs c dn x->∃ ys,p.1=dn++ys
 | [],dn,x,p,h=>by
  rw[nzX,Co]at h;subst h;exact⟨[],by simp⟩
 | c::cs,dn,x,p,h=>by
  rw[nzX,Io]at h;obtain⟨v,-,h2⟩:=h;obtain⟨ys,e⟩:=l0x h2;exact⟨(c+v)::ys,by rw[e];simp⟩
def Kn:=@List.Pairwise.imp
theorem q0E {g:Int->Nat}{vs:List Int}(nd:vs.Nodup):∀ (c dn:List Int) (x:Nat),(nzX g vs c dn x).Pairwise (fun p q=>p.1≠q.1)
 | [],dn,x=>by simp[nzX]
 | c::cs,dn,x=>by
  rw[nzX,List.pairwise_flatMap];refine⟨fun v _=>q0E nd cs _ _,?_⟩;refine Kn ?_ nd;intro v w hvw p hp q hq e;obtain⟨ys,e1⟩:=l0x hp;obtain⟨zs,e2⟩:=l0x hq;rw[e1,e2,Ai,Ai]at e;have:=List.append_cancel_left e;simp at this;exact hvw this.1
theorem l0w (g:Int->Nat)(vs:List Int):∀ (c dn:List Int) (x:Nat),(nzX g vs c dn x).length=vs.length ^ c.length
 | [],dn,x=>rfl
 | c::cs,dn,x=>by
  rw[nzX,List.length_flatMap,List.map_congr_left (g:=fun _=>vs.length ^ cs.length) (fun v _=>l0w g vs cs _ _),J7,M7,E9,List.map_const',List.sum_replicate_nat]
def zA (c zs:List Int):List Int:=List.zipWith (· + ·) c zs
def zD (c d:List Int):List Int:=List.zipWith (· - ·) c d
theorem v0R {α β : Type}(f : α->List β)(h : β->Nat):∀ l:List α,((l.flatMap f).map h).sum=(l.map fun v=>((f v).map h).sum).sum
 | []=>rfl
 | v::r=>by simp[v0R f h r]
theorem q0D {g:Int->Nat}{n:Nat}{vs:List Int}(rv:y0V g n vs)(h:List Int->Nat->Nat)(h0:∀ ys,h ys 0=0):∀ (c dn:List Int) (x:Nat),((nzX g vs c dn x).map fun p=>h p.1 p.2).sum=vw n (List.replicate c.length z0T) (fun zs=>h (dn++zA c zs) (x*prW (List.replicate c.length g) zs))
 | [],dn,x=>by simp[nzX,vw,prW,zA]
 | c::cs,dn,x=>by
  have key:∀ v,((nzX g vs cs (dn ++ [c+v]) (x*g v)).map fun p=>h p.1 p.2).sum=_:=fun v=>q0D rv h h0 cs (dn ++ [c+v]) (x*g v)
  rw[nzX,v0R];show sV _ vs=_
  rw[rv _ (fun v hv=>by
   show ((nzX g vs cs (dn ++ [c+v]) (x*g v)).map fun p=>h p.1 p.2).sum=0
   rw[key,hv,e0q (G:=fun _=>0) (fun zs _ _=>by rw[Eu,Fi,h0]),p0l]),J7,Gg,vw]
  refine d0z fun v _ _=>?_
  rw[key];unfold z0T;rw[Ds];refine e0q fun zs _ _=>?_
  rw[Gg,prW,G8]
  congr 1
  simp[zA]
def x0s {g:Int->Nat}{n:Nat}{vs:List Int}(rv:y0V g n vs)(c dn:List Int)(x:Nat):((nzX g vs c dn x).map fun p=>p.2).sum=x*zS n g ^ c.length:=by
 rw[q0D rv (fun _ y=>y) (fun _=>rfl) c dn x,p0n]
 congr 1
 have:=q0k n (List.replicate c.length g);rw[Ff]at this;rw[<- this];have hp:∀ k,z0a n (List.replicate k g)=zS n g ^ k:=by
  intro k
  induction k with
  | zero=>rfl
  | succ k ih=>rw[Gg,q0l,ih,M7,E9]
 exact hp _
def w0g {g:Int->Nat}{n:Nat}(hg:∀ v:Int,v < -(n:Int)\/(n:Int)<v->g v=0)(v:Int):g v<=zS n g:=by
 by_cases h:v < -(n:Int)\/(n:Int)<v
 .rw[hg v h];exact J5 _
 .rw[<- w0h (n:=n) (x:=v) (by omega) (by omega) (g v)];refine b1p fun u _ _=>?_
  split
  .rename_i e;rw[e];exact Z3 _
  .exact J5 _
section
variable {g : Int -> Nat} {n : Nat} (hg : ∀ v : Int, v < -(n : Int) \/ (n : Int) < v -> g v = 0) (hz : zS n g <= 2 ^ n)
def nzR (g:Int->Nat)(n K:Nat):Nat:=2 ^ (n*K)-zS n g ^ K
def nzM (M:Nat)(p:List Int×Nat):ByteArray×ByteArray:=(jn p.1,dyB p.2 M)
def nyP (g:Int->Nat)(vs:List Int)(n:Nat)(c:List Int):List (ByteArray×ByteArray):=(nzX g vs c [] 1).map (nzM (n*c.length))++if nzR g n c.length=0 then [] else [(b0h,dyB (nzR g n c.length) (n*c.length))]
theorem v0t (g:Int->Nat)(n K:Nat):nzR g n K<=2 ^ (n*K):=Ki _ _
theorem l0X (hg:∀ v:Int,v < -(n:Int)\/(n:Int)<v->g v=0)(v:Int):v∈chA g n↔g v≠0:=by
 constructor
 .exact fun h=>(u0V h).2.2
 .intro h;have hb:¬(v < -(n:Int)\/(n:Int)<v):=fun hh=>h (hg v hh)
  exact s0n.2 ⟨(v+n).toNat,by omega,by omega,h⟩
theorem n0x (g:Int->Nat)(n:Nat):(chA g n).Nodup:=by
 unfold chA chV;refine List.Pairwise.filter _ ?_;rw[Km];refine Kn ?_ List.nodup_range;intro a b h e;exact h (by omega)
theorem q0H {vs:List Int}(hv:∀ v,v∈vs↔g v≠0){c:List Int}{p:ByteArray×ByteArray}:p∈nyP g vs n c↔(∃ ys,wN g c ys≠0/\p=(jn ys,dyB (wN g c ys) (n*c.length)))\/(nzR g n c.length≠0/\p=(b0h,dyB (nzR g n c.length) (n*c.length))):=by
 unfold nyP;rw[Cu,Cc];refine or_congr ?_ ?_
 .constructor
  .rintro⟨q,hq,rfl⟩;obtain⟨ys,h1,rfl⟩:=(g0Y hv).1 hq;exact⟨ys,h1,by simp[nzM]⟩
  .rintro⟨ys,h1,rfl⟩;exact⟨(ys,wN g c ys),(g0Y hv).2 ⟨ys,h1,by simp⟩,rfl⟩
 .split
  .rename_i h;simp[h]
  .rename_i h;simp[h]
theorem q0G {vs:List Int}(nd:vs.Nodup)(c:List Int):((nyP g vs n c).map b0C).Nodup:=by
 have h1:(((nzX g vs c [] 1).map (nzM (n*c.length))).map b0C).Nodup:=by
  rw[List.map_map];show List.Pairwise _ _
  rw[Km];refine Kn ?_ (q0E nd c [] 1);intro p q h e;exact h (v0G (a0M e))
 unfold nyP
 split
 .rw[Bw];exact h1
 .rw[Ak,Hc];refine⟨h1,by simp,?_⟩;intro a ha b hb e;rw[Cc]at ha;obtain⟨p,hp,rfl⟩:=ha;obtain⟨q,-,rfl⟩:=Cc.1 hp;simp at hb;subst hb;exact r0i _ (a0M e)
include hg
theorem t0O {vs:List Int}(hp:vs.Perm (chA g n))(c:List Int):a0B (nyP g vs n c)=a0B (nyP g (chA g n) n c):=
 d0D (q0G (hp.nodup_iff.2 (n0x g n)) c) (q0G (n0x g n) c) fun p=>by
  rw[q0H fun v=>(hp.mem_iff).trans (l0X hg v),q0H (l0X hg)]
omit hg in
include hz
end
open Go.Shelf
def e0Z (u:Int):Bool:=decide (u < -1125899906842624) || decide (1125899906842624<u)
def v0K (p:Int->Bool)(l:List Int):Int:=if l.any p=true then (l.findIdx p:Nat) else -1
def k0a (w:World)(v:Value)(l:List Int)(F:Nat)(p:Int->Bool)(hv:Row w v (zs l))(hl:l.length<=9223372036854775807)(hen:∀ args w,(callFunc F args).run Tryz.prog w=.ok (.enter F args) w)
 (hF:∀ W x,Calls Tryz.prog F #[.int .i64 x] W fun e w'=>e=.returned (.bool (p x))/\W=w'):
 Calls Tryz.prog 203 #[v,.func (.func F) #[] #[]] w fun e w'=>e=.returned (.int .i64 (v0K p l))/\w=w':=by
 obtain⟨a,c,rfl,q1,q2,q3⟩:=hv.openZ;obtain⟨n,hn⟩:=gn (l.length);rw[hn]at q1 hl |-;obtain⟨HN,Q3,HF⟩:=zc hn q3 hF;clear hv q3 hn hF;go_enter Tryz.func203,Tryz.ntmps203;go_wp2_with fail
 go_loop [8] (fun ii=>∃ i:Nat,ii=.int .i64 i/\i<=n/\Hid (∀ j x,j<i->l[j]?=some x->p x=false)) (fun ii=>n-(intOf ii).toNat)
 case atStart=>exact⟨0,rfl,J5 _,fun j x hj=>absurd hj (by omega)⟩
 case round=>
  obtain⟨i,rfl,hi,hI⟩:=hrel;by_cases hlt:i<n
  .obtain⟨x,hx⟩:∃ x,l[i]?=some x:=⟨_,J0 (by rw[HN.out];exact hlt)⟩;obtain⟨g,o,rfl,hg,hc⟩:=Q3.out i x hx;have HX:=hid hx;have b1:(0:Int)<=(i:Int):=by omega
   have b2:(i:Int)<(n:Int):=by omega
   have wi:IntKind.i64.wrap ((i:Int)+1)=((i+1:Nat):Int):=by rw[O0 _ ⟨by omega,by omega⟩];omega
   obtain⟨z,hz⟩:=gn (p x);have C:=fun W=>hid (hz ▸ HF.out W x)
   have HZ:=hid hz;clear hx hz;go_wp2_with fail;refine zx (C _) ?_;cases z
   .go_wp2_with fail;go_round
    case rel=>exact⟨i+1,by go_num,by omega,fun j y hj hy=>by
     rcases Cz j i with h | h
     .exact hI.out j y h hy
     .obtain rfl:j=i:=by omega
      rw[HX.out]at hy;cases hy;exact HZ.out⟩
    case measure=>simp[intOf]<;>omega
   .have hA:l.any p=true:=Gm.2 ⟨x,E7 HX.out,HZ.out⟩;have hfi:l.findIdx p=i:=by
     have hil:i<l.length:=by rw[HN.out];exact hlt
     rw[List.findIdx_eq hil];refine⟨?_,fun j hj=>?_⟩
     .have:=HX.out;rw[J0 hil]at this;rw[K9 this];exact HZ.out
     .exact hI.out j _ hj (J0 (Nat.lt_trans hj hil))
    have HE:=hid (show v0K p l=(i:Int) from by rw[v0K,U0 hA,hfi]);clear hA hfi;go_wp2_with fail;go_ret
    exact⟨by rw[HE.out];rfl,rfl⟩
  .obtain rfl:i=n:=by omega
   have hA:¬ l.any p=true:=fun h=>by
    obtain⟨x,hx,hp⟩:=Gm.1 h;obtain⟨j,hj⟩:=Da hx;have:=hI.out j x (by rw[<- HN.out];exact (O4.1 hj).1) hj;rw[this]at hp;cases hp
   have HE:=hid (show v0K p l = -1 from by rw[v0K,Q0 hA]);clear hA hlt;go_wp2_with fail;go_ret
   exact⟨by rw[HE.out];rfl,rfl⟩
def g0C (w:World)(v:Value)(l:List Int)(F:Nat)(p:Int->Bool)(hv:Row w v (zs l))(hl:l.length<=9223372036854775807)(hen:∀ args w,(callFunc F args).run Tryz.prog w=.ok (.enter F args) w)
 (hF:∀ W x,Calls Tryz.prog F #[.int .i64 x] W fun e w'=>e=.returned (.bool (p x))/\W=w'):
 Calls Tryz.prog 131 #[v,.func (.func F) #[] #[]] w fun e w'=>e=.returned (.bool (l.any p))/\w=w':=by
 have HI:=hid (k0a w v l F p hv hl hen hF)
 have HB:=hid (show decide (0<=v0K p l)=l.any p from by
  unfold v0K;cases h:l.any p
  .rw[Q0 (by simp)];rfl
  .rw[U0 rfl];simp)
 rw[<- HB.out];obtain⟨a,c,rfl,-⟩:=hv.openZ;generalize v0K p l=z at *
 clear hF hv;go_enter Tryz.func131,Tryz.ntmps131;go_wp2_with fail;refine zx HI ?_;go_wp2_with fail;go_ret
 exact⟨rfl,rfl⟩
end
section
open Go.RowKit
open Go.Lib (decDigits nDigits)
def u0w (a:ByteArray):gE a ⟨#[]⟩=gPE a:=by
 unfold gE
 split
 .rfl
 .rename_i h
  have:gPE a=0:=J8 h;rw[this];decide
def u0Q (s:ByteArray):c0t s=if j0E s≠0 then j0E s else if 256<s.size then 4 else 0:=by
 unfold c0t j0E
 split<;>rfl
def bsE:List ByteArray->Int
 | []=>0
 | s::r=>if c0t s≠0 then c0t s else bsE r
def wdE (l:List ByteArray)(m:Int):Int:=if (l.length:Int)=m then bsE l else 16
theorem i0p:∀ {l:List ByteArray} {i:Nat},(∀ (j:Nat) (b:ByteArray),j<i->l[j]?=some b->c0t b=0)->bsE l=bsE (l.drop i)
 | [],i,_=>by simp[bsE]
 | b::r,0,_=>rfl
 | b::r,i+1,h=>by
  have h1:=h 0 b (by omega) rfl;have h3:=i0p (l:=r) (i:=i) (fun j c hj hc=>h (j+1) c (by omega) (by simpa using hc));rw[bsE,Q0 (by simp[h1]),h3]
  rfl
theorem n0B:∀ {l:List ByteArray},bsE l=0 ↔ ∀ b∈l,c0t b=0
 | []=>by simp[bsE]
 | b::r=>by
  rw[bsE];by_cases h:c0t b=0
  .rw[Q0 (by simp[h]),n0B];simp[h]
  .rw[U0 h];simp[h]
def zE (c:List Int):Int:=if 256<c.length then 4 else if c.any e0Z=true then 2 else 0
def nz1 (two:Bool)(a:ByteArray)(n:Int)(b:ByteArray):Option Int:=let t:=if two=true then wT a b else oT a b;if t.1=true then some (n+t.2.1) else none
def nzO (two:Bool)(a:ByteArray):List Int->List ByteArray->Option (List Int)
 | c::cs,b::bs=>(nz1 two a c b).bind fun x=>(nzO two a cs bs).map (x :: ·)
 | _,_=>some []
theorem i0P {two:Bool}{a:ByteArray}:∀ {c:List Int} {b:List ByteArray} (k:Nat) (x:Int) (y:ByteArray),c[k]?=some x->b[k]?=some y->nz1 two a x y=none->nzO two a c b=none
 | c::cs,b::bs,0,x,y,h1,h2,h3=>by
  cases h1;cases h2
  rw[nzO,h3];rfl
 | c::cs,b::bs,k+1,x,y,h1,h2,h3=>by
  rw[nzO,i0P k x y (by simpa using h1) (by simpa using h2) h3];cases nz1 two a c b<;>rfl
theorem q0F {two:Bool}{a:ByteArray}:∀ {c:List Int} {b:List ByteArray} {l:List Int},c.length=b.length->l.length=c.length->(∀ (k:Nat) (x:Int) (y:ByteArray),c[k]?=some x->b[k]?=some y->nz1 two a x y=l[k]?)->nzO two a c b=some l
 | [],[],l,_,hl,_=>by rw[Ct.1 hl];rfl
 | c::cs,b::bs,[],_,hl,_=>by simp at hl
 | c::cs,b::bs,z::r,h1,hl,h=>by
  have h0:=h 0 c b rfl rfl;rw[nzO,h0,q0F (l:=r) (by simpa using h1) (by simpa using hl) (fun k x y hx hy=>by have:=h (k+1) x y (by simpa using hx) (by simpa using hy);simpa using this)]
  rfl
def b1U (w:World)(v:Value)(q:Rat)(h:IsQ .u64 w v q)(h0:q≠0):
 Calls Tryz.prog 158 #[v] w fun e w'=>j0C .u64 q⁻¹ e w'/\Below w.heap.size w w':=by
 obtain⟨N,D,rfl,hn,hd⟩:=h.ex;obtain⟨m,hm⟩:=gn (decide (q.num<0));obtain⟨HN,HD,HM,H0⟩:=zd hn hd hm h0;rw[hm];obtain⟨a1,c1,rfl,_⟩:=hn.openI;obtain⟨a2,c2,rfl,_⟩:=hd.openI;clear hn hd hm h0 h;go_enter Tryz.func158,Tryz.ntmps158;go_wp2_with fail;obtain⟨p1,p2,p3⟩:=h0h H0.out;have B:=((J3 w.heap.size w).alloc nr (.cells #[.bool m,.slice a1 (limbs q.num.natAbs).length c1,.slice a2 (limbs q.den).length c2] 126)).alloc (by simp) (.cells #[.bool m,.slice a2 (limbs q.den).length c2,.slice a1 (limbs q.num.natAbs).length c1] 126);refine J6 (v:=.agg #[.bool m,.slice a2 (limbs q.den).length c2,.slice a1 (limbs q.num.natAbs).length c1]) (by simp[results,Tryz.results158,go_sem]) rfl ⟨⟨_,rfl,⟨_,_,rfl.trans ?_,by rw[p2];exact HD.out.call B,by rw[p3];exact HN.out.call B⟩⟩,B⟩;rw[p1,HM.out]
def sgQ (q:Rat):Int:=if q.num=0 then 0 else if q.num<0 then -1 else 1
def t0d {q:Rat}(h:q.num=0):sgQ q=0:=U0 h
def w0C {q:Rat}(h:¬ q.num=0)(h2:q.num<0):sgQ q = -1:=by rw[sgQ,Q0 h,U0 h2]
def w0B {q:Rat}(h:¬ q.num=0)(h2:¬ q.num<0):sgQ q=1:=by rw[sgQ,Q0 h,Q0 h2]
def r0K (w:World)(v:Value)(q:Rat)(h:IsQ .u64 w v q):
 Calls Tryz.prog 157 #[v] w fun e w'=>e=.returned (.int .i64 (sgQ q))/\Below w.heap.size w w':=by
 obtain⟨N,D,rfl,hn,hd⟩:=h.ex;obtain⟨m,hm⟩:=gn (decide (q.num<0));obtain⟨HN,HM⟩:=zg hn hm;rw[hm];obtain⟨a1,c1,rfl,_⟩:=hn.openI;obtain⟨a2,c2,rfl,_⟩:=hd.openI;obtain⟨k1,hk1⟩:=gn ((limbs q.num.natAbs).length);obtain⟨k2,hk2⟩:=gn ((limbs q.den).length);rw[hk1]at HN |-;rw[hk2];have b0:=hid ((J3 w.heap.size w).alloc nr (.cells #[.bool m,.slice a1 k1 c1,.slice a2 k2 c2] 126));have N0:=hid (HN.out.call b0.out);clear hn hd hm h hk1 hk2;go_enter Tryz.func157,Tryz.ntmps157;go_wp2_with fail;refine zv (f0A _ _ _ N0.out) ?_;by_cases hz:q.num=0
 .have h1:isZ q.num.natAbs=true:=r0q.2 (by omega);rw[h1];have HZ:=hid hz;clear h1 hz;go_wp2_with fail;go_ret
  exact⟨a0Q (t0d HZ.out).symm,b0.out⟩
 .have h1:isZ q.num.natAbs=false:=I7 (by omega);rw[h1];have HZ:=hid hz;clear h1 hz;cases m
  .go_wp2_with fail;go_ret
   exact⟨a0Q (w0B HZ.out (Es HM.out)).symm,b0.out⟩
  .go_wp2_with fail;go_ret
   exact⟨a0Q (w0C HZ.out (Ax HM.out)).symm,b0.out⟩
def o0o {q:Rat}{m:Bool}(hm:decide (q.num<0)=m):decide ((-q).num<0)=(!m && !isZ q.num.natAbs)/\(-q).num.natAbs=q.num.natAbs/\(-q).den=q.den:=by
 refine⟨?_,by rw[It,Ik],Mm q⟩;rw[It,<- hm,Bc];unfold isZ;simp only[I9,Au,S5,F9];omega
def b1S (w:World)(v:Value)(q:Rat)(h:IsQ .u64 w v q):
 Calls Tryz.prog 229 #[v] w fun e w'=>j0C .u64 (-q) e w'/\Below w.heap.size w w':=by
 obtain⟨N,D,rfl,hn,hd⟩:=h.ex;obtain⟨m,hm⟩:=gn (decide (q.num<0));obtain⟨HN,HD,HP⟩:=zc hn hd (o0o hm);rw[hm];obtain⟨a1,c1,rfl,_⟩:=hn.openI;obtain⟨a2,c2,rfl,_⟩:=hd.openI;obtain⟨k1,hk1⟩:=gn ((limbs q.num.natAbs).length);obtain⟨k2,hk2⟩:=gn ((limbs q.den).length);rw[hk1]at HN |-;rw[hk2]at HD |-;have HZ:=fun W h=>hid (f0A W (.slice a1 k1 c1) q.num.natAbs h)
 obtain⟨z,hz⟩:=gn (isZ q.num.natAbs);rw[hz]at HP HZ;clear hn hd hm h hk1 hk2 hz;have b1:=hid (((J3 w.heap.size w).alloc nr (.cells #[.bool m,.slice a1 k1 c1,.slice a2 k2 c2] 126)).alloc (by simp) (.cells #[.bool false,.slice none 0 0,.slice none 0 0] 126));cases m
 .go_enter Tryz.func229,Tryz.ntmps229;go_wp2_with fail;refine g0H 14 (by kernel_rfl) (by kernel_rfl) ?_;simp only[Gi,Gy,Ab,A9]
  iterate 6 still_step
  still_call ((HZ _ (HN.out.call b1.out.drew)).out.mono fun _ _ h=>⟨h.1,h.2.symm⟩)
  iterate 7 still_step
  refine wpStill_nil ?_;go_wp2_with fail;have b2:=(((J3 w.heap.size w).alloc nr (.cells #[.bool false,.slice a1 k1 c1,.slice a2 k2 c2] 126)).alloc (by simp) (.cells #[.bool (!z),.slice a1 k1 c1,.slice a2 k2 c2] 126)).drew;obtain⟨p1,p2,p3⟩:=HP.out;refine J6 (v:=.agg #[.bool (!z),.slice a1 k1 c1,.slice a2 k2 c2]) (by simp[results,Tryz.results229,go_sem]) rfl ⟨⟨_,rfl,⟨.slice a1 k1 c1,.slice a2 k2 c2,?_,?_,?_⟩⟩,b2⟩
  .rw[p1];rfl
  .rw[p2];exact HN.out.call b2
  .rw[p3];exact HD.out.call b2
 .go_enter Tryz.func229,Tryz.ntmps229;go_wp2_with fail;refine g0H 14 (by kernel_rfl) (by kernel_rfl) ?_;simp only[Gi,Gy,Ab,A9]
  iterate 14 still_step
  refine wpStill_nil ?_;go_wp2_with fail;have b2:=(((J3 w.heap.size w).alloc nr (.cells #[.bool true,.slice a1 k1 c1,.slice a2 k2 c2] 126)).alloc (by simp) (.cells #[.bool false,.slice a1 k1 c1,.slice a2 k2 c2] 126)).drew;obtain⟨p1,p2,p3⟩:=HP.out;refine J6 (v:=.agg #[.bool false,.slice a1 k1 c1,.slice a2 k2 c2]) (by simp[results,Tryz.results229,go_sem]) rfl ⟨⟨_,rfl,⟨.slice a1 k1 c1,.slice a2 k2 c2,?_,?_,?_⟩⟩,b2⟩
  .rw[p1];rfl
  .rw[p2];exact HN.out.call b2
  .rw[p3];exact HD.out.call b2
end
section
open Go.RowKit
def cmF (p q:Rat):Int:=if sgQ p≠sgQ q then sgQ p-sgQ q else if p.num<0 then -b0e (p.num.natAbs*q.den) (q.num.natAbs*p.den) else b0e (p.num.natAbs*q.den) (q.num.natAbs*p.den)
def j0Y {q:Rat}{d:Nat}(hd:0<d):sgQ q=p0e (q.num*(d:Int)):=by
 have hd':(0:Int)<(d:Int):=by omega
 unfold sgQ p0e;by_cases h0:q.num=0
 .rw[U0 h0,h0,Int.zero_mul,U0 rfl]
 .rw[Q0 h0];have hne:q.num*(d:Int)≠0:=Int.mul_ne_zero h0 (by omega);rw[Q0 hne];by_cases h1:q.num<0
  .rw[U0 h1,U0 (Int.mul_neg_of_neg_of_pos h1 hd')]
  .rw[Q0 h1,Q0 (by have:=Int.mul_pos (a:=q.num) (b:=(d:Int)) (by omega) hd';omega)]
def s0m {P Q:Int}{a b:Nat}(ha:P.natAbs=a)(hb:Q.natAbs=b):
 max (-1) (min 1 (if p0e P≠p0e Q then p0e P-p0e Q else if P<0 then -b0e a b else b0e a b))=p0e (P-Q):=by
 unfold p0e b0e
 split<;>(repeat' split)<;>omega
def Jw:=@Int.natAbs_natCast
def s0l (p q:Rat):max (-1) (min 1 (cmF p q))=m0Q p q:=by
 have e1:m0Q p q=p0e (p.num*q.den-q.num*p.den):=by
  have h:=x0m (a:=p.num) (b:=p.den) (c:=q.num) (d:=q.den) p.den_nz q.den_nz;rw[Kr,Kr]at h;exact h
 have h1:=j0Y (q:=p) (d:=q.den) q.den_pos;have h2:=j0Y (q:=q) (d:=p.den) p.den_pos;have hP:(p.num*(q.den:Int)).natAbs=p.num.natAbs*q.den:=by rw[Int.natAbs_mul,Jw]
 have hQ:(q.num*(p.den:Int)).natAbs=q.num.natAbs*p.den:=by rw[Int.natAbs_mul,Jw]
 have hs:p.num<0↔p.num*(q.den:Int)<0:=by
  have hd:(0:Int)<(q.den:Int):=by have:=q.den_pos;omega
  constructor
  .intro h;exact Int.mul_neg_of_neg_of_pos h hd
  .intro h;rcases Fj p.num 0 with h' | h'
   .exact h'
   .exact absurd (Int.mul_nonneg h' (Int.le_of_lt hd)) (by omega)
 rw[e1,<- s0m hP hQ,<- h1,<- h2];unfold cmF;simp only[hs]
open Go.Lib (decDigits nDigits)
def mnB (s t:ByteArray):ByteArray:=if cmE s t=0 then (if 0<cmB s t then t else s) else ⟨#[]⟩
def k0O (s t:ByteArray):cmB s t = -1\/cmB s t=0\/cmB s t=1:=by
 unfold cmB m0Q s0J
 split
 .split
  .simp
  .split<;>simp
 .simp
open Go.Shelf
def wB (R:ByteArray)(s:ByteArray):ByteArray:=if qE s=0 then R else ⟨#[]⟩
def wE (x:Int)(s:ByteArray):Int:=if qE s=0 then x else qE s
def v0J {w:World}{v:Value}{s:ByteArray}(hq:qE s=0)(h:IsF w v (iM (cW s)) (bN (iD (cW s))) (bN (qD s))):IsQ .u64 w v (vQ s):=by
 obtain⟨N,D,rfl,h1,h2⟩:=h;obtain⟨e1,e2,e3⟩:=i0t hq;exact⟨N,D,by rw[e1],by rw[e2];exact h1,by rw[e3];exact h2⟩
def m0N (w:World)(s:ByteArray)(F:Nat)(cs:Array Value)(R:ByteArray)(x:Int)(hs:s.size<=1000000)(hL:Lay w)
 (hen:∀ args w,(callFunc F args).run Tryz.prog w=.ok (.enter F args) w)
 (hF:∀ W v,qE s=0->Below w.heap.size w W->IsQ .u64 W v (vQ s)->Lay W->Calls Tryz.prog F (#[v]++cs) W fun e w'=>e=.returned (.tuple #[.string R,.int .i64 x])/\Below W.heap.size W w'):
 Calls Tryz.prog 155 #[.string s,.func (.func F) #[] cs] w fun e w'=>e=.returned (.tuple #[.string (wB R s),.int .i64 (wE x s)])/\Below w.heap.size w w':=by
 obtain⟨HP,HL,HF⟩:=zc (l0K w s hs hL) hL hF;clear hF hs hL;by_cases h1:qE s=0
 .have e1:wB R s=R:=U0 h1;have e2:wE x s=x:=U0 h1;rw[e1,e2];have HQ:=hid h1;rw[h1]at HP;clear h1 e1 e2;go_enter Tryz.func155,Tryz.ntmps155;go_wp2_with fail;refine HP.out.mono ?_;rintro e w1 ⟨⟨v,rfl,hv,-⟩,hb1⟩;have hq:=v0J HQ.out (hv rfl);have y1:=hid hb1;obtain⟨N,D,hvv,hN,hD⟩:=hv rfl;subst hvv;obtain⟨a,c,rfl,_⟩:=hN.openI;obtain⟨a',c',rfl,_⟩:=hD.openI;obtain⟨k,hk⟩:=gn ((limbs (bN (iD (cW s)))).length);obtain⟨k',hk'⟩:=gn ((limbs (bN (qD s))).length);obtain⟨m,hm⟩:=gn (iM (cW s));rw[hk,hk',hm]at hq;rw[hk,hk',hm];obtain⟨X2,b2⟩:=zg (Blk.new w1 #[.bool m,.slice a k c,.slice a' k' c'] 126) ((J3 w1.heap.size w1).alloc nr (.cells #[.bool m,.slice a k c,.slice a' k' c'] 126));obtain⟨y2,Q2⟩:=zg (a0a y1.out b2.out) (hq.call b2.out);have r0:=X2.out.cell 0;have r1:=X2.out.cell 1;have r2:=X2.out.cell 2;simp at r0 r1 r2;clear hb1 hv hN hD hk hk' hm hq b2;go_wp2_with fail;refine (HF.out _ _ HQ.out y2.out Q2.out (HL.out.call y2.out)).mono ?_;rintro e w3 ⟨rfl,hb3⟩;have y3:=hid (a0a y2.out hb3);clear hb3;go_wp2_with fail;go_ret2
  exact⟨rfl,y3.out⟩
 .have e1:wB R s=⟨#[]⟩:=Q0 h1;have e2:wE x s=qE s:=Q0 h1;rw[e1,e2];obtain⟨y,hy⟩:=gn (qE s);rw[hy]at HP h1 |-;have q1:(y != 0)=true:=by simpa using h1
  have H1:=hid h1;clear e1 e2 hy h1;go_enter Tryz.func155,Tryz.ntmps155;go_wp2_with fail;refine HP.out.mono ?_;rintro e w1 ⟨⟨v,rfl,-,hv⟩,hb1⟩;have hv':=hv H1.out;subst hv';have y1:=hid hb1;have y2:=hid (y1.out.alloc y1.out.size (.cells #[.bool false,.slice none 0 0,.slice none 0 0] 126));clear hb1 hv;go_wp2_with fail;go_ret2
  exact⟨rfl,y2.out⟩
def tB (R:ByteArray)(s t:ByteArray):ByteArray:=wB (wB R t) s
def tE (x:Int)(s t:ByteArray):Int:=wE (wE x t) s
def t0D (w:World)(v u:Value)(p q:Rat)(F g1 g2:Nat)(R:ByteArray)(x:Int)(hv:IsQ .u64 w v p)(hu:IsQ .u64 w u q)(hL:Lay w)
 (hen:∀ args w,(callFunc F args).run Tryz.prog w=.ok (.enter F args) w)
 (c1:w.cell? ⟨g1,0,none⟩=some (.func (.func F) #[] #[])) (m:Bool) (a a':Option Addr) (k c k' c':Nat) (hv0:v=.agg #[.bool m,.slice a k c,.slice a' k' c'])
 (c2:Blk w g2 #[.bool m,.slice a k c,.slice a' k' c'] 126)
 (hF:∀ W v u,IsQ .u64 W v p->IsQ .u64 W u q->Lay W->Calls Tryz.prog F #[v,u] W fun e w'=>e=.returned (.tuple #[.string R,.int .i64 x])/\Below W.heap.size W w'):
 Calls Tryz.prog 217 #[u,.pointer (some ⟨g1,0,none⟩),.pointer (some ⟨g2,0,none⟩)] w fun e w'=>e=.returned (.tuple #[.string R,.int .i64 x])/\Below w.heap.size w w':=by
 obtain⟨HF,HL⟩:=zg hF hL;obtain⟨N,D,rfl,hN,hD⟩:=hu.ex;obtain⟨a1,d1,rfl,_⟩:=hN.openI;obtain⟨a2,d2,rfl,_⟩:=hD.openI;obtain⟨k1,hk1⟩:=gn ((limbs q.num.natAbs).length);obtain⟨k2,hk2⟩:=gn ((limbs q.den).length);obtain⟨mu,hmu⟩:=gn (decide (q.num<0));rw[hk1,hk2,hmu]at hu;rw[hk1,hk2,hmu];subst hv0;obtain⟨X2,b2⟩:=zg (Blk.new w #[.bool mu,.slice a1 k1 d1,.slice a2 k2 d2] 126) ((J3 w.heap.size w).alloc nr (.cells #[.bool mu,.slice a1 k1 d1,.slice a2 k2 d2] 126));obtain⟨V2,U2⟩:=zg (hv.call b2.out) (hu.call b2.out);have C1:=(b2.out.cell (a0e c1)).trans c1;have C2:=hid (c2.call b2.out);have r0:=X2.out.cell 0;have r1:=X2.out.cell 1;have r2:=X2.out.cell 2;have s0:=C2.out.cell 0;have s1:=C2.out.cell 1;have s2:=C2.out.cell 2;simp at r0 r1 r2 s0 s1 s2;clear hk1 hk2 hmu hN hD hv hu c1 c2 hF hL;go_enter Tryz.func217,Tryz.ntmps217;go_wp2_with fail;refine (HF.out _ _ _ V2.out U2.out (HL.out.call b2.out)).mono ?_;rintro e w3 ⟨rfl,hb3⟩;have y3:=hid (a0a b2.out hb3);clear hb3;go_wp2_with fail;go_ret2
 exact⟨rfl,y3.out⟩
def x0c (w:World)(v:Value)(t:ByteArray)(p:Rat)(F g1 g2:Nat)(R:ByteArray)(x:Int)(ht:t.size<=1000000)(hv:IsQ .u64 w v p)(hL:Lay w)
 (hen:∀ args w,(callFunc F args).run Tryz.prog w=.ok (.enter F args) w)
 (c1:w.cell? ⟨g1,0,none⟩=some (.string t)) (c2:w.cell? ⟨g2,0,none⟩=some (.func (.func F) #[] #[]))
 (hF:∀ W v u,qE t=0->IsQ .u64 W v p->IsQ .u64 W u (vQ t)->Lay W->Calls Tryz.prog F #[v,u] W fun e w'=>e=.returned (.tuple #[.string R,.int .i64 x])/\Below W.heap.size W w'):
 Calls Tryz.prog 216 #[v,.pointer (some ⟨g1,0,none⟩),.pointer (some ⟨g2,0,none⟩)] w fun e w'=>e=.returned (.tuple #[.string (wB R t),.int .i64 (wE x t)])/\Below w.heap.size w w':=by
 obtain⟨HF,HL,HEN⟩:=zc hF hL hen;obtain⟨N,D,rfl,hN,hD⟩:=hv.ex;obtain⟨a1,d1,rfl,_⟩:=hN.openI;obtain⟨a2,d2,rfl,_⟩:=hD.openI;obtain⟨k1,hk1⟩:=gn ((limbs p.num.natAbs).length);obtain⟨k2,hk2⟩:=gn ((limbs p.den).length);obtain⟨mu,hmu⟩:=gn (decide (p.num<0));rw[hk1,hk2,hmu]at hv;rw[hk1,hk2,hmu];obtain⟨X2,b2⟩:=zg (Blk.new w #[.bool mu,.slice a1 k1 d1,.slice a2 k2 d2] 126) ((J3 w.heap.size w).alloc nr (.cells #[.bool mu,.slice a1 k1 d1,.slice a2 k2 d2] 126));have V2:=hid (hv.call b2.out);have C1:=(b2.out.cell (a0e c1)).trans c1;obtain⟨C2,L2⟩:=zg ((b2.out.cell (a0e c2)).trans c2) (HL.out.call b2.out);obtain⟨w2,hw2⟩:=gn (w.alloc (.cells #[.bool mu,.slice a1 k1 d1,.slice a2 k2 d2] 126));obtain⟨g3,hg3⟩:=gn (w.heap.size)
 have W2:=hid (m0N w2 t 217 #[.pointer (some ⟨g2,0,none⟩),.pointer (some ⟨g3,0,none⟩)] R x ht (hw2 ▸ L2.out) (Cx Tryz.func217 (by kernel_rfl) rfl)
  (fun W u hq hb hu hLW=>by
   subst hw2;subst hg3;have hVW:=V2.out.call hb;have hX:=X2.out.call hb;have hC:=(hb.cell (a0e C2.out)).trans C2.out;exact t0D W _ u p (vQ t) F g2 w.heap.size R x hVW hu hLW HEN.out hC mu a1 a2 k1 d1 k2 d2 rfl hX (fun W v u h1 h2 h3=>HF.out W v u hq h1 h2 h3)))
 rw[hw2]at C1;clear hk1 hk2 hmu hN hD hv c1 c2 hF hL hen;go_enter Tryz.func216,Tryz.ntmps216;go_wp2_with fail;refine W2.out.mono ?_;rintro e w3 ⟨rfl,hb3⟩;have y3:=hid (a0a b2.out (hw2 ▸ hb3));clear hb3;go_wp2_with fail;go_ret2
 exact⟨rfl,y3.out⟩
end
section
open Go.RowKit
def y0Z (b:Nat)(m1 m2:Bool)(n1 d1 n2 d2:Value)(w:World):Prop:=
 w.cell? ⟨b,0,none⟩=some (.bool m1)/\w.cell? ⟨b,1,none⟩=some n1/\w.cell? ⟨b,2,none⟩=some d1/\w.cell? ⟨b+1,0,none⟩=some (.bool m2)/\w.cell? ⟨b+1,1,none⟩=some n2/\w.cell? ⟨b+1,2,none⟩=some d2
structure Three (w W:World)(m1 m2:Bool)(n1 d1 n2 d2:Value):Prop where
 below:Below w.heap.size w W
 size:W.heap.size=w.heap.size+3
 b0:Blk W w.heap.size #[.bool m1,n1,d1] 126
 b1:Blk W (w.heap.size+1) #[.bool m2,n2,d2] 126
 b2:Blk W (w.heap.size+1+1) #[.bool false,.slice none 0 0,.slice none 0 0] 126
theorem Three.mk' {w W:World}{m1 m2:Bool}{n1 d1 n2 d2:Value}(h:((w.alloc (.cells #[.bool m1,n1,d1] 126)).alloc (.cells #[.bool m2,n2,d2] 126)).alloc (.cells #[.bool false,.slice none 0 0,.slice none 0 0] 126)=W):Three w W m1 m2 n1 d1 n2 d2:=by
 subst h;exact⟨((br0.alloc nr _).alloc (by simp) _).alloc (by simp;omega) _,by simp,((Blk.new w _ _).alloc _).alloc _,(Blk.made (w.alloc _) _ _ (by simp)).alloc _,Blk.made ((w.alloc _).alloc _) _ _ (by simp)⟩
theorem Three.cells {w W V:World}{m1 m2:Bool}{n1 d1 n2 d2:Value}(h:Three w W m1 m2 n1 d1 n2 d2)(hb:Below W.heap.size W V):y0Z w.heap.size m1 m2 n1 d1 n2 d2 V:=
 have y0:=h.b0.call hb;have y1:=h.b1.call hb
 ⟨y0.cell 0,y0.cell 1,y0.cell 2,y1.cell 0,y1.cell 1,y1.cell 2⟩
theorem Three.stored {w W V:World}{m1 m2:Bool}{n1 d1 n2 d2:Value}(h:Three w W m1 m2 n1 d1 n2 d2)(hb:Below W.heap.size W V)(x y z:Value):y0Z w.heap.size m1 m2 n1 d1 n2 d2 (((V.setCell ⟨w.heap.size+1+1,0,none⟩ x).setCell ⟨w.heap.size+1+1,1,none⟩ y).setCell ⟨w.heap.size+1+1,2,none⟩ z):=
 have y0:=((((h.b0.call hb).other (a:=⟨w.heap.size+1+1,0,none⟩) (by simp;omega) x).other (a:=⟨w.heap.size+1+1,1,none⟩) (by simp;omega) y).other (a:=⟨w.heap.size+1+1,2,none⟩) (by simp;omega) z);have y1:=((((h.b1.call hb).other (a:=⟨w.heap.size+1+1,0,none⟩) (by simp) x).other (a:=⟨w.heap.size+1+1,1,none⟩) (by simp) y).other (a:=⟨w.heap.size+1+1,2,none⟩) (by simp) z)
 ⟨y0.cell 0,y0.cell 1,y0.cell 2,y1.cell 0,y1.cell 1,y1.cell 2⟩
def b1T (w:World)(v u:Value)(p q:Rat)(hp:IsQ .u64 w v p)(hq:IsQ .u64 w u q)
 (h1:(limbs p.num.natAbs).length<=100000) (h2:(limbs p.den).length<=100000) (h3:(limbs q.num.natAbs).length<=100000) (h4:(limbs q.den).length<=100000):
 Calls Tryz.prog 145 #[v,u] w fun e w'=>j0C .u64 (p*q) e w'/\Below w.heap.size w w':=by
 have hq0:=i0J p q;obtain⟨Q,hQ⟩:=gn (p*q);rw[hQ]at hq0 |-;have hD:=hid (Eb p.den_pos q.den_pos);obtain⟨N1,D1,rfl,hn1,hd1⟩:=hp.ex;obtain⟨N2,D2,rfl,hn2,hd2⟩:=hq.ex;clear hp hq hQ;generalize decide (p.num<0)=m1 at *
 generalize decide (q.num<0)=m2 at *
 generalize p.num.natAbs=n1 at *
 generalize q.num.natAbs=n2 at *
 generalize p.den=d1 at *
 generalize q.den=d2 at *
 have HQ:=hid hq0;clear hq0;obtain⟨HN1,HD1,HN2,HD2,L1,L2,H1,H2,H3,H4⟩:=kj hn1 hd1 hn2 hd2 (E0 (d0r h1 h3) (show 100000+100000<=1000000 by omega)) (E0 (d0r h2 h4) (show 100000+100000<=1000000 by omega)) (E0 h1 (show 100000<=1000000 by omega)) (E0 h2 (show 100000<=1000000 by omega)) (E0 h3 (show 100000<=1000000 by omega)) (E0 h4 (show 100000<=1000000 by omega));clear h1 h2 h3 h4;obtain⟨a1,c1,rfl,_⟩:=hn1.openI;obtain⟨a2,c2,rfl,_⟩:=hd1.openI;obtain⟨a3,c3,rfl,_⟩:=hn2.openI;obtain⟨a4,c4,rfl,_⟩:=hd2.openI;clear hn1 hd1 hn2 hd2;go_enter Tryz.func145,Tryz.ntmps145;go_wp2_with fail;obtain⟨W,hW⟩:=gn (((w.alloc (.cells #[.bool m1,.slice a1 (limbs n1).length c1,.slice a2 (limbs d1).length c2] 126)).alloc (.cells #[.bool m2,.slice a3 (limbs n2).length c3,.slice a4 (limbs d2).length c4] 126)).alloc (.cells #[.bool false,.slice none 0 0,.slice none 0 0] 126));have T:=hid (Three.mk' hW);rw[hW];clear hW;have hS:=T.out.cells br0.drew;obtain⟨B0,C0⟩:=zg (T.out.below.drew) ((J3 W.heap.size W).drew);refine a0k [0,1,2,3,4,5,6,7,8,10,11,12,13] 4 (y0Z w.heap.size m1 m2 (.slice a1 (limbs n1).length c1) (.slice a2 (limbs d1).length c2) (.slice a3 (limbs n2).length c3) (.slice a4 (limbs d2).length c4)) (by kernel_rfl) (by kernel_rfl) (by kernel_rfl) (by kernel_rfl) hS ?_
 iterate 13
  refine⟨_,rfl,?_⟩;apply Exists.intro
  refine⟨.inl ⟨by rfl,?_⟩,?_⟩
  .rintro W' ⟨q1,q2,q3,q4,q5,q6⟩;go_simp;try with_reducible rfl
  go_frame
 clear hS;refine a0c (i:=9) (by kernel_rfl) rfl rfl ?_;go_wp2_with fail;refine (h0C _ _ _ n1 n2 (HN1.out.call B0.out) (HN2.out.call B0.out) H1.out H3.out).mono ?_;rintro e w1 ⟨⟨v1,rfl,hv1⟩,hb1⟩;obtain⟨B1,C1,V1⟩:=zc (B0.out.trans (hb1.mono B0.out.size)) (a0a C0.out hb1) hv1;clear hb1 hv1;go_wp2_with fail;refine⟨T.out.cells C1.out,?_⟩;refine a0c (i:=14) (by kernel_rfl) rfl rfl ?_;go_wp2_with fail;refine (h0C _ _ _ d1 d2 (HD1.out.call B1.out) (HD2.out.call B1.out) H2.out H4.out).mono ?_;rintro e w2 ⟨⟨v2,rfl,hv2⟩,hb2⟩;obtain⟨B2,C2,V2,W1⟩:=zd (B1.out.trans (hb2.mono B1.out.size)) (a0a C1.out hb2) hv2 (V1.out.call hb2);clear hb2 hv2;go_wp2_with fail;refine⟨T.out.cells C2.out,?_⟩;refine a0c (i:=15) (by kernel_rfl) rfl rfl ?_;go_wp2_with fail;refine (r0L _ _ _ _ (n1*n2) (d1*d2) W1.out V2.out hD.out L1.out L2.out).mono ?_;rintro e w3 ⟨⟨v3,rfl,hv3⟩,hb3⟩;have hbn:(!(m1==m2))=(m1 != m2):=rfl;rw[hbn,HQ.out]at hv3;clear hbn;obtain⟨B3,C3⟩:=zg (B2.out.trans (hb3.mono B2.out.size)) (a0a C2.out hb3);clear hb3;obtain⟨N3,D3,rfl,hN3,hD3⟩:=hv3.ex;obtain⟨a5,c5,rfl,_⟩:=hN3.openI;obtain⟨a6,c6,rfl,_⟩:=hD3.openI;obtain⟨k5,hk5⟩:=gn ((limbs Q.num.natAbs).length);obtain⟨k6,hk6⟩:=gn ((limbs Q.den).length);obtain⟨mq,hmq⟩:=gn (decide (Q.num<0));rw[hk5]at hN3 |-;rw[hk6]at hD3 |-;rw[hmq];obtain⟨HN3,HD3,HMQ,Z⟩:=zd hN3 hD3 hmq (T.out.b2.call C3.out);have t0:=Z.out.cell 0;have t1:=Z.out.cell 1;have t2:=Z.out.cell 2;have t3:=Z.out.free 0;have t4:=Z.out.free 1;have t5:=Z.out.free 2;simp at t0 t1 t2;clear hv3 hN3 hD3 hk5 hk6 hmq;go_wp2_with fail;refine⟨T.out.cells C3.out,?_⟩;refine a0c (i:=16) (by kernel_rfl) rfl rfl ?_;go_wp2_with fail;refine⟨T.out.stored C3.out _ _ _,?_⟩;refine Z7 (by kernel_rfl) ?_ _;simp only[a0Z];obtain⟨s1,s2⟩:=d0k Z.out mq a5 a6 k5 c5 k6 c6;have f0:=s2.cell 0;have f1:=s2.cell 1;have f2:=s2.cell 2;simp at f0 f1 f2;clear t0 t1 t2 t3 t4 t5;go_wp2_with fail;refine J6 (v:=.agg #[.bool mq,.slice a5 k5 c5,.slice a6 k6 c6]) (by simp[results,Tryz.results145,go_sem,f0,f1,f2]) rfl ⟨⟨_,rfl,⟨.slice a5 k5 c5,.slice a6 k6 c6,by rw[HMQ.out],s1 _ _ _ HN3.out,s1 _ _ _ HD3.out⟩⟩,?_⟩;exact ((B3.out.setCell (by simp;omega) _).setCell (by simp;omega) _).setCell (by simp;omega) _
def o0d {p q:Rat}{m:Bool}(h1:decide (p.num<0)=m)(h2:decide (q.num<0)=m):qmk m (p.num.natAbs*q.den+q.num.natAbs*p.den) (p.den*q.den)=p+q:=by
 rw[q0e,h1,h2,m0v];rfl
def o0f {p q:Rat}{m1 m2:Bool}(h1:decide (p.num<0)=m1)(h2:decide (q.num<0)=m2)(h:m1≠m2)(hl:p.num.natAbs*q.den<q.num.natAbs*p.den):qmk m2 (q.num.natAbs*p.den-p.num.natAbs*q.den) (p.den*q.den)=p+q:=by
 rw[q0e,h1,h2,m0y h hl];rfl
def o0e {p q:Rat}{m1 m2:Bool}(h1:decide (p.num<0)=m1)(h2:decide (q.num<0)=m2)(h:m1≠m2)(hl:q.num.natAbs*p.den<=p.num.natAbs*q.den):qmk m1 (p.num.natAbs*q.den-q.num.natAbs*p.den) (p.den*q.den)=p+q:=by
 rw[q0e,h1,h2,m0x h hl];rfl
def b1W (w:World)(v u:Value)(p q:Rat)(hp:IsQ .u64 w v p)(hq:IsQ .u64 w u q)
 (h1:(limbs p.num.natAbs).length<=100000) (h2:(limbs p.den).length<=100000) (h3:(limbs q.num.natAbs).length<=100000) (h4:(limbs q.den).length<=100000):
 Calls Tryz.prog 114 #[v,u] w fun e w'=>j0C .u64 (p+q) e w'/\Below w.heap.size w w':=by
 obtain⟨m1,hm1⟩:=gn (decide (p.num<0));obtain⟨m2,hm2⟩:=gn (decide (q.num<0));have s1:=fun (e:m1=m2)=>o0d (m:=m1) hm1 (hm2.trans e.symm)
 have s2:=o0f hm1 hm2;have s3:=o0e hm1 hm2;obtain⟨Q,hQ⟩:=gn (p+q);rw[hQ]at s1 s2 s3 |-;have hD:=hid (Eb p.den_pos q.den_pos);obtain⟨N1,D1,rfl,hn1,hd1⟩:=hp.ex;obtain⟨N2,D2,rfl,hn2,hd2⟩:=hq.ex;rw[hm1,hm2];clear hp hq hQ hm1 hm2;generalize p.num.natAbs=n1 at *
 generalize q.num.natAbs=n2 at *
 generalize p.den=d1 at *
 generalize q.den=d2 at *
 obtain⟨S1,S2,S3,HN1,HD1,HN2,HD2⟩:=kq s1 s2 s3 hn1 hd1 hn2 hd2;have lx:=d0r h1 h4;have ly:=d0r h3 h2;have ld:=d0r h2 h4;obtain⟨LX,LY,LD,LXY,H1,H2,H3,H4⟩:=kw (E0 lx (show 100000+100000<=200000 by omega)) (E0 ly (show 100000+100000<=200000 by omega)) (E0 ld (show 100000+100000<=1000000 by omega)) (E0 (l0B lx ly) (show 100000+100000+(100000+100000)+1<=1000000 by omega)) (E0 h1 (show 100000<=1000000 by omega)) (E0 h2 (show 100000<=1000000 by omega)) (E0 h3 (show 100000<=1000000 by omega)) (E0 h4 (show 100000<=1000000 by omega));clear h1 h2 h3 h4 lx ly ld s1 s2 s3;obtain⟨a1,c1,rfl,_⟩:=hn1.openI;obtain⟨a2,c2,rfl,_⟩:=hd1.openI;obtain⟨a3,c3,rfl,_⟩:=hn2.openI;obtain⟨a4,c4,rfl,_⟩:=hd2.openI;clear hn1 hd1 hn2 hd2;go_enter Tryz.func114,Tryz.ntmps114;go_wp2_with fail;obtain⟨W,hW⟩:=gn (((w.alloc (.cells #[.bool m1,.slice a1 (limbs n1).length c1,.slice a2 (limbs d1).length c2] 126)).alloc (.cells #[.bool m2,.slice a3 (limbs n2).length c3,.slice a4 (limbs d2).length c4] 126)).alloc (.cells #[.bool false,.slice none 0 0,.slice none 0 0] 126));have T:=hid (Three.mk' hW);rw[hW];clear hW;have hS:=T.out.cells br0.drew;obtain⟨B0,C0⟩:=zg (T.out.below.drew) ((J3 W.heap.size W).drew);refine a0k [0,1,2,3,5,6,7,8] 4 (y0Z w.heap.size m1 m2 (.slice a1 (limbs n1).length c1) (.slice a2 (limbs d1).length c2) (.slice a3 (limbs n2).length c3) (.slice a4 (limbs d2).length c4)) (by kernel_rfl) (by kernel_rfl) (by kernel_rfl) (by kernel_rfl) hS ?_
 iterate 8
  refine⟨_,rfl,?_⟩;apply Exists.intro
  refine⟨.inl ⟨by rfl,?_⟩,?_⟩
  .rintro W' ⟨q1,q2,q3,q4,q5,q6⟩;go_simp;try with_reducible rfl
  go_frame
 clear hS;refine a0c (i:=4) (by kernel_rfl) rfl rfl ?_;go_wp2_with fail;refine (h0C _ _ _ n1 d2 (HN1.out.call B0.out) (HD2.out.call B0.out) H1.out H4.out).mono ?_;rintro e w1 ⟨⟨v1,rfl,hv1⟩,hb1⟩;obtain⟨B1,C1,V1⟩:=zc (B0.out.trans (hb1.mono B0.out.size)) (a0a C0.out hb1) hv1;clear hb1 hv1;go_wp2_with fail;refine⟨T.out.cells C1.out,?_⟩;refine a0c (i:=9) (by kernel_rfl) rfl rfl ?_;go_wp2_with fail;refine (h0C _ _ _ n2 d1 (HN2.out.call B1.out) (HD1.out.call B1.out) H3.out H2.out).mono ?_;rintro e w2 ⟨⟨v2,rfl,hv2⟩,hb2⟩;obtain⟨B2,C2,V2,W1⟩:=zd (B1.out.trans (hb2.mono B1.out.size)) (a0a C1.out hb2) hv2 (V1.out.call hb2);clear hb2 hv2;go_wp2_with fail;refine⟨T.out.cells C2.out,?_⟩;refine b0d (is:=[10,11]) (g:=0) (by kernel_rfl) rfl (T.out.cells C2.out) (by kernel_rfl) ?_
 iterate 2
  refine⟨_,rfl,?_⟩;apply Exists.intro
  refine⟨.inl ⟨by rfl,?_⟩,?_⟩
  ·(intro W' hW';clear hW';go_simp;try (with_reducible rfl))
  go_frame
 refine Z7 (by kernel_rfl) ?_ _;simp only[a0Z];obtain⟨k0,k1,k2,k3,k4,k5⟩:=T.out.cells C2.out;go_wp2_with fail;refine (h0C _ _ _ d1 d2 (HD1.out.call B2.out) (HD2.out.call B2.out) H2.out H4.out).mono ?_;rintro e w3 ⟨⟨v3,rfl,hv3⟩,hb3⟩;obtain⟨B3,C3,V3,X1,X2⟩:=zf (B2.out.trans (hb3.mono B2.out.size)) (a0a C2.out hb3) hv3 (W1.out.call hb3) (V2.out.call hb3);clear hb3 hv3 k0 k1 k2 k3 k4 k5;go_wp2_with fail;refine (l0E _ _ _ (n1*d2) (n2*d1) X1.out X2.out (E0 LX.out (by omega))).mono ?_;rintro e w4 ⟨rfl,hb4⟩;obtain⟨B4,C4,V4,Y1,Y2⟩:=zf (B3.out.trans (hb4.mono B3.out.size)) (a0a C3.out hb4) (V3.out.call hb4) (X1.out.call hb4) (X2.out.call hb4);clear hb4;obtain⟨k0,k1,k2,k3,k4,k5⟩:=T.out.cells C4.out;clear B0 B1 B2 B3 C0 C1 C2 C3 V1 V2 V3 W1 X1 X2;obtain⟨X,hX⟩:=gn (n1*d2);obtain⟨Y,hY⟩:=gn (n2*d1);obtain⟨E,hE⟩:=gn (d1*d2);rw[hX]at S1 S2 S3 LX LXY Y1 |-;rw[hY]at S1 S2 S3 LY LXY Y2 |-;rw[hE]at S1 S2 S3 LD V4 hD;clear hX hY hE;by_cases em:m1=m2
 focus
  have q0:(m1==m2)=true:=by rw[em];exact beq_self_eq_true m2
  have LA:=fun W' (h:Below w4.heap.size w4 W')=>hid (a1q W' _ _ X Y (Y1.out.call h) (Y2.out.call h) (E0 LX.out (by omega)) (E0 LY.out (by omega)))
  have LR:=LXY;have SQ:=hid (S1.out em);clear em;obtain⟨R,hR⟩:=gn (X+Y);rw[hR]at LA LR SQ;clear hR
 rotate_left
 focus
  have q0:(m1==m2)=false:=by simpa using em
  have HE:=hid em;clear em;by_cases hc:X<Y
  focus
   have LA:=fun W' (h:Below w4.heap.size w4 W')=>hid (x0I W' _ _ Y X (Y2.out.call h) (Y1.out.call h) (Dc hc) (E0 LY.out (by omega)))
   have LR:Hid ((limbs (Y-X)).length<=1000000):=E0 (a0h (Ki Y X)) (E0 LY.out (by omega));have SQ:=hid (S2.out HE.out hc);rw[b0H hc];clear hc;obtain⟨R,hR⟩:=gn (Y-X);rw[hR]at LA LR SQ;clear hR
  rotate_left
  focus
   have q1:decide (b0e X Y<0)=false:=by
    rcases Cz Y X with h | h
    .rw[c0j h];rfl
    .rw[show X=Y by omega,c0K];rfl
   have hle:Y<=X:=by omega
   have LA:=fun W' (h:Below w4.heap.size w4 W')=>hid (x0I W' _ _ X Y (Y1.out.call h) (Y2.out.call h) hle (E0 LX.out (by omega)))
   have LR:Hid ((limbs (X-Y)).length<=1000000):=E0 (a0h (Ki X Y)) (E0 LX.out (by omega));have SQ:=hid (S3.out HE.out hle);clear hc hle;obtain⟨R,hR⟩:=gn (X-Y);rw[hR]at LA LR SQ;clear hR
 all_goals
  go_wp2_with fail;have hS:=T.out.cells C4.out.drew;obtain⟨B0,C0⟩:=zg B4.out.drew C4.out.drew;refine a0k [0,1,2,3,5] 3 (y0Z w.heap.size m1 m2 (.slice a1 (limbs n1).length c1) (.slice a2 (limbs d1).length c2) (.slice a3 (limbs n2).length c3) (.slice a4 (limbs d2).length c4)) (by kernel_rfl) (by kernel_rfl) (by kernel_rfl) (by kernel_rfl) hS ?_
  iterate 5
   refine⟨_,rfl,?_⟩;apply Exists.intro
   refine⟨.inl ⟨by rfl,?_⟩,?_⟩
   .rintro W' ⟨q1,q2,q3,q4,q5,q6⟩;go_simp;try with_reducible rfl
   go_frame
  clear hS;refine a0c (i:=4) (by kernel_rfl) rfl rfl ?_;go_wp2_with fail;refine (LA _ br0.drew).out.mono ?_;rintro e w5 ⟨⟨v5,rfl,hv5⟩,hb5⟩;obtain⟨B5,C5,V5,E5⟩:=zd (B0.out.trans (hb5.mono B0.out.size)) (C0.out.trans (hb5.mono C0.out.size)) hv5 (V4.out.call (show Below w4.heap.size w4 w5 from br0.drew.trans hb5));clear hb5 hv5;go_wp2_with fail;refine⟨T.out.cells C5.out,?_⟩;refine a0c (i:=6) (by kernel_rfl) rfl rfl ?_;go_wp2_with fail;refine (r0L _ _ _ _ R E V5.out E5.out hD.out LR.out LD.out).mono ?_;rintro e w6 ⟨⟨v3,rfl,hv3⟩,hb6⟩;rw[SQ.out]at hv3;obtain⟨B6,C6⟩:=zg (B5.out.trans (hb6.mono B5.out.size)) (C5.out.trans (hb6.mono C5.out.size));clear hb6;obtain⟨N3,D3,rfl,hN3,hD3⟩:=hv3.ex;obtain⟨a5,c5,rfl,_⟩:=hN3.openI;obtain⟨a6,c6,rfl,_⟩:=hD3.openI;obtain⟨k5,hk5⟩:=gn ((limbs Q.num.natAbs).length);obtain⟨k6,hk6⟩:=gn ((limbs Q.den).length);obtain⟨mq,hmq⟩:=gn (decide (Q.num<0));rw[hk5]at hN3 |-;rw[hk6]at hD3 |-;rw[hmq];obtain⟨HN3,HD3,HMQ,Z⟩:=zd hN3 hD3 hmq (T.out.b2.call C6.out);have t0:=Z.out.cell 0;have t1:=Z.out.cell 1;have t2:=Z.out.cell 2;have t3:=Z.out.free 0;have t4:=Z.out.free 1;have t5:=Z.out.free 2;simp at t0 t1 t2;clear hv3 hN3 hD3 hk5 hk6 hmq;go_wp2_with fail;refine⟨T.out.cells C6.out,?_⟩;refine a0c (i:=7) (by kernel_rfl) rfl rfl ?_;go_wp2_with fail;refine⟨T.out.stored C6.out _ _ _,?_⟩;refine Z7 (by kernel_rfl) ?_ _;simp only[a0Z];obtain⟨s1,s2⟩:=d0k Z.out mq a5 a6 k5 c5 k6 c6;have f0:=s2.cell 0;have f1:=s2.cell 1;have f2:=s2.cell 2;simp at f0 f1 f2;clear t0 t1 t2 t3 t4 t5;go_wp2_with fail;refine J6 (v:=.agg #[.bool mq,.slice a5 k5 c5,.slice a6 k6 c6]) (by simp[results,Tryz.results114,go_sem,f0,f1,f2]) rfl ⟨⟨_,rfl,⟨.slice a5 k5 c5,.slice a6 k6 c6,by rw[HMQ.out],s1 _ _ _ HN3.out,s1 _ _ _ HD3.out⟩⟩,?_⟩;exact ((B6.out.setCell (by simp;omega) _).setCell (by simp;omega) _).setCell (by simp;omega) _
def b1R (w:World)(v u:Value)(p q:Rat)(hp:IsQ .u64 w v p)(hq:IsQ .u64 w u q)
 (h1:(limbs p.num.natAbs).length<=100000) (h2:(limbs p.den).length<=100000) (h3:(limbs q.num.natAbs).length<=100000) (h4:(limbs q.den).length<=100000):
 Calls Tryz.prog 165 #[v,u] w fun e w'=>j0C .u64 (p-q) e w'/\Below w.heap.size w w':=by
 have e1:p + -q=p-q:=(Hm p q).symm;have F1:=fun V v h=>hid (b1S V v q h)
 have F2:=fun V v u hv hu=>hid (b1W V v u p (-q) hv hu h1 h2 (by rw[It,Ik];exact h3) (by rw[Mm];exact h4))
 rw[e1]at F2;obtain⟨Q,hQ⟩:=gn (p-q);rw[hQ]at F2 |-;obtain⟨HP,HQ'⟩:=zg hp hq;obtain⟨N1,D1,rfl,hn1,hd1⟩:=hp.ex;obtain⟨N2,D2,rfl,hn2,hd2⟩:=hq.ex;obtain⟨a1,c1,rfl,_⟩:=hn1.openI;obtain⟨a2,c2,rfl,_⟩:=hd1.openI;obtain⟨a3,c3,rfl,_⟩:=hn2.openI;obtain⟨a4,c4,rfl,_⟩:=hd2.openI;clear hp hq hQ e1 hn1 hd1 hn2 hd2 h1 h2 h3 h4;obtain⟨m1,hm1⟩:=gn (decide (p.num<0));obtain⟨m2,hm2⟩:=gn (decide (q.num<0));obtain⟨l1,hl1⟩:=gn ((limbs p.num.natAbs).length);obtain⟨l2,hl2⟩:=gn ((limbs p.den).length);obtain⟨l3,hl3⟩:=gn ((limbs q.num.natAbs).length);obtain⟨l4,hl4⟩:=gn ((limbs q.den).length);rw[hm1,hl1,hl2]at HP;rw[hm2,hl3,hl4]at HQ';rw[hm1,hm2,hl1,hl2,hl3,hl4];clear hm1 hm2 hl1 hl2 hl3 hl4;go_enter Tryz.func165,Tryz.ntmps165;go_wp2_with fail;obtain⟨W,hW⟩:=gn (((w.alloc (.cells #[.bool m1,.slice a1 l1 c1,.slice a2 l2 c2] 126)).alloc (.cells #[.bool m2,.slice a3 l3 c3,.slice a4 l4 c4] 126)).alloc (.cells #[.bool false,.slice none 0 0,.slice none 0 0] 126));have T:=hid (Three.mk' hW);rw[hW];clear hW;have hS:=T.out.cells br0.drew;obtain⟨B0,C0⟩:=zg (T.out.below.drew) ((J3 W.heap.size W).drew);refine a0k [0,1] 3 (y0Z w.heap.size m1 m2 (.slice a1 l1 c1) (.slice a2 l2 c2) (.slice a3 l3 c3) (.slice a4 l4 c4)) (by kernel_rfl) (by kernel_rfl) (by kernel_rfl) (by kernel_rfl) hS ?_
 iterate 2
  refine⟨_,rfl,?_⟩;apply Exists.intro
  refine⟨.inl ⟨by rfl,?_⟩,?_⟩
  .rintro W' ⟨q1,q2,q3,q4,q5,q6⟩;go_simp;try with_reducible rfl
  go_frame
 clear hS;refine a0c (i:=2) (by kernel_rfl) rfl rfl ?_;go_wp2_with fail;refine (F1 _ _ (HQ'.out.call B0.out)).out.mono ?_;rintro e w1 ⟨⟨v1,rfl,hv1⟩,hb1⟩;obtain⟨B1,C1,V1⟩:=zc (B0.out.trans (hb1.mono B0.out.size)) (a0a C0.out hb1) hv1;clear hb1 hv1;go_wp2_with fail;refine⟨T.out.cells C1.out,?_⟩;refine a0c (i:=3) (by kernel_rfl) rfl rfl ?_;go_wp2_with fail;refine (F2 _ _ _ (HP.out.call B1.out) V1.out).out.mono ?_;rintro e w3 ⟨⟨v3,rfl,hv3⟩,hb3⟩;obtain⟨B3,C3⟩:=zg (B1.out.trans (hb3.mono B1.out.size)) (a0a C1.out hb3);clear hb3;obtain⟨N3,D3,rfl,hN3,hD3⟩:=hv3.ex;obtain⟨a5,c5,rfl,_⟩:=hN3.openI;obtain⟨a6,c6,rfl,_⟩:=hD3.openI;obtain⟨k5,hk5⟩:=gn ((limbs Q.num.natAbs).length);obtain⟨k6,hk6⟩:=gn ((limbs Q.den).length);obtain⟨mq,hmq⟩:=gn (decide (Q.num<0));rw[hk5]at hN3 |-;rw[hk6]at hD3 |-;rw[hmq];obtain⟨HN3,HD3,HMQ,Z⟩:=zd hN3 hD3 hmq (T.out.b2.call C3.out);have t0:=Z.out.cell 0;have t1:=Z.out.cell 1;have t2:=Z.out.cell 2;have t3:=Z.out.free 0;have t4:=Z.out.free 1;have t5:=Z.out.free 2;simp at t0 t1 t2;clear hv3 hN3 hD3 hk5 hk6 hmq;go_wp2_with fail;refine⟨T.out.cells C3.out,?_⟩;refine a0c (i:=4) (by kernel_rfl) rfl rfl ?_;go_wp2_with fail;refine⟨T.out.stored C3.out _ _ _,?_⟩;refine Z7 (by kernel_rfl) ?_ _;simp only[a0Z];obtain⟨s1,s2⟩:=d0k Z.out mq a5 a6 k5 c5 k6 c6;have f0:=s2.cell 0;have f1:=s2.cell 1;have f2:=s2.cell 2;simp at f0 f1 f2;clear t0 t1 t2 t3 t4 t5;go_wp2_with fail;refine J6 (v:=.agg #[.bool mq,.slice a5 k5 c5,.slice a6 k6 c6]) (by simp[results,Tryz.results165,go_sem,f0,f1,f2]) rfl ⟨⟨_,rfl,⟨.slice a5 k5 c5,.slice a6 k6 c6,by rw[HMQ.out],s1 _ _ _ HN3.out,s1 _ _ _ HD3.out⟩⟩,?_⟩;exact ((B3.out.setCell (by simp;omega) _).setCell (by simp;omega) _).setCell (by simp;omega) _
open Go.Shelf
open Go.Lib (decDigits nDigits)
def v0o (w:World)(s t:ByteArray)(F:Nat)(R:ByteArray)(x:Int)(hs:s.size<=1000000)(ht:t.size<=1000000)(hL:Lay w)
 (hen:∀ args w,(callFunc F args).run Tryz.prog w=.ok (.enter F args) w)
 (hF:∀ W v u,qE s=0->qE t=0->IsQ .u64 W v (vQ s)->IsQ .u64 W u (vQ t)->Lay W->Calls Tryz.prog F #[v,u] W fun e w'=>e=.returned (.tuple #[.string R,.int .i64 x])/\Below W.heap.size W w'):
 Calls Tryz.prog 143 #[.string s,.string t,.func (.func F) #[] #[]] w fun e w'=>e=.returned (.tuple #[.string (tB R s t),.int .i64 (tE x s t)])/\Below w.heap.size w w':=by
 obtain⟨HF,HL,HEN,HT,b1⟩:=zf hF hL hen ht ((J3 w.heap.size w).alloc nr (.cells #[.string t] 23));obtain⟨w1,hw1⟩:=gn (w.alloc (.cells #[.string t] 23));obtain⟨g1,hg1⟩:=gn (w.heap.size);have X1:=hid (Blk.new w #[.string t] 23);rw[hw1]at b1;rw[hw1,hg1]at X1;have b2:=hid ((J3 w1.heap.size w1).alloc nr (.cells #[.func (.func F) #[] #[]] 150));obtain⟨w2,hw2⟩:=gn (w1.alloc (.cells #[.func (.func F) #[] #[]] 150));obtain⟨X2,X12,y2⟩:=zc (Blk.new w1 #[.func (.func F) #[] #[]] 150) (X1.out.call b2.out) (a0a b1.out b2.out);have hg2:w1.heap.size=g1+1:=by rw[<- hw1,<- hg1];simp
 rw[hw2]at b2 X12 y2;rw[hw2,hg2]at X2;have L2:=hid (HL.out.call y2.out)
 have W2:=hid (m0N w2 s 216 #[.pointer (some ⟨g1,0,none⟩),.pointer (some ⟨g1+1,0,none⟩)] (wB R t) (wE x t) hs L2.out (Cx Tryz.func216 (by kernel_rfl) rfl)
  (fun W v hq hb hv hLW=>by
   have hX1:=(X12.out.call hb).cell 0;have hX2:=(X2.out.call hb).cell 0;exact x0c W v t (vQ s) F g1 (g1+1) R x HT.out hv hLW HEN.out hX1 hX2 (fun W v u h0 h1 h2 h3=>HF.out W v u hq h0 h1 h2 h3)))
 obtain⟨HW1,HW2,HG1⟩:=zc hw1 hw2 hg1;clear hF hL hen hs ht hw1 hw2 hg1 hg2 b1;go_enter Tryz.func143,Tryz.ntmps143;go_wp2_with fail;have hw1:=HW1.out;have hw2:=HW2.out;have hg1:=HG1.out;rw[hw1,hg1,hw2];refine W2.out.mono ?_;rintro e w3 ⟨rfl,hb3⟩;have y3:=hid (a0a y2.out hb3);clear hb3 hw1 hw2 hg1;go_wp2_with fail;go_ret2
 exact⟨rfl,by have:=y3.out;exact this⟩
structure Sml (K:Nat)(q:Rat):Prop where
 n:(limbs q.num.natAbs).length<=K
 d:(limbs q.den).length<=K
def f0w {s:ByteArray}(h:qE s=0):Sml 1000 (vQ s):=by
 obtain⟨-,e2,e3⟩:=i0t h;obtain⟨-,-,-,l1,l2,-⟩:=s0N h;exact⟨by rw[e2];exact E0 (a0l l1) (by omega),by rw[e3];exact E0 (a0l l2) (by omega)⟩
theorem Sml.up {K L:Nat}{q:Rat}(h:Sml K q)(hl:K<=L):Sml L q:=⟨E0 h.n hl,E0 h.d hl⟩
def w0u {K:Nat}{q:Rat}(h:Sml K q):Sml K (-q):=⟨by rw[It,Ik];exact h.n,by rw[Mm];exact h.d⟩
def v0k {K:Nat}{z:Int}{d:Nat}(hd:0<d)(h1:(limbs z.natAbs).length<=K)(h2:(limbs d).length<=K):Sml K (mkRat z d):=by
 refine⟨?_,?_⟩
 .rw[Jp,Q0 (by omega)];refine E0 (a0h ?_) h1;exact Ij _ _
 .rw[No,Q0 (by omega)];exact E0 (a0h (Dx _ _)) h2
def s0X {K L:Nat}{p q:Rat}(hp:Sml K p)(hq:Sml L q):Sml (K+L) (p*q):=by
 rw[<- i0J];unfold qmk;exact v0k (Eb p.den_pos q.den_pos) (by rw[b0s];exact a0G hp.n hq.n) (a0G hp.d hq.d)
def s0Y {K L:Nat}{p q:Rat}(hp:Sml K p)(hq:Sml L q):Sml (K+L+(K+L)+1) (p+q):=by
 rw[q0e];refine v0k (Eb p.den_pos q.den_pos) ?_ (E0 (a0G hp.d hq.d) (by omega));refine E0 (a0h (n0S _ _ _ _)) ?_;exact E0 (l0B (a0G hp.n hq.d) (a0G hq.n hp.d)) (by omega)
def w0v {p q:Rat}(hp:Sml 1000 p)(hq:Sml 1000 q):Sml 10000 (p*q):=(s0X hp hq).up (by omega)
def w0x {p q:Rat}(hp:Sml 1000 p)(hq:Sml 1000 q):Sml 10000 (p+q):=(s0Y hp hq).up (by omega)
def w0t {p q:Rat}(hp:Sml 1000 p)(hq:Sml 1000 q):Sml 10000 (p-q):=by rw[Hm];exact w0x hp (w0u hq)
def t2B {f:Rat->Rat->Rat}{s t:ByteArray}:tB (c0u (f (vQ s) (vQ t))) s t=f0y f s t:=by
 unfold tB wB f0y;by_cases h1:qE s=0<;>by_cases h2:qE t=0<;>simp[h1,h2]
def t2E {f:Rat->Rat->Rat}{s t:ByteArray}:tE (c0J (f (vQ s) (vQ t))) s t=h0z f s t:=by
 unfold tE wE h0z;by_cases h1:qE s=0<;>by_cases h2:qE t=0<;>simp[h1,h2]
def z0H (w:World)(v u:Value)(p q Q:Rat)(hp:IsQ .u64 w v p)(hq:IsQ .u64 w u q)(sQ:Sml 10000 Q)(hL:Lay w):
 ((∀ V v u,IsQ .u64 V v p->IsQ .u64 V u q->Calls Tryz.prog 145 #[v,u] V fun e w'=>j0C .u64 Q e w'/\Below V.heap.size V w')->Calls Tryz.prog 144 #[v,u] w fun e w'=>e=.returned (.tuple #[.string (c0u Q),.int .i64 (c0J Q)])/\Below w.heap.size w w') /\
 ((∀ V v u,IsQ .u64 V v p->IsQ .u64 V u q->Calls Tryz.prog 114 #[v,u] V fun e w'=>j0C .u64 Q e w'/\Below V.heap.size V w')->Calls Tryz.prog 245 #[v,u] w fun e w'=>e=.returned (.tuple #[.string (c0u Q),.int .i64 (c0J Q)])/\Below w.heap.size w w') /\
 ((∀ V v u,IsQ .u64 V v p->IsQ .u64 V u q->Calls Tryz.prog 165 #[v,u] V fun e w'=>j0C .u64 Q e w'/\Below V.heap.size V w')->Calls Tryz.prog 164 #[v,u] w fun e w'=>e=.returned (.tuple #[.string (c0u Q),.int .i64 (c0J Q)])/\Below w.heap.size w w'):=by
 have F2:=fun V v hv hV=>hid (u0B V v Q hv (E0 sQ.n (by omega)) (E0 sQ.d (by omega)) hV)
 refine⟨fun F1=>?_,fun F1=>?_,fun F1=>?_⟩
 all_goals
  have HL:=hid hL;obtain⟨N1,D1,rfl,hn1,hd1⟩:=hp.ex;obtain⟨N2,D2,rfl,hn2,hd2⟩:=hq.ex;obtain⟨a1,c1,rfl,_⟩:=hn1.openI;obtain⟨a2,c2,rfl,_⟩:=hd1.openI;obtain⟨a3,c3,rfl,_⟩:=hn2.openI;obtain⟨a4,c4,rfl,_⟩:=hd2.openI;obtain⟨k1,hk1⟩:=gn ((limbs p.num.natAbs).length);obtain⟨k2,hk2⟩:=gn ((limbs p.den).length);obtain⟨k3,hk3⟩:=gn ((limbs q.num.natAbs).length);obtain⟨k4,hk4⟩:=gn ((limbs q.den).length);obtain⟨m1,hm1⟩:=gn (decide (p.num<0));obtain⟨m2,hm2⟩:=gn (decide (q.num<0));rw[hk1,hk2,hm1]at hp |-;rw[hk3,hk4,hm2]at hq |-;obtain⟨X1,b1⟩:=zg (Blk.new w #[.bool m1,.slice a1 k1 c1,.slice a2 k2 c2] 126) ((J3 w.heap.size w).alloc nr (.cells #[.bool m1,.slice a1 k1 c1,.slice a2 k2 c2] 126));obtain⟨Y1,X2,b2⟩:=zc (X1.out.alloc (.cells #[.bool m2,.slice a3 k3 c3,.slice a4 k4 c4] 126)) (Blk.new (w.alloc (.cells #[.bool m1,.slice a1 k1 c1,.slice a2 k2 c2] 126)) #[.bool m2,.slice a3 k3 c3,.slice a4 k4 c4] 126) (b1.out.alloc b1.out.size (.cells #[.bool m2,.slice a3 k3 c3,.slice a4 k4 c4] 126));obtain⟨P2,Q2⟩:=zg (hp.call b2.out) (hq.call b2.out);have r0:=Y1.out.cell 0;have r1:=Y1.out.cell 1;have r2:=Y1.out.cell 2;have s0:=X2.out.cell 0;have s1:=X2.out.cell 1;have s2:=X2.out.cell 2;simp at r0 r1 r2 s0 s1 s2;clear hk1 hk2 hk3 hk4 hm1 hm2 hn1 hn2 hd1 hd2 hp hq hL sQ
  first
   | go_enter Tryz.func144,Tryz.ntmps144
   | go_enter Tryz.func245,Tryz.ntmps245
   | go_enter Tryz.func164,Tryz.ntmps164
  go_wp2_with fail;refine (F1 _ _ _ P2.out Q2.out).mono ?_;rintro e w3 ⟨⟨v3,rfl,hv3⟩,hb3⟩;have y3:=hid (a0a b2.out hb3);obtain⟨N3,D3,rfl,hn3,hd3⟩:=hv3.ex;obtain⟨a5,c5,rfl,_⟩:=hn3.openI;obtain⟨a6,c6,rfl,_⟩:=hd3.openI;obtain⟨k5,hk5⟩:=gn ((limbs Q.num.natAbs).length);obtain⟨k6,hk6⟩:=gn ((limbs Q.den).length);obtain⟨m3,hm3⟩:=gn (decide (Q.num<0));rw[hk5,hk6,hm3]at hv3 |-;have V3:=hid hv3;clear hb3 hv3 hn3 hd3 hk5 hk6 hm3;go_wp2_with fail;refine (F2 _ _ V3.out (HL.out.call y3.out)).out.mono ?_;rintro e w4 ⟨rfl,hb4⟩;have y4:=hid (a0a y3.out hb4);clear hb4;go_wp2_with fail;go_ret2
  exact⟨rfl,y4.out⟩
def z0L (w:World)(v u:Value)(p q:Rat)(hp:IsQ .u64 w v p)(hq:IsQ .u64 w u q)(sp:Sml 1000 p)(sq:Sml 1000 q)(hL:Lay w):
 Calls Tryz.prog 144 #[v,u] w fun e w'=>e=.returned (.tuple #[.string (c0u (p*q)),.int .i64 (c0J (p*q))])/\Below w.heap.size w w':=
 (z0H w v u p q _ hp hq (w0v sp sq) hL).1 fun V v u hv hu=>b1T V v u p q hv hu (E0 sp.n (by omega)) (E0 sp.d (by omega)) (E0 sq.n (by omega)) (E0 sq.d (by omega))
def z0M (w:World)(s t:ByteArray)(hs:s.size<=1000000)(ht:t.size<=1000000)(hL:Lay w):
 Calls Tryz.prog 50 #[.string s,.string t] w fun e w'=>e=.returned (.tuple #[.string (f0y (· * ·) s t),.int .i64 (h0z (· * ·) s t)])/\Below w.heap.size w w':=by
 have H:=hid (v0o w s t 144 (c0u (vQ s*vQ t)) (c0J (vQ s*vQ t)) hs ht hL (Cx Tryz.func144 (by kernel_rfl) rfl)
  (fun W v u h1 h2 hv hu hLW=>z0L W v u _ _ hv hu (f0w h1) (f0w h2) hLW))
 rw[t2B,t2E (f:=(· * ·))]at H;obtain⟨B,hB⟩:=gn (f0y (· * ·) s t);obtain⟨E,hE⟩:=gn (h0z (· * ·) s t);rw[hB,hE]at H |-;clear hB hE hs ht hL;go_enter Tryz.func50,Tryz.ntmps50;go_wp2_with fail;refine H.out.mono ?_;rintro e w1 ⟨rfl,hb1⟩;have y1:=hid hb1;clear hb1;go_wp2_with fail;go_ret2
 exact⟨rfl,y1.out⟩
def z0I (w:World)(v u:Value)(p q:Rat)(hp:IsQ .u64 w v p)(hq:IsQ .u64 w u q)(sp:Sml 1000 p)(sq:Sml 1000 q)(hL:Lay w):
 Calls Tryz.prog 164 #[v,u] w fun e w'=>e=.returned (.tuple #[.string (c0u (p-q)),.int .i64 (c0J (p-q))])/\Below w.heap.size w w':=
 (z0H w v u p q _ hp hq (w0t sp sq) hL).2.2 fun V v u hv hu=>b1R V v u p q hv hu (E0 sp.n (by omega)) (E0 sp.d (by omega)) (E0 sq.n (by omega)) (E0 sq.d (by omega))
def b1v (w:World)(s t:ByteArray)(hs:s.size<=1000000)(ht:t.size<=1000000)(hL:Lay w):
 Calls Tryz.prog 63 #[.string s,.string t] w fun e w'=>e=.returned (.tuple #[.string (f0y (· - ·) s t),.int .i64 (h0z (· - ·) s t)])/\Below w.heap.size w w':=by
 have H:=hid (v0o w s t 164 (c0u (vQ s-vQ t)) (c0J (vQ s-vQ t)) hs ht hL (Cx Tryz.func164 (by kernel_rfl) rfl)
  (fun W v u h1 h2 hv hu hLW=>z0I W v u _ _ hv hu (f0w h1) (f0w h2) hLW))
 rw[t2B,t2E (f:=(· - ·))]at H;obtain⟨B,hB⟩:=gn (f0y (· - ·) s t);obtain⟨E,hE⟩:=gn (h0z (· - ·) s t);rw[hB,hE]at H |-;clear hB hE hs ht hL;go_enter Tryz.func63,Tryz.ntmps63;go_wp2_with fail;refine H.out.mono ?_;rintro e w1 ⟨rfl,hb1⟩;have y1:=hid hb1;clear hb1;go_wp2_with fail;go_ret2
 exact⟨rfl,y1.out⟩
def w0w {K:Nat}{q:Rat}(h0:q≠0)(h:Sml K q):Sml K q⁻¹ := ⟨by rw[(h0h h0).2.1];exact h.d,by rw[(h0h h0).2.2];exact h.n⟩
def b1r {q:Rat}(h:q≠0):(sgQ q==0)=false:=by
 rw[U4];have:q.num≠0:=fun e=>h (Rat.num_eq_zero.1 e)
 unfold sgQ
 repeat' split
 all_goals first | omega | (intro h;omega) | simp_all
theorem p0I (m:Bool)(a:Nat):∀ n:Nat,(sgn m a) ^ n=sgn (m && decide (n%2=1)) (a ^ n)
 | 0=>by simp[sgn]
 | n+1=>by
  rw[Int.pow_succ,p0I m a n,M7];rcases Nat.mod_two_eq_zero_or_one n with h | h
  .have e:(n+1)%2=1:=by omega
   cases m<;>simp[sgn,h,e,Int.mul_neg]
  .have e:(n+1)%2=0:=by omega
   cases m<;>simp[sgn,h,e,Int.mul_neg,Int.neg_mul]
def g0S (q:Rat)(n:Nat):decide ((q ^ n).num<0)=(decide (q.num<0) && decide (n%2=1))/\(q ^ n).num.natAbs=q.num.natAbs ^ n/\(q ^ n).den=q.den ^ n:=by
 have h1:(q ^ n).num=sgn (decide (q.num<0) && decide (n%2=1)) (q.num.natAbs ^ n):=by
  rw[Rat.num_pow,<- p0I,h0Q]
 refine⟨?_,by rw[h1,b0s],Rat.den_pow q n⟩;rw[h1];by_cases hq:q.num<0
 .rw[l0d (Ej (by omega))]
 .have:decide (q.num<0)=false:=by simpa using hq
  rw[this];simp[sgn];exact Int.natCast_nonneg _
def m0P {q:Rat}{n:Nat}(h:4000<nDigits (q.num.natAbs ^ n)\/4000<nDigits (q.den ^ n)):c0u (q ^ n)=⟨#[]⟩/\c0J (q ^ n)=5:=by
 obtain⟨-,h2,h3⟩:=g0S q n;have:ovQ (q ^ n):=by unfold ovQ;rw[h2,h3];exact h
 exact⟨U0 this,U0 this⟩
def z0K (w:World)(v:Value)(q:Rat)(n g1:Nat)(hp:IsQ .u64 w v q)(sp:Sml 1000 q)(hn:n<=9223372036854775807)(hL:Lay w)(c1:w.cell? ⟨g1,0,none⟩=some (.int .i64 (n:Nat))):
 Calls Tryz.prog 156 #[v,.pointer (some ⟨g1,0,none⟩)] w fun e w'=>e=.returned (.tuple #[.string (c0u (q ^ n)),.int .i64 (c0J (q ^ n))])/\Below w.heap.size w w':=by
 have F1:=fun V v hv hV=>hid (r0d V v q.num.natAbs n hv (E0 sp.n (by omega)) (by omega) hV)
 have F2:=fun V v hv hV=>hid (r0d V v q.den n hv (E0 sp.d (by omega)) (by omega) hV)
 obtain⟨e1,e2,e3⟩:=g0S q n;have HOV:=hid (fun h=>m0P (q:=q) (n:=n) h);have F3:=fun V v hv hV (h1:nDigits (q.num.natAbs ^ n)<=4000) (h2:nDigits (q.den ^ n)<=4000)=>hid (u0B V v (q ^ n) hv (by rw[e2];exact E0 (a0l h1) (by omega)) (by rw[e3];exact E0 (a0l h2) (by omega)) hV)
 obtain⟨B,hB⟩:=gn (c0u (q ^ n));obtain⟨E,hE⟩:=gn (c0J (q ^ n));rw[hB,hE]at F3 HOV |-;clear hB hE;have HL:=hid hL;obtain⟨N1,D1,rfl,hn1,hd1⟩:=hp.ex;obtain⟨a1,c1',rfl,_⟩:=hn1.openI;obtain⟨a2,c2',rfl,_⟩:=hd1.openI;obtain⟨k1,hk1⟩:=gn ((limbs q.num.natAbs).length);obtain⟨k2,hk2⟩:=gn ((limbs q.den).length);obtain⟨m1,hm1⟩:=gn (decide (q.num<0));rw[hk1,hk2,hm1]at hp |-;rw[hk1]at hn1;rw[hk2]at hd1;rw[hm1]at e1;obtain⟨X1,b1⟩:=zg (Blk.new w #[.bool m1,.slice a1 k1 c1',.slice a2 k2 c2'] 126) ((J3 w.heap.size w).alloc nr (.cells #[.bool m1,.slice a1 k1 c1',.slice a2 k2 c2'] 126));obtain⟨N2,D2⟩:=zg (hn1.call b1.out) (hd1.call b1.out);have r0:=X1.out.cell 0;have r1:=X1.out.cell 1;have r2:=X1.out.cell 2;have C1:=(b1.out.cell (a0e c1)).trans c1;simp at r0 r1 r2;have q0:decide ((n:Int)<0)=false:=by simp
 have w0:IntKind.u64.wrap (n:Int)=(n:Int):=Bz _ ⟨by omega,by omega⟩;obtain⟨E1,E2,E3⟩:=zc e1 e2 e3;clear hk1 hk2 hm1 hn1 hd1 hp hL sp e1 e2 e3 c1 hn;go_enter Tryz.func156,Tryz.ntmps156;go_wp2_with fail;refine (F1 _ _ N2.out (HL.out.call b1.out)).out.mono ?_;rintro e w3 ⟨hr3,hb3⟩;obtain⟨y3,X3,D3⟩:=zc (a0a b1.out hb3) (X1.out.call hb3) (D2.out.call hb3);clear hb3 r0 r1 r2 C1;have r0:=X3.out.cell 0;have r1:=X3.out.cell 1;have r2:=X3.out.cell 2;simp at r0 r1 r2;rcases hr3 with ⟨l3,v3,rfl,hv3⟩ | ⟨l3,rfl⟩
 .obtain⟨a3,c3,rfl,_⟩:=hv3.openI;obtain⟨k3,hk3⟩:=gn ((limbs (q.num.natAbs ^ n)).length);rw[hk3]at hv3 |-;obtain⟨V3,L3⟩:=zg hv3 l3;clear hk3 hv3 l3;go_wp2_with fail;refine (F2 _ _ D3.out (HL.out.call y3.out)).out.mono ?_;rintro e w4 ⟨hr4,hb4⟩;obtain⟨y4,X4,V4⟩:=zc (a0a y3.out hb4) (X3.out.call hb4) (V3.out.call hb4);clear hb4 r0 r1 r2;have r0:=X4.out.cell 0;have r1:=X4.out.cell 1;have r2:=X4.out.cell 2;simp at r0 r1 r2;rcases hr4 with ⟨l4,v4,rfl,hv4⟩ | ⟨l4,rfl⟩
  .obtain⟨a4,c4,rfl,_⟩:=hv4.openI;obtain⟨k4,hk4⟩:=gn ((limbs (q.den ^ n)).length);rw[hk4]at hv4 |-;obtain⟨W4,L4⟩:=zg hv4 l4;clear hk4 hv4 l4;have M:=hid (show IsQ .u64 w4 (.agg #[.bool (m1 && decide (n%2=1)),.slice a3 k3 c3,.slice a4 k4 c4]) (q ^ n) from⟨_,_,by rw[E1.out],by rw[E2.out];exact V4.out,by rw[E3.out];exact W4.out⟩);obtain⟨Q,hQ⟩:=gn (q ^ n);rw[hQ]at F3 M;clear hQ HOV F1 F2;have F4:=F3 _ _ M.out (HL.out.call y4.out) L3.out L4.out;cases m1
   focus
    simp only[Nj]at F4
   rotate_left
   focus
    simp only[Fd]at F4;have e9:((n:Int)%2==1)=decide (n%2=1):=by
     rw[Bc,Ei,S5];omega
    rw[<- e9]at F4;clear e9
   all_goals
    go_wp2_with fail;refine F4.out.mono ?_;rintro e w5 ⟨rfl,hb5⟩;have y5:=hid (a0a y4.out hb5);clear hb5;go_wp2_with fail;go_ret2
    exact⟨rfl,y5.out⟩
  .have e7:=hid (HOV.out (.inr l4));clear l4;go_wp2_with fail;go_ret2
   exact⟨by rw[e7.out.1,e7.out.2];rfl,y4.out⟩
 .have e7:=hid (HOV.out (.inl l3));clear l3;go_wp2_with fail;refine (F2 _ _ D3.out (HL.out.call y3.out)).out.mono ?_;rintro e w4 ⟨hr4,hb4⟩;have y4:=hid (a0a y3.out hb4);rcases hr4 with ⟨l4,v4,rfl,hv4⟩ | ⟨l4,rfl⟩
  .obtain⟨a4,c4,rfl,_⟩:=hv4.openI;obtain⟨k4,hk4⟩:=gn ((limbs (q.den ^ n)).length);rw[hk4];clear hk4 hv4 l4 hb4;go_wp2_with fail;go_ret2
   exact⟨by rw[e7.out.1,e7.out.2];rfl,y4.out⟩
  .clear l4 hb4;go_wp2_with fail;go_ret2
   exact⟨by rw[e7.out.1,e7.out.2];rfl,y4.out⟩
def pwB (n:Nat)(s:ByteArray):ByteArray:=z0S (· ^ n) s
def pwE (n:Nat)(s:ByteArray):Int:=z0R (· ^ n) s
def b1w (w:World)(s:ByteArray)(n:Nat)(hs:s.size<=1000000)(hn:n<=9223372036854775807)(hL:Lay w):
 Calls Tryz.prog 57 #[.string s,.int .i64 (n:Nat)] w fun e w'=>e=.returned (.tuple #[.string (pwB n s),.int .i64 (pwE n s)])/\Below w.heap.size w w':=by
 obtain⟨HL,b1,X1⟩:=zc hL ((J3 w.heap.size w).alloc nr (.cells #[.int .i64 (n:Nat)] 3)) (Blk.new w #[.int .i64 (n:Nat)] 3);obtain⟨g1,hg1⟩:=gn (w.heap.size);obtain⟨w1,hw1⟩:=gn (w.alloc (.cells #[.int .i64 (n:Nat)] 3));have L1:=hid (HL.out.call b1.out);rw[hw1]at b1 X1 L1;rw[hg1]at X1
 have W1:=hid (m0N w1 s 156 #[.pointer (some ⟨g1,0,none⟩)] (c0u (vQ s ^ n)) (c0J (vQ s ^ n)) hs L1.out (Cx Tryz.func156 (by kernel_rfl) rfl)
  (fun W v hq hb hv hLW=>z0K W v (vQ s) n g1 hv (f0w hq) hn hLW ((X1.out.call hb).cell 0)))
 have e1:wB (c0u (vQ s ^ n)) s=pwB n s:=rfl;have e2:wE (c0J (vQ s ^ n)) s=pwE n s:=rfl;rw[e1,e2]at W1;obtain⟨B,hB⟩:=gn (pwB n s);obtain⟨E,hE⟩:=gn (pwE n s);rw[hB,hE]at W1 |-;obtain⟨HW,HG⟩:=zg hw1 hg1;clear hB hE hs hL hn e1 e2 hw1 hg1;go_enter Tryz.func57,Tryz.ntmps57;go_wp2_with fail;have hw1:=HW.out;have hg1:=HG.out;rw[hw1,hg1];refine W1.out.mono ?_;rintro e w2 ⟨rfl,hb2⟩;have y2:=hid (a0a b1.out hb2);clear hb2 hw1 hg1;go_wp2_with fail;go_ret2
 exact⟨rfl,y2.out⟩
end
section
open Go.RowKit
open Go.Lib (decDigits nDigits)
def e0z {a:ByteArray}(h:gPE a=0):qE a=0/\0<=(vQ a).num/\(vQ a).num.natAbs<(vQ a).den/\Dig 1000 (vQ a):=by
 have h2:=b0S h;unfold gPE at h
 split at h
 .rename_i he;exact absurd h he
 rename_i he
 have he':qE a=0:=Hz.1 he
 split at h
 .cases h
 rename_i hm
 split at h
 .cases h
 rename_i hl
 obtain⟨e1,e2,l1,l2,e3,e4⟩:=g0b he' (fun h=>hm (.inl h)) hl;unfold eN at l1 l2;obtain⟨g1,g2,g3⟩:=i0t he';have hmf:iM (cW a)=false:=by
  have:¬ iM (cW a)=true:=fun h=>hm (.inl h)
  simpa using this
 rw[b0P hmf]at g2;refine⟨he',?_,by rw[g2,g3];exact h2.2,⟨by rw[g2];exact l1,by rw[g3];exact l2⟩⟩;rw[hmf]at g1;have:=Es g1;omega
def v0S (A:Rat):Rat:=1 / (1+A)
open Go.Shelf
def TT (A:Rat)(k:Int):Rat:=if k<1 then 1-v0S A*A ^ (1-k).toNat else v0S A*A ^ k.toNat
end
section
open Go.RowKit
open Go.Lib (decDigits nDigits)
def m0j (n:Nat):2 ^ n≠0:=Ob (Ej (by omega))
def a1z {N D:Nat}(h:N<D)(two:Bool)(n:Nat):gL N D two n<=2 ^ n:=by have:=h0k h two n;omega
section
variable {a : ByteArray} {n : Nat} (hG : gPE a = 0) (hs : a.size <= 20) (hn : n <= 12)
include hG hs hn
end
end
section
open Go.RowKit
theorem p0L {N D:Nat}(h:N<D):∀ j,(sdx N D j).2=true->(sdx N D j).1=N*2 ^ j%D/\0<(sdx N D j).1/\(sdx N D j).1<D
 | 0,ho=>by
  simp only[sdx,S5]at ho |-;rw[Db,Fq,Bl h];omega
 | j+1,ho=>by
  cases hj:(sdx N D j).2 with
  | false=>rw[e0w hj (j+1) (by omega)]at ho;cases ho
  | true=>
   obtain⟨h1,h2,h3⟩:=p0L h j hj;have e:N*2 ^ (j+1)%D=2*(sdx N D j).1%D:=by
    rw[h1,M7,<- G8,E9 _ 2,Nat.mul_mod_mod]
   rw[e];rw[sdx,hj,U0 rfl]at ho |-;generalize (sdx N D j).1=x at *
   by_cases hc:D<=2*x
   .rw[if_pos hc]at ho |-;simp only[decide_eq_true_eq]at ho;refine⟨?_,by dsimp only;omega,by dsimp only;omega⟩;dsimp only;rw[Nat.mod_eq_sub_mod hc,Nat.mod_eq_of_lt (by omega)]
   .rw[if_neg hc];exact⟨(Nat.mod_eq_of_lt (by omega)).symm,by dsimp only;omega,by dsimp only;omega⟩
def t0o {N D:Nat}(h:N<D)(j:Nat):
 a0C N D (j+1)=((sdx N D j).2 && decide (N*2 ^ (j+1) / D%2=1)) /\
 a0i N D (j+1)=((sdx N D j).2 && (!decide (N*2 ^ (j+1) / D%2=1) || (decide (N*2 ^ (j+1) / D%2=1) && decide (N*2 ^ (j+1)%D=0)))) /\
 (sdx N D (j+1)).2=((sdx N D j).2 && !(decide (N*2 ^ (j+1) / D%2=1) && decide (N*2 ^ (j+1)%D=0))):=by
 cases hj:(sdx N D j).2 with
 | false=>
  refine⟨by rw[a0C,hj];rfl,by rw[a0i,hj];rfl,?_⟩;rw[e0w hj (j+1) (by omega)];rfl
 | true=>
  obtain⟨h1,h2,h3⟩:=p0L h j hj;obtain⟨k,hk⟩:∃ k,N*2 ^ j=D*k+(sdx N D j).1:=⟨N*2 ^ j / D,by rw[h1];exact (Ho _ _).symm⟩;have e:N*2 ^ (j+1)=D*(2*k)+2*(sdx N D j).1:=by
   rw[M7,<- G8,hk,As,E9 2 k,<- G8];omega
  rw[a0C,a0i,sdx,hj,e];generalize (sdx N D j).1=x at *
  clear e hk h1 hj;simp only[Fd,Fp];have hD:0<D:=by omega
  by_cases hc:D<=2*x
  .have hq:(D*(2*k)+2*x) / D=2*k+1:=by
    rw[Mc hD,show 2*x=D+(2*x-D) by omega,Nat.add_div_left _ hD,Do (by omega)]
   have hr:(D*(2*k)+2*x)%D=2*x-D:=by
    rw[Nat.mul_add_mod,Nat.mod_eq_sub_mod hc,Bl (by omega)]
   rw[hq,hr,U0 hc,I8 hc,I8 (show (2*k+1)%2=1 by omega)];refine⟨rfl,?_,?_⟩
   .simp only[Bool.not_true,Bool.false_or,Fd];rw[Fr];omega
   .simp only[Fd,ne_eq,decide_not]
    congr 1
    rw[Fr];omega
  .have hq:(D*(2*k)+2*x) / D=2*k:=by
    rw[Mc hD,Do (by omega)];omega
   rw[hq,Q0 hc,I7 hc,I7 (show ¬ 2*k%2=1 by omega)];refine⟨rfl,?_,rfl⟩;simp;omega
def s0b (f:Nat->Nat):cvo f pw2 0=f 0:=by simp[cvo,a0n,pw2]
def l0U (f:Nat->Nat)(n:Nat):cvo f pw2 (n+1)=cvo f pw2 n+cvo f pw2 n+f (n+1):=by
 unfold cvo;rw[a0n];have e:a0n (fun s=>f s*pw2 (n+1-s)) (n+1)=a0n (fun s=>f s*pw2 (n-s)) (n+1)+a0n (fun s=>f s*pw2 (n-s)) (n+1):=by
  rw[<- c0n];refine a0d fun s hs=>?_
  unfold pw2;rw[show n+1-s=n-s+1 by omega,M7,Nat.mul_two,Ad]
 rw[e,Bh];simp[pw2]
def p3 (N D n i k s:Nat)(v:Int):Nat:=if (k:Int)-(i:Int)=v then a0n (fun s'=>edn N D k s'*cw (n-s') (h0A N D i)) s else 0
def q3 (N D n i k:Nat)(v:Int):Nat:=a0n (fun k'=>p3 N D n i k' (n+1) v) k
def t3 (N D n i:Nat)(v:Int):Nat:=a0n (fun i'=>q3 N D n i' (n+1) v) i
def c3 (N D n i k s:Nat)(v:Int):Nat:=t3 N D n i v+q3 N D n i k v+p3 N D n i k s v
def f0c (N D n i k:Nat)(v:Int):p3 N D n i k 0 v=0:=by unfold p3;split<;>rfl
def y0J (N D n:Nat):c3 N D n 0 0 0=fun _=>0:=by funext v;simp[c3,t3,q3,f0c,a0n]
def b1Z (N D n i k s:Nat):c3 N D n i k (s+1)=j0F (c3 N D n i k s) ((k:Int)-(i:Int)) (edn N D k s*cw (n-s) (h0A N D i)):=by
 funext v
 unfold j0F c3 p3;by_cases h:(k:Int)-(i:Int)=v
 .subst h;rw[U0 rfl,U0 rfl,U0 rfl,a0n];omega
 .rw[Q0 h,Q0 h,Q0 (fun e=>h e.symm)]
def c1w (N D n i k:Nat):c3 N D n i k (n+1)=c3 N D n i (k+1) 0:=by
 funext v
 unfold c3;rw[f0c];unfold q3;rw[a0n];omega
def c1x (N D n i:Nat):c3 N D n i (n+1) 0=c3 N D n (i+1) 0 0:=by
 funext v
 unfold c3;rw[f0c,f0c];unfold t3;rw[a0n];simp only[q3,a0n]
def v0Y {N D:Nat}(h:N<D)(n:Nat)(v:Int):c3 N D n (n+1) 0 0 v=gV N D true n v:=by
 rw[v0N h];unfold c3;rw[f0c];simp only[q3,a0n,Ao];unfold t3 q3;rw[g0y];refine a0d fun i _=>a0d fun k _=>?_
 unfold p3;by_cases hv:(i:Int)-(k:Int)=v
 .rw[U0 hv,U0 hv,l0Q h k i n];unfold cvo;refine a0d fun s _=>?_
  rw[e0n h]
  rfl
 .rw[Q0 hv,Q0 hv]
def c1a {N D n i k s:Nat}(h:N<D)(hi:i<=n)(hk:k<=n)(hs:s<=n+1)(v:Int):c3 N D n i k s v<=gV N D true n v:=by
 rw[<- v0Y h];have a1:p3 N D n i k s v<=p3 N D n i k (n+1) v:=by
  unfold p3
  split
  .exact a0S hs
  .exact Z3 _
 have a2:q3 N D n i k v+p3 N D n i k (n+1) v<=q3 N D n i (n+1) v:=by
  unfold q3;have:=a0S (f:=fun k'=>p3 N D n i k' (n+1) v) (show k+1<=n+1 by omega);rw[a0n]at this;exact this
 have a3:t3 N D n i v+q3 N D n i (n+1) v<=t3 N D n (n+1) v:=by
  unfold t3;have:=a0S (f:=fun i'=>q3 N D n i' (n+1) v) (show i+1<=n+1 by omega);rw[a0n]at this;exact this
 unfold c3;rw[f0c];simp only[q3,a0n];unfold q3 at a1 a2 a3;omega
def n0s {N D:Nat}(h:N<D)(n:Nat):a0n (fun i=>(b0L (a0C N D) (a0i N D) n (n+1)).2.getD i 0*cw (n-i) (f0E N D)) (n+1)=cw n (d0x N D):=by
 rw[<- m0m h n (Z3 n),b0E];unfold cvo;refine a0d fun i hi=>?_
 rw[<- i0v h n (m:=n-i) (by omega)]
 rfl
end
end Go.Proofs.YtfkpfpobmobnbaaGreatDoor
