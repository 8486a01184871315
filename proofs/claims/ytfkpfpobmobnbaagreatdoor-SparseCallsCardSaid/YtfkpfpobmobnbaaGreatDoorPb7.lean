import Derived.Test.YtfkpfpobmobnbaaGreatDoorPb6
import Derived.Laws.Concat
import Derived.Shelf.Bits.Mul64
import Derived.Laws.CopyOwn
import Derived.RegionTactic
set_option linter.all false
set_option maxRecDepth 100000
set_option maxHeartbeats 8000000
namespace Go.Proofs.YtfkpfpobmobnbaaGreatDoor
open Go.Proofs.Tryz Go.RowKit
open Go.Lib (decDigits nDigits)
def z0Q (us vs:List Nat)(gu j n:Nat)(w:World)(e:Ending)(w':World):Prop:=
 e=.returned (.int .i64 ((val ((us.drop j).take (n+1)) / val vs:Nat):Int))/\∃ o,WinOut us j n (val ((us.drop j).take (n+1))%val vs) o/\Arr .i64 3 w' gu o/\w.grownBy w' (some gu)
def x0V (w:World)(gu j cu:Nat)(us:List Nat)(gv ov cv:Nat)(vs:List Nat)(n:Nat)(hS:StepIn us vs j n)(hU:Arr .i64 3 w gu us)(hV:Row w (.slice (some ⟨gv,ov,none⟩) n cv) (b0p .i64 vs))(hne:gv≠gu):
 Calls prog 306 #[.slice (some ⟨gu,j,none⟩) (n+1) cu,.slice (some ⟨gv,ov,none⟩) n cv] w fun e w'=>z0Q us vs gu j n w e w':=by
 have n2:=hS.n2;have nm:=hS.nm;have lu:=hS.lu;have um:=hS.um;have cv':∀ i,i<n->w.cell? ⟨gv,ov+i,none⟩=some (.int .i64 (vs.getD i 0:Nat)):=fun i hi=>by
  obtain⟨g,o,e,hg,hc⟩:=hV.at (e0f (getD_some (l:=vs) (i:=i) (by rw[hS.lv];exact hi)));simp at e;obtain⟨rfl,rfl⟩:=e;exact hc
 have cu':∀ i,i<=n->w.cell? ⟨gu,j+i,none⟩=some (.int .i64 (us.getD (j+i) 0:Nat)):=fun i hi=>hU.cell (getD_some (by omega))
 have hE:=hid hS.est;have a0:=cu' n nr;have a1:=cu' (n-1) (by omega);have a2:=cu' (n-2) (by omega);have b1:=cv' (n-1) (by omega);have b2:=cv' (n-2) (by omega);obtain⟨CV,CU,HS,HU⟩:=zc cv' cu' hS hU;clear cv' cu' hS hU hV;obtain⟨u0,hu0⟩:=gn (us.getD (j+n) 0);obtain⟨u1,hu1⟩:=gn (us.getD (j+(n-1)) 0);obtain⟨u2,hu2⟩:=gn (us.getD (j+(n-2)) 0);obtain⟨v1,hv1⟩:=gn (vs.getD (n-1) 0);obtain⟨v2,hv2⟩:=gn (vs.getD (n-2) 0);rw[hu0,hu1,hu2,hv1,hv2]at hE;rw[hu0]at a0;rw[hu1]at a1;rw[hu2]at a2;rw[hv1]at b1;rw[hv2]at b2;have HU0:=hid hu0;clear hu0 hu1 hu2 hv1 hv2;have l0:=hE.out.b0;have l1:=hE.out.b1;have l2:=hE.out.b2;have l3:=hE.out.c1;have l4:=hE.out.c2;have l5:=hE.out.v0;have f1:(0:Int)<=(n:Int)-1:=by omega
 have f2:(n:Int)-1<(n:Int)+1:=by omega
 have f3:(n:Int)-1<(n:Int):=by omega
 have f7:=qw n
 have f8:(n:Int)<(n:Int)+1:=by omega
 have e1:IntKind.i64.wrap ((n:Int)-1)=(n:Int)-1:=U0 _ (by omega);have e2:IntKind.i64.wrap ((n:Int)-2)=(n:Int)-2:=U0 _ (by omega);have e3:((n:Int)-1).toNat=n-1:=by omega
 have e4:((n:Int)-2).toNat=n-2:=by omega
 have e5:IntKind.i64.wrap ((u0:Int)*1000000000)=(u0:Int)*1000000000:=U0 _ (by omega);have e6:IntKind.i64.wrap ((u0:Int)*1000000000+u1)=(u0:Int)*1000000000+u1:=U0 _ (by omega);go_enter func306,ntmps306;go_wp2_with fail;go_quiet (fail)
 clear e5 e6;go_wp2_with fail;go_quiet (fail)
 go_upto_block 0 with (fail)
 rename_i nq1 nq2
 obtain⟨V,hV⟩:=gn (val vs);obtain⟨U,hU⟩:=gn (val ((us.drop j).take (n+1)));rw[hU,hV]at hE;have HVU:=hid (And.intro hU hV);clear hU hV
 go_cut [7] (fun gg wx=>∃ (G q:Nat),gg=.int .i64 G/\wx=w.drewN q/\G<1000000000/\Hid (U / V<=G/\G*V<U+V))
 case first=>
  go_wp2_with fail
  go_loopw [7,8] (fun gg rr wr=>∃ G R q:Nat,gg=.int .i64 G/\rr=.int .i64 R/\wr=w.drewN q/\Hid (EstI U V u0 u1 v1 G R)) (fun gg _ _=>(intOf gg).toNat)
  case atStart=>
   exact⟨_,_,_,by rw[Jh];rfl,by rw[Lw];rfl,by rw[Bl],EstI.start hE.out⟩
  case round=>
   obtain⟨G,R,q,rfl,rfl,rfl,hI⟩:=hrel;have g2:=hI.out.g2;have r2:=hI.out.r2;by_cases hR:R<1000000000
   .have q1:decide ((R:Int)<1000000000)=true:=by simp;omega
    by_cases hG:1000000000<=G
    .have q2:decide ((1000000000:Int)<=(G:Int))=true:=by simp;omega
     have HN:=hid (hI.out.big hE.out hR hG);go_wp2_with fail
     go_big_quiet (fail)
     clear q1 q2;go_wp2_with fail;go_quiet (fail)
     go_wp2_with fail;go_roundw
     case rel=>exact⟨G-1,R+v1,_,by go_num,by go_num,by rw[Bl,Bl],HN⟩
     case measure=>simp[intOf]<;>omega
    .have q2:decide ((1000000000:Int)<=(G:Int))=false:=by simp;omega
     obtain⟨p,hp⟩:=gn (G*v2);have hpb:p<=999999999*999999999:=by rw[<- hp];exact Ar (by omega) (by omega)
     have HPI:=hid (show ((G:Int)*(v2:Int))=(p:Int) from by rw[<- Bp,hp]);by_cases hT:R*1000000000+u2<p
     .have q3:decide ((R:Int)*1000000000+u2<(p:Int))=true:=by simp;omega
      have HN:=hid (hI.out.less hE.out hR (by rw[hp];exact hT));have hg0:=HN.out.2;clear hp hT;obtain⟨x5,x6,x7⟩:IntKind.i64.wrap ((G:Int)*(v2:Int))=(p:Int)/\IntKind.i64.wrap ((R:Int)*1000000000)=(R:Int)*1000000000/\IntKind.i64.wrap ((R:Int)*1000000000+u2)=(R:Int)*1000000000+u2:=by
       refine⟨by rw[HPI.out];exact U0 _ (by omega),U0 _ (by omega),U0 _ (by omega)⟩
      go_wp2_with fail
      go_big_quiet (fail)
      clear q1 q2 q3 x5 x6 x7;go_wp2_with fail;go_quiet (fail)
      go_wp2_with fail;go_roundw
      case rel=>exact⟨G-1,R+v1,_,by go_num,by go_num,by rw[Bl,Bl],HN.out.1⟩
      case measure=>simp[intOf]<;>omega
     .have q3:decide ((R:Int)*1000000000+u2<(p:Int))=false:=by simp;omega
      obtain⟨HD,HQ⟩:=zu (hI.out.done hE.out (.inr ⟨by omega,by rw[hp];omega⟩)) hI.out.q;clear hp hT;obtain⟨x5,x6,x7⟩:IntKind.i64.wrap ((G:Int)*(v2:Int))=(p:Int)/\IntKind.i64.wrap ((R:Int)*1000000000)=(R:Int)*1000000000/\IntKind.i64.wrap ((R:Int)*1000000000+u2)=(R:Int)*1000000000+u2:=by
       refine⟨by rw[HPI.out];exact U0 _ (by omega),U0 _ (by omega),U0 _ (by omega)⟩
      go_wp2_with fail
      go_big_quiet (fail)
      clear q1 q2 q3 x5 x6 x7;go_wp2_with fail
      go_meet
      exact⟨G,_,rfl,by rw[Bl],HD.out.1,HQ.out,HD.out.2⟩
   .have q1:decide ((R:Int)<1000000000)=false:=by simp;omega
    obtain⟨HD,HQ⟩:=zu (hI.out.done hE.out (.inl (by omega))) hI.out.q;go_wp2_with fail
    go_big_quiet (fail)
    clear q1;go_wp2_with fail
    go_meet
    exact⟨G,_,rfl,by rw[Bl],HD.out.1,HQ.out,HD.out.2⟩
 case rest=>
  obtain⟨G,q,rfl,rfl,hG,hQ⟩:=hcut;have hE1:=hE;clear a0 a1 a2 b1 b2 f1 f2 f3 f7 f8 e1 e2 e3 e4 hE l0 l1 l2 l3 l4 l5;go_wp2_with fail
  go_loopw [9,10,11,12] (fun bb ii tt xx wr=>∃ (i c:Nat) (o:List Nat),bb=.int .i64 c/\ii=.int .i64 i/\i<=n/\Hid (MsubI us vs j n G i c o)/\Hid (Arr .i64 3 wr gu o)/\Hid (w.grownBy wr (some gu))) (fun _ ii _ _ _=>n-(intOf ii).toNat)
  case atStart=>exact⟨0,0,us,rfl,rfl,K5 _,MsubI.start HS.out.su,HU.out.drewN q,f0t (Nn w _) q⟩
  case round=>
   obtain⟨i,c,o,rfl,rfl,hin,hM,hO,hB⟩:=hrel;have hol:=hid hM.out.len;have hcG:=hM.out.c1;by_cases hlt:i<n
   .have d1:=hO.out.cell (getD_some (l:=o) (i:=j+i) (by rw[hol.out];omega));have d4:=hO.out.free (j+i);have d2:=d0r hB.out (CV.out i hlt) hne;have hvl:=HS.out.sv.getD i;have hul:=HS.out.su.getD (j+i);rw[b0Q hM.out.hi]at d1;obtain⟨T,M,z,c',hT,hM1,hz,hc',z1,z2,z3,z4,z5,z6,z7,z8⟩:=u0u hul hcG hG hvl;have HN:=hid (hM.out.next (by omega) lu z1 z2 z3);obtain⟨ui,hui⟩:=gn (us.getD (j+i) 0);obtain⟨vi,hvi⟩:=gn (vs.getD i 0);rw[hui]at d1 hul hT;rw[hvi]at d2 hvl hT;clear hui hvi z3;obtain⟨p,hp⟩:=gn (G*vi);have hpb:p<=999999999*999999999:=by rw[<- hp];exact Ar (by omega) (by omega)
    have HPI:=hid (show ((G:Int)*(vi:Int))=(p:Int) from by rw[<- Bp,hp]);rw[hp]at hT;obtain⟨HT,HM1,HZ,HC⟩:=zc hT hM1 hz hc';clear hp hT hM1 hz hc';have f1:=qw i
    have f2:(i:Int)<(n:Int):=by omega
    have f3:(i:Int)<(n:Int)+1:=by omega
    obtain⟨x5,x6,x7⟩:IntKind.i64.wrap ((G:Int)*(vi:Int))=(p:Int)/\IntKind.i64.wrap ((ui:Int)-c)=(ui:Int)-c/\IntKind.i64.wrap ((ui:Int)-c-p)=T:=by
     refine⟨by rw[HPI.out];exact U0 _ (by omega),U0 _ (by omega),by rw[HT.out];exact U0 _ (by omega)⟩
    go_wp2_with fail;go_quiet (fail)
    clear x5 x6 x7;have y1:=HM1.out;have y2:=HZ.out;go_wp2_with fail;clear y1 y2;go_roundw
    case rel=>exact⟨i+1,c',_,by rw[HC.out],by go_num,by omega,HN,(hO.out.drewN _).set (j+i) z,d0y (f0t hB.out _) _ _⟩
    case measure=>simp[intOf]<;>omega
   .obtain rfl:i=n:=by omega
    have hg0:=b0Q hM.out.hi;have d1:=hO.out.cell (getD_some (l:=o) (i:=j+i) (by rw[hol.out];omega));have d4:=hO.out.free (j+i);rw[hg0,HU0.out]at d1;have hV0:=hE1.out.pos;have l0:=hE1.out.b0;clear hg0;by_cases hc:c<=u0
    .obtain⟨r1,r2,r3⟩:=hM.out.fits lu HS.out.lv HS.out.sv HVU.out.1 HVU.out.2 HU0.out hQ.out.1 hV0 hc;obtain⟨R1,R3⟩:=zu r1 r3;subst r2;clear r1 r3 hc;go_wp2_with fail;refine wp_loop_rounds 1 ?_;rw[rounds_succ];go_wp2_with fail;go_ret
     refine⟨a0R (by rw[HVU.out.1,HVU.out.2,<- R1.out]),_,by rw[HVU.out.1,HVU.out.2];exact R3.out,hO.out.set (j+i) 0,d0y hB.out _ _⟩
    .obtain⟨hc1,hadd⟩:=hM.out.lacks lu HS.out.lv HS.out.sv HVU.out.1 HVU.out.2 HU0.out hQ.out.1 hQ.out.2 hV0 (by omega);have HADD:=hid hadd;have hsub:((u0:Int)-(c:Int)) = -1:=by omega
     obtain⟨HN,HG⟩:=zu (hO.out.setN (j+i) (-1)) (d0y hB.out (j+i) (.int .i64 (-1)));clear hadd hc hc1;go_wp2_with fail;refine wp_loop_rounds 2 ?_;rw[rounds_succ];clear hsub;obtain⟨wx,hwx⟩:=gn (wr.setCell ⟨gu,j+i,none⟩ (.int .i64 (-1)));rw[hwx]at HN HG |-;clear hwx d1 d4;have k1:=HN.out.self (m:=j+i) (by rw[hol.out];omega);go_wp2_with fail
     go_loopw [13,14,15] (fun cc ii tt wq=>∃ (y k:Nat) (p:List Nat),cc=.int .i64 k/\ii=.int .i64 y/\y<=i/\Hid (AddI o vs j y k p)/\Hid (ArrN .i64 3 wq gu p (j+i) (-1))/\Hid (w.grownBy wq (some gu))) (fun _ ii _ _=>i-(intOf ii).toNat)
     case atStart=>exact⟨0,0,o,rfl,rfl,K5 _,AddI.start hM.out.sm,HN,HG⟩
     case round=>
      obtain⟨y,k,p,rfl,rfl,hyi,hA,hP,hB2⟩:=hrel;have hpl:=hid (show p.length=us.length from by rw[hA.out.len,hol.out]);by_cases hlt2:y<i
      .have d1:=hP.out.cell (i:=j+y) (by omega) (getD_some (l:=p) (i:=j+y) (by rw[hpl.out];omega));have d4:=hP.out.free (j+y);have d2:=d0r hB2.out (CV.out y hlt2) hne;rw[b0Q hA.out.hi]at d1;have HN2:=hid (hA.out.next hM.out.sm HS.out.sv (by rw[hol.out];omega));have hvl:=HS.out.sv.getD y;have hul:=hM.out.sm.getD (j+y);have hk1:=hA.out.k1;obtain⟨ui,hui⟩:=gn (o.getD (j+y) 0);obtain⟨vi,hvi⟩:=gn (vs.getD y 0);rw[hui]at d1 hul;rw[hvi]at d2 hvl;rw[hui,hvi]at HN2;clear hui hvi;have f1:=qw y
       have f2:(y:Int)<(i:Int):=by omega
       have f3:(y:Int)<(i:Int)+1:=by omega
       obtain⟨x5,x6⟩:IntKind.i64.wrap ((ui:Int)+vi)=(ui:Int)+vi/\IntKind.i64.wrap ((ui:Int)+vi+k)=(ui:Int)+vi+k:=by
        refine⟨U0 _ (by omega),U0 _ (by omega)⟩
       go_wp2_with fail;go_quiet (fail)
       clear x5 x6;go_wp2_with fail;go_roundw
       case rel=>
        have hz:(((ui:Int)+vi+k)%1000000000)=(((ui+vi+k)%1000000000:Nat):Int):=by omega
        rw[hz];exact⟨y+1,_,_,by go_num,by go_num,by omega,HN2,(hP.out.drewN _).set (by omega) _,d0y (f0t hB2.out _) _ _⟩
       case measure=>simp[intOf]<;>omega
      .obtain rfl:y=i:=by omega
       obtain⟨r0,r1,r2,r3⟩:=HADD.out k p hA.out;subst r0;obtain⟨R1,R3⟩:=zu r1 r3;have k1:=hP.out.self (m:=j+y) (by rw[hpl.out];omega);have k2:=hP.out.free (j+y);clear r1 r3;go_wp2_with fail;rw[rounds_succ];go_wp2_with fail;go_ret
       refine⟨a0R (by rw[HVU.out.1,HVU.out.2,R1.out];omega),_,by rw[HVU.out.1,HVU.out.2];exact R3.out,hP.out.back 0,d0y hB2.out _ _⟩
def v0Z (B:Nat)(k:IntKind)(q r:Nat)(e:Ending)(w':World):Prop:=∃ v u,e=.returned (.tuple #[v,u])/\IsN k w' v q/\(∀ g,v.ownBlock=some g->B<=g)/\IsN k w' u r
def m0H (w:World)(v u:Value)(a b:Nat)(ha:IsN .i64 w v a)(hb:IsN .i64 w u b)(hlt:a<b):
 Calls prog 244 #[v,u] w fun e w'=>v0Z w.heap.size .i64 (a / b) (a%b) e w'/\Below w.heap.size w w':=by
 obtain⟨HA,HB,HL,HQ,HR⟩:=zd ha hb (b0N hlt) (Ds hlt) (Bw hlt);obtain⟨a1,c1,rfl,_⟩:=ha.openI;obtain⟨a2,c2,rfl,_⟩:=hb.openI;clear ha hb hlt;go_enter func244,ntmps244;go_wp2_with fail;refine nv (b0k _ _ _ a b HA.out HB.out) fun w1 B1=>?_;rw[HL.out];go_wp2_with fail;go_ret2
 exact⟨⟨_,_,rfl,by rw[HQ.out];exact IsN.zero _ _,fun g e=>by simp[Value.ownBlock]at e,by rw[HR.out];exact HA.out.call B1.out⟩,B1.out⟩
def p0M (w:World)(v u:Value)(a b:Nat)(ha:IsN .i64 w v a)(hb:IsN .i64 w u b)(hle:b<=a)(h0:0<b)(h1:b<1000000000)(hla:(limbs a).length<=1000000):
 Calls prog 244 #[v,u] w fun e w'=>v0Z w.heap.size .i64 (a / b) (a%b) e w'/\Below w.heap.size w w':=by
 obtain⟨HA,HB⟩:=zu ha hb;have hord:b0g a b=0\/b0g a b=1:=by
  unfold b0g;split
  .omega
  .split<;>simp
 obtain⟨a1,c1,rfl,h1',_⟩:=ha.openI;obtain⟨a2,c2,rfl,h2',h3',h4'⟩:=hb.openI;have hl1:limbs b = [b]:=d0n h0 h1;obtain⟨g,o,rfl,hg,hc⟩:=h4' 0 b (by rw[hl1];rfl);rw[At]at hc;have HC:=hid hc;have hlen:(limbs b).length=1:=by rw[hl1];rfl
 rw[hlen]at HB h2' |-;clear ha hb hc h4' hl1 hlen;go_enter func244,ntmps244;go_wp2_with fail;refine nj (b0k _ _ _ a b HA.out HB.out) fun w1 hb1=>?_;have d1:=(hb1.cell (p:=⟨g,o,none⟩) hg).trans HC.out;have B1:=hid hb1;clear hb1;obtain⟨t,ht⟩:=gn (b0g a b);rw[ht]at hord |-;have q0:decide (t<0)=false:=by simp;omega
 clear ht hord;go_wp2_with fail;refine (k0Q _ _ a b (HA.out.call B1.out) h0 h1 hla).mono ?_;rintro e w2 ⟨⟨v2,rfl,hv2,hf2⟩,hb2⟩;obtain⟨B2,V2,F2⟩:=zg hb2 hv2 hf2;clear hb2 hv2 hf2;have hrb:a%b<1000000000:=No (Il a h0) h1;go_wp2_with fail;refine (m0k _ _ [a%b] (Sm.cons hrb Sm.nil) ?_).mono ?_
 .exact Row.of_blk (b:=w2.heap.size) (n:=1) (c:=1) (cs:=#[.int .i64 ((a%b:Nat):Int)]) (Blk.new w2 _ _) rfl (by unfold maxLen;omega) (fun i x hx=>by simpa[b0p]using hx) nr (by unfold maxLen;omega)
 .rintro e w3 ⟨⟨v3,rfl,hv3⟩,rfl⟩;have V3:=hid hv3;clear hv3;go_wp2_with fail;go_ret2
  have hb3:Below w2.heap.size w2 (w2.alloc (.cells #[.int .i64 ((a%b:Nat):Int)] 3)):=br0.alloc nr _;refine⟨⟨_,_,rfl,V2.out.call hb3,fun g e=>J0 B1.out.size (F2.out g e),?_⟩,a0a (a0a B1.out B2.out) hb3⟩;have:=V3.out;rwa[show val [a%b]=a%b by simp[a0P]]at this
def m0G (w:World)(v u:Value)(a b m:Nat)(ha:IsN .i64 w v a)(hb:IsN .i64 w u b)(hle:b<=a)(hn:(limbs b).length=m)(hm2:2<=m)(hla:(limbs a).length<=1000000):
 Calls prog 244 #[v,u] w fun e w'=>v0Z w.heap.size .i64 (a / b) (a%b) e w'/\Below w.heap.size w w':=by
 obtain⟨HA,HB⟩:=zu ha hb;have hord:b0g a b=0\/b0g a b=1:=by
  unfold b0g;split
  .omega
  .split<;>simp
 have hmn:=a0h hle;obtain⟨a1,c1,rfl,h1',_⟩:=ha.openI;obtain⟨a2,c2,rfl,h2',h3',h4'⟩:=hb.openI;obtain⟨x,hx⟩:∃ x,(limbs b)[m-1]?=some x:=⟨_,Q0 (by omega)⟩;obtain⟨g,o,rfl,hg,hc⟩:=h4' (m-1) x hx;have HC:=hid hc;have hn1:(limbs b).length=(m-1)+1:=by omega
 obtain⟨s1,s2,s3⟩:=k0E hn1 hx;obtain⟨t1,t2,_⟩:=i0Z hn1 hx;obtain⟨d,hd⟩:=gn (1000000000 / (x+1));rw[hd]at s1 s2 s3;obtain⟨HS,hdI⟩:=zu (show (limbs (b*d)).length=m by omega) (show ((1000000000:Int) / ((x:Int)+1))=(d:Int) from by rw[<- hd];rfl);rw[hn]at h2' hmn |-;obtain⟨L,hL⟩:=gn ((limbs a).length);rw[hL]at hmn h1' |-;have hla':L<=1000000:=by omega
 obtain⟨HL,HN,HLA⟩:=zg hL hn hla;rw[hL]at HA;rw[hn]at HB;obtain⟨K,hK⟩:∃ K,K=L+1-m:=⟨_,rfl⟩;have hKI:=hid (show ((L:Int)+1-(m:Int))=(K:Int) by omega);have hKL:K+m=L+1:=by omega
 have hmk:=hid (fun W=>e0d K (by omega) W);clear ha hb hc h4' hx hd s1 hL hn hla hle hn1 hK;go_enter func244,ntmps244;go_wp2_with fail;refine nj (b0k _ _ _ a b HA.out HB.out) fun w1 hb1=>?_;have d1:=(hb1.cell (p:=⟨g,o+(m-1),none⟩) hg).trans HC.out;have B1:=hid hb1;clear hb1;obtain⟨t,ht⟩:=gn (b0g a b);rw[ht]at hord |-;have q0:decide (t<0)=false:=by simp;omega
 clear ht hord;go_wp2_with fail;rw[hdI.out];refine (k0R _ _ a d (HA.out.call B1.out) s3 HLA.out).mono ?_;rintro e w2 ⟨⟨gu,ou,rfl,hgu,hAu,lu,su,vu⟩,hb2⟩;have B2:=qx B1 hb2;obtain⟨AU,LU,SU,VU⟩:=zc hAu lu su vu;have hul:=hAu.lt;rw[HL.out]at LU |-;clear hAu lu su vu d1;go_wp2_with fail;refine (k0R _ _ b d (HB.out.call B2.out) s3 (by rw[HN.out];omega)).mono ?_;rintro e w3 ⟨⟨gv,ov,rfl,hgv,hAv,lv,sv,vv⟩,hb3⟩;have B3:=qx B2 hb3;have AU3:=hid (AU.out.call hb3);have hne:gv≠gu:=by omega
 obtain⟨LV,VV,SV⟩:=zg lv vv sv;clear lv vv sv;go_wp2_with fail;rw[<- LV.out];refine (c0V _ _ _ ov SV.out (by have:=hAv.row (n:=ov.length) (c:=ov.length) nr nr (by rw[LV.out,HN.out];unfold maxLen;omega);rwa[E7 nr]at this)).mono ?_;rintro e w4 ⟨⟨m',rfl,hm'⟩,rfl⟩;rw[VV.out]at hm';have hmm:m'=m:=by have:=hm'.len.1;rw[ints_length,HS.out]at this;exact this
 subst hmm;have RV:=hid hm';have hvl:=hAv.lt;clear hAv hm' AU;have y1:=hKI.out;have y2:=hmk.out;go_wp2_with fail;clear y1 y2;have hV:=hid (a0z (b*d))
 have D0:=hid (show DivI (a*d) (b*d) m' (L+1) K ou (List.replicate K 0) from by
  have h1:1000000000 ^ (m'-1)<=b:=b0e.1 (by rw[HN.out];omega);have h2:b*d<=1000000000 ^ m':=De (a0g.1 (by rw[HS.out];exact O4 _));have h3:a<1000000000 ^ L:=a0g.1 (by rw[HL.out];exact O4 _);have:=DivI.start (U:=a*d) (V:=b*d) (n:=m') h2 SU.out LU.out (by omega) VU.out (o0X LU.out VU.out h3 (by omega) (by omega) h1 s2);rwa[show L+1-m'=K by omega]at this)
 go_loopw [13] (fun jj wr=>∃ (k:Nat) (t:Int) (o Q:List Nat),jj=.int .i64 t/\t=(k:Int)-1/\k<=K/\Hid (DivI (a*d) (b*d) m' (L+1) k o Q)/\Hid (Arr .i64 3 wr gu o)/\Hid (Arr .i64 3 wr w3.heap.size Q)/\Hid (Row wr (.slice (some ⟨gv,0,none⟩) m' ov.length) (b0p .i64 (limbs (b*d))))/\Hid (Below w.heap.size w wr)) (fun jj _=>(intOf jj+1).toNat)
 case atStart=>
  have ha:Below w3.heap.size w3 (w3.alloc (.cells (madeCells #[.int .i64 0] K) 3)):=br0.alloc nr _;exact⟨K,_,ou,_,rfl,rfl,O4 _,D0,AU3.out.call ha,Arr.made w3 .i64 3 K,RV.out.call ha,a0a B3.out ha⟩
 case round=>
  obtain⟨k,t,o2,Q,rfl,ht,hk,hD,hU,hQ,hR,hB⟩:=hrel;obtain⟨hol,hql⟩:=zu hD.out.lo (show Q.length=K from by rw[hD.out.lq];omega);cases k with
  | zero=>
   obtain rfl:t = -1:=by omega
   clear ht;obtain⟨r1,r2,r3⟩:=hD.out.done (by omega);obtain⟨hfin,R3⟩:=zu (s0V (a:=a) (b:=b) s2 r1 r2) r3;have hlen:(limbs (val (o2.take m'))).length<=1000000:=by
    rw[r3];have:=a0h (De r2);rw[HS.out]at this;omega
   clear r1 r2 r3;go_wp2_with fail;refine (m0k _ _ (o2.take m') (hD.out.so.take _) (hU.out.row (by rw[hol.out];omega) (by omega) (by unfold maxLen;omega))).mono ?_;rintro e w5 ⟨⟨v5,rfl,hv5⟩,rfl⟩;go_wp2_with fail;refine ng (u0F _ v5 _ d hv5 s2 s3 hlen) fun v6 w6 hv6 hb6=>?_;obtain⟨V6,B6,Q6⟩:=zg hv6 hb6 (hQ.out.call hb6);clear hv5 hv6 hb6;go_wp2_with fail;refine (k0P _ _ _ _ Q hql.out hD.out.sq (by have:=Q6.out.row (n:=K) (c:=K) (by rw[hql.out];exact O4 _) nr (by unfold maxLen;omega);rwa[E7 (by rw[hql.out];exact O4 _)]at this)).mono ?_;rintro e w7 ⟨⟨m7,rfl,hv7⟩,rfl⟩;go_wp2_with fail;go_ret2
   refine⟨⟨_,v6,rfl,by rw[<- hfin.out.1];exact hv7,fun g e=>by have:=B3.out.size;simp[Value.ownBlock]at e;omega,?_⟩,a0a hB.out B6.out⟩;have:=V6.out;rwa[R3.out,hfin.out.2]at this
  | succ j=>
   obtain rfl:t=(j:Int):=by omega
   clear ht;have hS:=hid (show StepIn o2 (limbs (b*d)) j m' from⟨hm2,by omega,HS.out,by rw[hol.out];omega,by rw[hol.out];omega,hD.out.so,a0o _,l0c (n:=m'-1) (by rw[HS.out];omega),by rw[hV.out];exact hD.out.win (by omega)⟩);obtain⟨z,hz⟩:∃ z,Q[j]?=some z:=⟨_,Q0 (by rw[hql.out];omega)⟩;have hgq:w3.heap.size≠gu:=by omega
   have hgw:w.heap.size<=gu:=J0 B1.out.size hgu;have hqw:w.heap.size<=w3.heap.size:=B3.out.size;go_wp2_with fail;rw[show j+m'+1-j=m'+1 by omega];refine (x0V _ gu j _ o2 gv 0 _ (limbs (b*d)) m' hS.out hU.out hR.out hne).mono ?_;rintro e w5 ⟨he,o5,hw5,hA5,hg5⟩;rw[hV.out]at he hw5;have HN5:=hid (hD.out.next (by omega) hw5);obtain⟨qv,hqv⟩:=gn (val ((o2.drop j).take (m'+1)) / (b*d));rw[hqv]at he HN5;subst he;obtain⟨Q5,R5,B5,A5⟩:=zc (hQ.out.gb hg5 hgq) (hR.out.gb hg5 hne) (v0T hB.out hB.out.size hg5 hgw) hA5;have d3:=Q5.out.cell hz;have d4:=Q5.out.free j;clear hw5 hA5 hg5 hqv hz;go_wp2_with fail;go_roundw
   case rel=>
    have hset:w5.grownBy (w5.setCell ⟨w3.heap.size,j,none⟩ (.int .i64 (qv:Int))) (some w3.heap.size):=d0y (Nn _ _) _ _;exact⟨j,_,o5,_,rfl,rfl,by omega,HN5,A5.out.gb hset (fun e=>hgq e.symm),Q5.out.set j qv,R5.out.gb hset (by omega),a0X B5.out hqw _⟩
   case measure=>simp[intOf]<;>omega
def f0K (w:World)(v u:Value)(a b:Nat)(ha:IsN .i64 w v a)(hb:IsN .i64 w u b)(h0:0<b)(hla:(limbs a).length<=1000000):
 Calls prog 244 #[v,u] w fun e w'=>v0Z w.heap.size .i64 (a / b) (a%b) e w'/\Below w.heap.size w w':=by
 by_cases hlt:a<b
 .exact m0H w v u a b ha hb hlt
 .by_cases h1:b<1000000000
  .exact p0M w v u a b ha hb (by omega) h0 h1 hla
  .refine m0G w v u a b _ ha hb (by omega) rfl ?_ hla;have:1<(limbs b).length:=b0e.2 (by omega);omega
def h0r (w:World)(v u:Value)(a b:Nat)(ha:IsN .i64 w v a)(hb:IsN .i64 w u b)(h0:0<b)(hla:(limbs a).length<=1000000):
 Calls prog 244 #[v,u] w fun e w'=>t0G .i64 (a / b) (a%b) e w'/\Below w.heap.size w w':=
 (f0K w v u a b ha hb h0 hla).mono fun _ _ h=>by
  obtain⟨⟨v,u,h1,h2,-,h3⟩,h4⟩:=h;exact⟨⟨v,u,h1,h2,h3⟩,h4⟩
def h0s (w:World)(v u:Value)(a b:Nat)(ha:IsN .i64 w v a)(hb:IsN .i64 w u b)(hla:(limbs a).length<=1000000)(hlb:(limbs b).length<=1000000):
 Calls prog 174 #[v,u] w fun e w'=>i0e .i64 (Nat.gcd a b) e w'/\Below w.heap.size w w':=by
 obtain⟨HA,HB,LA,LB⟩:=zc ha hb hla hlb;clear ha hb hla hlb;go_enter func174,ntmps174;go_wp2_with fail
 go_loopw [0,1,5,6] (fun x y q r wr=>∃ m n:Nat,Hid (IsN .i64 wr x m)/\Hid (IsN .i64 wr y n)/\Hid ((limbs m).length<=1000000)/\Hid ((limbs n).length<=1000000)/\Hid (Nat.gcd m n=Nat.gcd a b)/\Hid (Below w.heap.size w wr))
  (fun x y q r wr=>u0V .i64 wr y)
 case atStart=>exact⟨a,b,HA,HB,LA,LB,rfl,J4 _ _⟩
 case round=>
  obtain⟨m,n,hx,hy,hm,hn,hg,hB⟩:=hrel;have hnum:=hid (g0G hy.out);obtain⟨a1,c1,rfl,h1,h1',h1''⟩:=hx.out.openI;obtain⟨a2,c2,rfl,h2,h2',h2''⟩:=hy.out.openI;clear h1'' h2'';by_cases h0:n=0
  .subst h0;have hl:(limbs 0).length=0:=by rw[limbs_zero];rfl
   rw[hl]at *;clear hl;go_wp2_with fail;go_ret
   exact⟨⟨_,rfl,by rw[<- hg.out,Nat.gcd_zero_right];exact hx.out⟩,hB.out⟩
  .have hpos:0<(limbs n).length:=Gp.2 (fun e=>h0 (b0Y.1 e));go_wp2_with fail;refine (h0r _ _ _ m n hx.out hy.out (by omega) hm.out).mono ?_;rintro e w1 ⟨⟨v1,v2,rfl,hv1,hv2⟩,hb1⟩;have V2:=hid hv2;have B1:=qx hB hb1;obtain⟨Y1,hlt⟩:=zu (hy.out.call hb1) (Il m (y:=n) (by omega));have hll:=hid (show (limbs (m%n)).length<=1000000 from J0 (a0h (De hlt.out)) hn.out);have hgg:=hid (show Nat.gcd n (m%n)=Nat.gcd a b from by rw[<- hg.out,Lo m n,Nat.gcd_rec n m,Lo]) ;clear hv1 hv2 hb1;go_wp2_with fail;go_roundw
   case rel=>exact⟨n,m%n,Y1,V2,hn,hll,hgg,B1⟩
   case measure=>rw[g0G V2.out,hnum.out];exact hlt.out
def IsQF (B:Nat)(w:World)(v:Value)(q:Rat):Prop:=∃ N D,v=.agg #[.bool (decide (q.num<0)),N,D]/\IsN .i64 w N q.num.natAbs/\IsN .i64 w D q.den/\(∀ g,N.ownBlock=some g->B<=g)/\(∀ g,D.ownBlock=some g->B<=g)
theorem IsQF.q {B:Nat}{w:World}{v:Value}{q:Rat}(h:IsQF B w v q):IsQ .i64 w v q:=by
 obtain⟨N,D,rfl,h1,h2,-,-⟩:=h;exact⟨N,D,rfl,h1,h2⟩
theorem IsQF.of {B:Nat}{w:World}{m:Bool}{N D:Value}{q:Rat}(h:IsQ .i64 w (.agg #[.bool m,N,D]) q)(hN:∀ g,N.ownBlock=some g->B<=g)(hD:∀ g,D.ownBlock=some g->B<=g):IsQF B w (.agg #[.bool m,N,D]) q:=by
 obtain⟨N',D',e,h1,h2⟩:=h.ex;simp at e;obtain⟨rfl,rfl,rfl⟩:=e;exact⟨N,D,rfl,h1,h2,hN,hD⟩
def RetQF (B:Nat)(q:Rat)(e:Ending)(w':World):Prop:=∃ v,e=.returned v/\IsQF B w' v q
theorem RetQF.ret {B:Nat}{q:Rat}{e:Ending}{w':World}(h:RetQF B q e w'):f0E .i64 q e w':=by
 obtain⟨v,h1,h2⟩:=h;exact⟨v,h1,h2.q⟩
def r0d (w:World):Calls prog 153 #[] w fun e w'=>RetFr w.heap.size .i64 1 e w'/\Below w.heap.size w w':=by
 have H1:=hid (j0H w);go_enter func153,ntmps153;go_wp2_with fail;go_ret
 exact⟨⟨_,rfl,H1.out,fun g e=>by simp[Value.ownBlock]at e;omega⟩,br0.alloc nr _⟩
def r0e (w:World):Calls prog 153 #[] w fun e w'=>i0e .i64 1 e w'/\Below w.heap.size w w':=(r0d w).mono fun _ _ h=>⟨h.1.ret,h.2⟩
def d0Z (w:World)(m:Bool)(v u:Value)(n d:Nat)(hn:IsN .i64 w v n)(hd:IsN .i64 w u d)(h0:0<d)(hln:(limbs n).length<=1000000)(hld:(limbs d).length<=1000000):
 Calls prog 175 #[.bool m,v,u] w fun e w'=>RetQF w.heap.size (qmk m n d) e w'/\Below w.heap.size w w':=by
 obtain⟨HN,HD⟩:=zu hn hd;obtain⟨a1,c1,rfl,_⟩:=hn.openI;obtain⟨a2,c2,rfl,_⟩:=hd.openI;clear hn hd;rcases H8 n with rfl | hp
 .have hl:(limbs 0).length=0:=by rw[limbs_zero];rfl
  rw[hl]at HN |-;have hq:=hid (n0O m d);rw[hq.out];clear hl;go_enter func175,ntmps175;go_wp2_with fail;refine (r0d _).mono ?_;rintro e w1 ⟨⟨v1,rfl,hv1,hf1⟩,hb1⟩;obtain⟨a3,c3,rfl,_⟩:=hv1.openI;obtain⟨HV,HF⟩:=zu hv1 hf1;clear hf1;have HB:=hid (show Blk w1 w.heap.size #[.bool false,.slice none 0 0,.slice none 0 0] 81 from (Blk.new w _ _).call hb1);obtain⟨d0,d1,d2⟩:=qz HB.out;obtain⟨e0,e1,e2⟩:=qq HB.out;have HBB:=hid hb1;clear hb1 hv1;go_wp2_with fail;obtain⟨s1,s2⟩:=c0C HB.out false none a3 0 0 (limbs 1).length c3;obtain⟨f0,f1,f2⟩:=qz s2;refine C7 (v:=.agg #[.bool false,.slice none 0 0,.slice a3 (limbs 1).length c3]) (by simp[results,results175,go_sem,f0,f1,f2]) rfl ⟨⟨_,rfl,IsQF.of (IsQ.zero_ (s1 _ _ _ (IsN.zero _ _)) (s1 _ _ _ HV.out)) (fun g e=>by simp[Value.ownBlock]at e) (fun g e=>by have:=HF.out g e;simp at this;omega)⟩,?_⟩;exact ((((br0.alloc nr _).trans (HBB.out.mono (by simp))).setCell nr _).setCell nr _).setCell nr _
 .have hpos:0<(limbs n).length:=Gp.2 (fun e=>by have:=b0Y.1 e;omega);have q0:(((limbs n).length:Int)==0)=false:=M5.2 (by omega);obtain⟨g,hg⟩:=gn (Nat.gcd n d);have hgp:0<g:=hg ▸ Ge d hp;obtain⟨HG,HGP,HP,H0,HLN,HLD⟩:=zf hg hgp hp h0 hln hld;clear hg hgp hp h0 hln hld hpos;go_enter func175,ntmps175;go_wp2_with fail;refine ng (h0s _ _ _ n d (HN.out.call (br0.alloc nr _)) (HD.out.call (br0.alloc nr _)) HLN.out HLD.out) fun v1 w1 hv1 hb1=>?_;rw[HG.out]at hv1;obtain⟨HB1,B1⟩:=zu (show Blk w1 w.heap.size #[.bool false,.slice none 0 0,.slice none 0 0] 81 from (Blk.new w _ _).call hb1) (((J4 w.heap.size w).alloc nr (.cells #[.bool false,.slice none 0 0,.slice none 0 0] 81)).trans (hb1.mono (by simp)));obtain⟨N1,D1,G1⟩:=zg (HN.out.call B1.out) (HD.out.call B1.out) hv1;clear hb1 hv1;go_wp2_with fail;refine (f0K _ _ _ n g N1.out G1.out HGP.out HLN.out).mono ?_;rintro e w2 ⟨⟨v2,v3,rfl,hv2,hf2,-⟩,hb2⟩;have HB2:=hid (HB1.out.call hb2);have B2:=qx B1 hb2;obtain⟨D2,G2,V2,F2⟩:=zc (D1.out.call hb2) (G1.out.call hb2) hv2 hf2;clear hb2 hv2 hf2;go_wp2_with fail;refine (f0K _ _ _ d g D2.out G2.out HGP.out HLD.out).mono ?_;rintro e w3 ⟨⟨v4,v5,rfl,hv4,hf4,-⟩,hb3⟩;have HB3:=hid (HB2.out.call hb3);have B3:=qx B2 hb3;obtain⟨W2,W4,F4⟩:=zg (V2.out.call hb3) hv4 hf4;clear hb3 hv4 hf4;obtain⟨a3,c3,rfl,_⟩:=W2.out.openI;obtain⟨a4,c4,rfl,_⟩:=W4.out.openI;obtain⟨d0,d1,d2⟩:=qz HB3.out;obtain⟨e0,e1,e2⟩:=qq HB3.out;go_wp2_with fail;obtain⟨s1,s2⟩:=c0C HB3.out m a3 a4 (limbs (n / g)).length c3 (limbs (d / g)).length c4;obtain⟨f0,f1,f2⟩:=qz s2;refine C7 (v:=.agg #[.bool m,.slice a3 (limbs (n / g)).length c3,.slice a4 (limbs (d / g)).length c4]) (by simp[results,results175,go_sem,f0,f1,f2]) rfl ⟨⟨_,rfl,IsQF.of (IsQ.mk' HP.out H0.out (HG.out ▸ s1 _ _ _ W2.out) (HG.out ▸ s1 _ _ _ W4.out)) (fun g e=>J0 B1.out.size (F2.out g e)) (fun g e=>J0 B2.out.size (F4.out g e))⟩,?_⟩;exact ((B3.out.setCell nr _).setCell nr _).setCell nr _
def k0M (w:World)(m:Bool)(v u:Value)(n d:Nat)(hn:IsN .i64 w v n)(hd:IsN .i64 w u d)(h0:0<d)(hln:(limbs n).length<=1000000)(hld:(limbs d).length<=1000000):
 Calls prog 175 #[.bool m,v,u] w fun e w'=>f0E .i64 (qmk m n d) e w'/\Below w.heap.size w w':=
 (d0Z w m v u n d hn hd h0 hln hld).mono fun _ _ h=>⟨h.1.ret,h.2⟩
def a0x {n:Nat}(h:nDigits n<=4000):(limbs n).length<=1000000:=by
 exact J0 (a0n h) (by omega)
def a1O {a b:Nat}(h0:b≠0):(qmk false a b).num.natAbs<=a/\(qmk false a b).den<=b:=by
 unfold qmk
 constructor
 .rw[Kh,J2 h0];refine J0 (Je _ _) ?_;rw[b0r];exact O4 _
 .rw[Oj,J2 h0];exact Ef _ _
def m0i (w:World)(a b:Nat)(ha:nDigits a<=4000)(hb:nDigits b<=4000)(h0:b≠0):
 qb 285 #[.string (a0f a),.string (a0f b)] w (.tuple #[.string (c0b (qmk false a b)),.int .i64 (c0p (qmk false a b))]):=by
 have sa:=a0y a;have sb:=a0y b;have e1:iM (a0f a)=false:=by
  unfold iM Lib.hasPrefix;rw[a0t];exact f0n a
 have e2:iD (a0f a)=a0f a:=b0Z e1;have e3:iB (a0f a)=true:=by
  unfold iB;rw[e1,e2,o0i];rfl
 have HI:=fun V=>hid (i0r V (a0f a) (by omega))
 rw[e1,e2,e3]at HI;have HC:=fun V=>hid (g0D V (a0f b) (by omega))
 rw[b0I hb]at HC;have HA:=fun V=>hid (c0w V a (by omega))
 have HB:=fun V=>hid (c0w V b (by omega))
 have la:=a0x ha;have lb:=a0x hb;have HR:=fun V v u hn hd=>hid (k0M V false v u a b hn hd (by omega) la lb)
 have dq:(limbs (qmk false a b).num.natAbs).length<=1000000/\(limbs (qmk false a b).den).length<=1000000:=by
  obtain⟨k1,k2⟩:=a1O (a:=a) h0;have:=a0r k1;have:=a0r k2;exact⟨a0x (by omega),a0x (by omega)⟩
 have HW:=fun V v h=>hid (c0F V v (qmk false a b) h dq.1 dq.2)
 have hne:=a0O (show ¬ a0f b=⟨[48].toArray⟩ from by rw[<- a0q];exact b0W h0);have q0:decide ((4000:Int)<((a0f a).size:Int))=false:=by simp;omega
 obtain⟨oB,hB⟩:=gn (c0b (qmk false a b));obtain⟨oE,hE⟩:=gn (c0p (qmk false a b));rw[hB,hE]at HW;rw[hB,hE];generalize a0f a=A at *
 generalize a0f b=B at *
 clear e1 e2 e3 hB hE la lb dq sa sb ha hb h0;go_enter func285,ntmps285;go_wp2_with fail;refine zx (HI _) ?_;go_wp2_with fail;refine zx (HC _) ?_;go_wp2_with fail;refine nu (HA _) fun v3 w3 hv3 hb3=>?_;obtain⟨y3,N3⟩:=zu hb3 hv3;clear hb3 hv3;go_wp2_with fail;refine nu (HB _) fun v4 w4 hv4 hb4=>?_;have y4:=qx y3 hb4;obtain⟨N4,M4⟩:=zu hv4 (N3.out.call hb4);clear hb4 hv4;go_wp2_with fail;refine nu (HR _ _ _ M4.out N4.out) fun v5 w5 hv5 hb5=>?_;have y5:=qx y4 hb5;have N5:=hid hv5;clear hb5;obtain⟨N,D,rfl,-,-⟩:=hv5.ex;clear hv5;go_wp2_with fail;refine nw (HW _ _ N5.out) y5 fun w6 y6=>?_;go_wp2_with fail;go_ret2
 exact⟨rfl,y6.out⟩
def z0n (w:World):(convert 21 9 (.int .i32 48)).run prog w=.ok (.string ⟨#[48]⟩) w:=by kernel_rfl
def z0m (w:World):(convert 21 9 (.int .i32 49)).run prog w=.ok (.string ⟨#[49]⟩) w:=by kernel_rfl
def z0l (w:World):(convert 21 9 (.int .i32 50)).run prog w=.ok (.string ⟨#[50]⟩) w:=by kernel_rfl
def z0k (w:World):(convert 21 9 (.int .i32 51)).run prog w=.ok (.string ⟨#[51]⟩) w:=by kernel_rfl
def z0j (w:World):(convert 21 9 (.int .i32 52)).run prog w=.ok (.string ⟨#[52]⟩) w:=by kernel_rfl
def z0i (w:World):(convert 21 9 (.int .i32 53)).run prog w=.ok (.string ⟨#[53]⟩) w:=by kernel_rfl
def z0h (w:World):(convert 21 9 (.int .i32 54)).run prog w=.ok (.string ⟨#[54]⟩) w:=by kernel_rfl
def z0g (w:World):(convert 21 9 (.int .i32 55)).run prog w=.ok (.string ⟨#[55]⟩) w:=by kernel_rfl
def z0f (w:World):(convert 21 9 (.int .i32 56)).run prog w=.ok (.string ⟨#[56]⟩) w:=by kernel_rfl
def z0e (w:World):(convert 21 9 (.int .i32 57)).run prog w=.ok (.string ⟨#[57]⟩) w:=by kernel_rfl
def p0R (d:Nat)(h:d<10)(w:World):(convert 21 9 (.int .i32 (((48+d:Nat)):Int))).run prog w=.ok (.string ⟨[UInt8.ofNat (48+d)].toArray⟩) w:=by
 obtain rfl | rfl | rfl | rfl | rfl | rfl | rfl | rfl | rfl | rfl:d=0\/d=1\/d=2\/d=3\/d=4\/d=5\/d=6\/d=7\/d=8\/d=9:=by omega
 .exact z0n w
 .exact z0m w
 .exact z0l w
 .exact z0k w
 .exact z0j w
 .exact z0i w
 .exact z0h w
 .exact z0g w
 .exact z0f w
 .exact z0e w
def i0s (w:World)(n:Nat)(h:n<=9223372036854775807):Calls prog 149 #[.int .i64 n] w fun e w'=>e=.returned (.tuple #[t0K n,.int .i64 0])/\w=w':=by
 have hd20:=hid (show nDigits n<=19 from a0l (by omega) (by omega));go_enter func149,ntmps149;go_wp2_with fail
 go_loop [0,4] (fun nn ss=>∃ (m:Nat) (l:List UInt8),nn=.int .i64 m/\m<=9223372036854775807/\ss=.string ⟨l.toArray⟩/\l.length<=19/\Hid (decDigits n=decDigits m++l)) (fun nn _=>(intOf nn).toNat)
 case atStart=>exact⟨n,[],rfl,h,rfl,by simp,by simp[Hid]⟩
 case round=>
  obtain⟨m,l,rfl,hm,rfl,hl,hd⟩:=hrel;have hc:=p0R (m%10) (by omega);have hz:(((48+m%10:Nat)):Int)=48+(m:Int)%10:=by omega
  rw[hz]at hc;by_cases h9:9<m
  .have q1:decide ((9:Int)<(m:Int))=true:=by simp;omega
   have hdm:=hid (a0Y (u:=m) (by omega));have hl19:l.length+1<=19:=by
    have h1:=congrArg List.length hd.out;rw[J5,I9]at h1;have h2:=hd20.out;have h3:=i0d m;omega
   clear hz;go_wp2_with fail;go_round
   case rel=>exact⟨m / 10,UInt8.ofNat (48+m%10)::l,by go_num,by omega,by simp[Go.ByteArray.mk_append_mk],by simpa using hl19,by rw[Hid,hd.out,hdm.out];simp⟩
   case measure=>simp[intOf]<;>omega
  .have q1:decide ((9:Int)<(m:Int))=false:=by simp;omega
   have hm9:m<10:=by omega
   have hdm:=hid (a0u hm9);have hmm:m%10=m:=Bw hm9;rw[hmm]at hc;have hmI:(48+(m:Int)%10)=48+(m:Int):=by omega
   rw[hmI]at hc;clear hz hmm hmI h9;go_wp2_with fail;go_ret2
   refine⟨u0s ?_ rfl,rfl⟩;rw[t0K,hd.out,hdm.out];simp[Go.ByteArray.mk_append_mk]
section
def c0I (w:World)(v u:Value)(a b:Nat)(ha:IsN .i64 w v a)(hb:IsN .i64 w u b)(hla:(limbs a).length<=1000000)(hlb:(limbs b).length<=1000000):
 Calls prog 150 #[v,u] w fun e w'=>RetFr w.heap.size .i64 (a+b) e w'/\Below w.heap.size w w':=by
 obtain⟨i0,hi,hz0,hz1,hz2⟩:=Dx j0I;obtain⟨a1,c1,rfl,h1,h2,h3⟩:=ha.openI;obtain⟨a2,c2,rfl,k1,k2,k3⟩:=hb.openI;obtain⟨H3,K3⟩:=zu h3 k3;clear h3 k3 ha hb;obtain⟨n,ea⟩:=gn ((limbs a).length);obtain⟨m,eb⟩:=gn ((limbs b).length);rw[ea]at h1 hla |-;rw[eb]at k1 hlb |-;obtain⟨HA,HB⟩:=zu ea eb;clear ea eb;go_enter func150,ntmps150;go_wp2_with fail
 go_loopw [5,6,7] (fun o cc i wr=>∃ (s:List Nat) (c:Nat) (C:Int),i=.int .i64 s.length/\cc=.int .i64 C/\C=(c:Int)/\c<=1/\s.length<=1000001/\(s.length<=n\/s.length<=m\/c=0)/\Hid (PlusI a b s c)/\Hid (wr.ownsRow w.heap.size 3 1 o s.length (b0p .i64 s))/\Hid (Below w.heap.size w wr))
  (fun _ _ i _=>1000002-(intOf i).toNat)
 case atStart=>exact⟨[],0,0,rfl,rfl,rfl,by omega,by simp,.inl (by simp),PlusI.start a b,Cq _ _ _ _,J4 _ _⟩
 case round=>
  obtain⟨s,c,C,rfl,rfl,hC,hc1,hs1,hs2,hP,hO,hB⟩:=hrel;obtain⟨ao,co,rfl⟩:=b0l hO.out;by_cases hA:s.length<n
  focus
   obtain⟨x,hx⟩:∃ x,(limbs a)[s.length]?=some x:=⟨_,Q0 (by rw[HA.out];exact hA)⟩;obtain⟨g,og,rfl,hg,hc⟩:=H3.out _ x hx;have hc':=(hB.out.cell (p:=⟨g,og+s.length,none⟩) hg).trans hc;have hxl:=(a0o a).get hx;have HX:=hid hx;clear hx hc;by_cases hB':s.length<m
   focus
    obtain⟨y,hy⟩:∃ y,(limbs b)[s.length]?=some y:=⟨_,Q0 (by rw[HB.out];exact hB')⟩;obtain⟨g',og',rfl,hg',hd⟩:=K3.out _ y hy;have hd':=(hB.out.cell (p:=⟨g',og'+s.length,none⟩) hg').trans hd;have hyl:=(a0o b).get hy;have HY:=hid hy;clear hy hd;rcases (show c=0\/c=1 by omega) with rfl | rfl
    focus
     obtain rfl:C=0:=by omega
     clear hC;have HN:=hid (hP.out.next (by rw[HA.out];exact .inl hA));rw[a0K HX.out,a0K HY.out]at HN;obtain⟨t,ht⟩:=gn (x+0+y)
    rotate_left
    focus
     obtain rfl:C=1:=by omega
     clear hC;have HN:=hid (hP.out.next (by rw[HA.out];exact .inl hA));rw[a0K HX.out,a0K HY.out]at HN;obtain⟨t,ht⟩:=gn (x+1+y)
   rotate_left 2
   focus
    skip
    rcases (show c=0\/c=1 by omega) with rfl | rfl
    focus
     obtain rfl:C=0:=by omega
     clear hC;have HN:=hid (hP.out.next (by rw[HA.out];exact .inl hA));rw[a0K HX.out,b0h (by rw[HB.out];omega)]at HN;obtain⟨t,ht⟩:=gn (x+0+0)
    rotate_left
    focus
     obtain rfl:C=1:=by omega
     clear hC;have HN:=hid (hP.out.next (by rw[HA.out];exact .inl hA));rw[a0K HX.out,b0h (by rw[HB.out];omega)]at HN;obtain⟨t,ht⟩:=gn (x+1+0)
  rotate_left 4
  focus
   skip
   by_cases hB':s.length<m
   focus
    obtain⟨y,hy⟩:∃ y,(limbs b)[s.length]?=some y:=⟨_,Q0 (by rw[HB.out];exact hB')⟩;obtain⟨g',og',rfl,hg',hd⟩:=K3.out _ y hy;have hd':=(hB.out.cell (p:=⟨g',og'+s.length,none⟩) hg').trans hd;have hyl:=(a0o b).get hy;have HY:=hid hy;clear hy hd;rcases (show c=0\/c=1 by omega) with rfl | rfl
    focus
     obtain rfl:C=0:=by omega
     clear hC;have HN:=hid (hP.out.next (by rw[HB.out];exact .inr (.inl hB')));rw[b0h (by rw[HA.out];omega),a0K HY.out]at HN;obtain⟨t,ht⟩:=gn (0+0+y)
    rotate_left
    focus
     obtain rfl:C=1:=by omega
     clear hC;have HN:=hid (hP.out.next (by rw[HB.out];exact .inr (.inl hB')));rw[b0h (by rw[HA.out];omega),a0K HY.out]at HN;obtain⟨t,ht⟩:=gn (0+1+y)
   rotate_left 2
   focus
    skip
    rcases (show c=0\/c=1 by omega) with rfl | rfl
    .obtain rfl:C=0:=by omega
     clear hC;have hs:=hid (hP.out.done (by rw[HA.out];exact hA) (by rw[HB.out];exact hB') rfl);go_wp2_with fail;go_ret
     exact⟨⟨_,rfl,g0F hO.out hs.out,fun g hg=>(hO.out.lt g hg).1⟩,hB.out⟩
    focus
     obtain rfl:C=1:=by omega
     clear hC;have HN:=hid (hP.out.next (by exact .inr (.inr (by omega))));rw[b0h (by rw[HA.out];omega),b0h (by rw[HB.out];omega)]at HN;obtain⟨t,ht⟩:=gn (0+1+0)
  all_goals
   rw[ht]at HN;have HT:=hid ht;clear ht;go_wp2_with (at_builtin;refine Dz _ rfl _ _ 79 rfl w.heap.size 3 i0 (.int .i64 0) 1 8 Lf hi hz0 hz1 hz2 rfl (by decide) _ s.length _ rfl (hO.out.alloc _) ⟨wr.heap.size,0,none⟩ 1 1 [_] rfl rfl (Eu wr _ _) (by simp[Value.oneCell']) (by unfold maxLen;omega) (by omega) (by have:=hB.out.size;simp;omega) ?_;intro v' w3 hown3 hgrow3 _;have HO3:=hid hown3;have HG3:=hid hgrow3;clear hown3 hgrow3)
   obtain⟨n1,n2⟩:=f0j (z:=t%1000000000) hO.out hB.out HO3.out HG3.out (by have:=HT.out;omega);obtain⟨N1,N2⟩:=zu n1 n2;clear n1 n2 HO3 HG3;obtain⟨a3,k3,rfl⟩:=b0l N1.out;go_wp2_with fail;go_roundw
   case rel=>exact⟨s ++ [t%1000000000],t / 1000000000,_,by simp,rfl,by have:=HT.out;omega,HN.out.c1,by simp<;>omega,by have:=HT.out;simp<;>omega,HN,N1,N2⟩
   case measure=>simp[intOf]<;>omega
def d0E (w:World)(v u:Value)(a b:Nat)(ha:IsN .i64 w v a)(hb:IsN .i64 w u b)(hla:(limbs a).length<=1000000)(hlb:(limbs b).length<=1000000):
 Calls prog 150 #[v,u] w fun e w'=>i0e .i64 (a+b) e w'/\Below w.heap.size w w':=
 (c0I w v u a b ha hb hla hlb).mono fun _ _ h=>⟨h.1.ret,h.2⟩
def k0O (w:World)(n:Nat)(h:n<=9223372036854775807):Calls prog 55 #[.int .i64 n] w fun e w'=>e=.returned (.string (a0f n))/\w=w':=by
 go_enter func55,ntmps55;go_wp2_with fail;refine zv (i0s _ n h) ?_;rw[b0s];go_wp2_with fail;go_ret
 exact⟨rfl,rfl⟩
def j0j (w:World)(n:Nat)(h:n<=9223372036854775807):Calls prog 286 #[.int .i64 n] w fun e w'=>i0e .i64 n e w'/\Below w.heap.size w w':=by
 have hd:=hid (show nDigits n<=9000 from J0 (a0l (k:=19) (by omega) (by omega)) (by omega));go_enter func286,ntmps286;go_wp2_with fail;refine (k0O _ n h).mono ?_;rintro e w1 ⟨rfl,rfl⟩;go_wp2_with fail;refine ng (c0w _ n hd.out) fun v w1 hv hb=>?_;go_wp2_with fail;go_ret
 exact⟨⟨_,rfl,hv⟩,hb⟩
def d0a {n k:Nat}(h:n<2 ^ k):(limbs n).length<=k:=
 a0g.2 (J7 h (Jm (by omega) k))
def bv (l:List UInt8):Nat:=l.foldl (fun a b=>a+a+(if b=49 then 1 else 0)) 0
def z0G (l:List UInt8)(b:UInt8):bv (l ++ [b])=bv l+bv l+(if b=49 then 1 else 0):=by simp[bv]
def Cr:=@List.take_add_one
def m0X {l:List UInt8}{i:Nat}{b:UInt8}(h:l[i]?=some b):bv (l.take (i+1))=bv (l.take i)+bv (l.take i)+(if b=49 then 1 else 0):=by
 rw[Cr,h];exact z0G _ _
theorem z0H {l:List UInt8}:∀ (i:Nat),i<=l.length->bv (l.take i)<2 ^ i
 | 0,_=>by simp[bv]
 | i+1,h=>by
  have ih:=z0H (l:=l) i (by omega);rw[m0X (l:=l) (i:=i) (b:=l[i]) (Q0 (by omega)),E9]
  split<;>omega
def u0y (w:World)(s:ByteArray)(hs:s.size<=100000):Calls prog 322 #[.string s] w fun e w'=>i0e .i64 (bv s.data.toList) e w'/\Below w.heap.size w w':=by
 have hsl:=hid (show s.data.toList.length=s.size from by simp);go_enter func322,ntmps322;go_wp2_with fail;refine ng (j0j _ 0 (by omega)) fun v w1 hv hb=>?_;obtain⟨V,B⟩:=zu hv hb;clear hv hb;go_wp2_with fail
 go_loopw [3,4] (fun o ii wr=>∃ i:Nat,ii=.int .i64 i/\i<=s.size/\Hid (IsN .i64 wr o (bv (s.data.toList.take i)))/\Hid (Below w.heap.size w wr)) (fun o ii wr=>s.size-(intOf ii).toNat)
 case atStart=>exact⟨0,rfl,K5 _,V,B⟩
 case round=>
  obtain⟨i,rfl,hi,hO,hB⟩:=hrel;by_cases hlt:i<s.size
  .have hget:=c0O hlt;have hl:=z0H (l:=s.data.toList) i (by rw[hsl.out];exact hi);have hbt:=hid (m0X hget);have ll:Hid ((limbs (bv (s.data.toList.take i))).length<=1000000):=J0 (d0a hl) (by omega);have ll2:Hid ((limbs (bv (s.data.toList.take i)+bv (s.data.toList.take i))).length<=1000000):=by
    refine J0 (d0a (k:=i+1) ?_) (by omega);rw[E9];omega
   have l1:Hid ((limbs 1).length<=1000000):=by show _<=_;rw[d0b];decide
   by_cases hb:s[i]=49
   .have q1:((s[i].toNat:Int)==49)=true:=by rw[hb];rfl
    rw[J3 hb]at hbt;clear hget hl hb;go_wp2_with fail;refine ng (d0E _ _ _ _ _ hO.out hO.out ll.out ll.out) fun v2 w2 hv2 hb2=>?_;have V2:=hid hv2;have B2:=qx hB hb2;clear hv2 hb2;go_wp2_with fail;refine ng (j0j _ 1 (by omega)) fun v3 w3 hv3 hb3=>?_;have V3:=hid hv3;have B3:=qx B2 hb3;have V2':=hid (V2.out.call hb3);clear hv3 hb3 V2;go_wp2_with fail;refine ng (d0E _ _ _ _ _ V2'.out V3.out ll2.out l1.out) fun v4 w4 hv4 hb4=>?_;have V4:=hid hv4;have B4:=qx B3 hb4;clear hv4 hb4;go_wp2_with fail;go_roundw
    case rel=>exact⟨i+1,by go_num,by omega,V4.out.cast hbt.out.symm,B4⟩
    case measure=>simp[intOf]<;>omega
   .have q1:((s[i].toNat:Int)==49)=false:=by
     rw[M5];intro e;refine hb ?_;have:s[i].toNat=(49:UInt8).toNat:=by simp;omega
     exact Fa.1 this
    rw[J2 hb]at hbt;clear hget hl hb;go_wp2_with fail;refine ng (d0E _ _ _ _ _ hO.out hO.out ll.out ll.out) fun v2 w2 hv2 hb2=>?_;have V2:=hid hv2;have B2:=qx hB hb2;clear hv2 hb2;go_wp2_with fail;go_roundw
    case rel=>exact⟨i+1,by go_num,by omega,V2.out.cast hbt.out.symm,B2⟩
    case measure=>simp[intOf]<;>omega
  .obtain rfl:i=s.size:=by omega
   go_wp2_with fail;go_ret
   refine⟨⟨_,rfl,hO.out.cast ?_⟩,hB.out⟩;rw[<- hsl.out,Ei]
def n0I (w:World)(n:Nat)(hn:n<=100000):Calls prog 221 #[.int .i64 n] w fun e w'=>i0e .i64 (2 ^ n) e w'/\Below w.heap.size w w':=by
 go_enter func221,ntmps221;go_wp2_with fail;refine ng (j0j _ 1 (by omega)) fun v w1 hv hb=>?_;obtain⟨V,B⟩:=zu hv hb;clear hv hb;go_wp2_with fail
 go_loopw [0,3] (fun nn o wr=>∃ j:Nat,nn=.int .i64 j/\j<=n/\Hid (IsN .i64 wr o (2 ^ (n-j)))/\Hid (Below w.heap.size w wr)) (fun nn o wr=>(intOf nn).toNat)
 case atStart=>exact⟨n,rfl,O4 _,by rw[Bq,Dd];exact V,B⟩
 case round=>
  obtain⟨j,rfl,hj,hO,hB⟩:=hrel;by_cases h0:0<j
  .have ll:Hid ((limbs (2 ^ (n-j))).length<=1000000):=J0 (d0a (k:=n-j+1) (Hg (by omega) (by omega))) (by omega);have hs:Hid (2 ^ (n-j)+2 ^ (n-j)=2 ^ (n-(j-1))):=by
    show _=_
    rw[show n-(j-1)=n-j+1 by omega,E9];omega
   go_wp2_with fail;refine ng (d0E _ _ _ _ _ hO.out hO.out ll.out ll.out) fun v2 w2 hv2 hb2=>?_;have V2:=hid hv2;have B2:=qx hB hb2;clear hv2 hb2;go_wp2_with fail;go_roundw
   case rel=>exact⟨j-1,by go_num,by omega,V2.out.cast hs.out,B2⟩
   case measure=>simp[intOf]<;>omega
  .obtain rfl:j=0:=by omega
   go_wp2_with fail;go_ret
   exact⟨⟨_,rfl,hO.out⟩,hB.out⟩
def n0K (w:World)(s:ByteArray)(hs:s.size<=9223372036854775807):Calls prog 207 #[.string s] w fun e w'=>e=.returned (.int .i64 (k0i s))/\w=w':=by
 have hsl:=hid (show s.data.toList.length=s.size from by simp);go_enter func207,ntmps207;go_wp2_with fail
 go_loop [3] (fun ii=>∃ i:Nat,ii=.int .i64 i/\i<=s.size/\Hid (∀ (j:Nat) (b:UInt8),j<i->s.data.toList[j]?=some b->b=48\/b=49)) (fun ii=>s.size-(intOf ii).toNat)
 case atStart=>exact⟨0,rfl,K5 _,fun j b hj=>absurd hj (by omega)⟩
 case round=>
  obtain⟨i,rfl,hi,hI⟩:=hrel;by_cases hlt:i<s.size
  .have hb:=hid (c0O hlt);have ne:∀ k:UInt8,s[i]≠k->((s[i].toNat:Int) != (k.toNat:Int))=true:=fun k h=>by
    rw[bne_iff_ne];intro e;exact h (Fa.1 (by omega))
   by_cases c1:s[i]=48
   .have q1:((s[i].toNat:Int) != 48)=false:=by rw[c1];rfl
    have hB:=hid c1;clear c1 ne;go_wp2_with fail;go_round
    case rel=>exact⟨i+1,by go_num,by omega,fun j b hj hjb=>by
     by_cases e:j=i
     .subst e;rw[hb.out]at hjb;cases hjb;exact .inl hB.out
     .exact hI.out j b (by omega) hjb⟩
    case measure=>simp[intOf]<;>omega
   .have q1:((s[i].toNat:Int) != 48)=true:=ne 48 c1;by_cases c2:s[i]=49
    .have q2:((s[i].toNat:Int) != 49)=false:=by rw[c2];rfl
     have hB:=hid c2;clear c1 c2 ne;go_wp2_with fail;go_round
     case rel=>exact⟨i+1,by go_num,by omega,fun j b hj hjb=>by
      by_cases e:j=i
      .subst e;rw[hb.out]at hjb;cases hjb;exact .inr hB.out
      .exact hI.out j b (by omega) hjb⟩
     case measure=>simp[intOf]<;>omega
    .have q2:((s[i].toNat:Int) != 49)=true:=ne 49 c2;have hB:=hid (And.intro c1 c2);clear c1 c2 ne;go_wp2_with fail;go_ret
     refine⟨a0R ?_,rfl⟩;have:o0C s=false:=by
      unfold o0C;rw[Gm];intro h;rw[Bz]at h;have:=h _ (U7 hb.out);simp[hB.out.1,hB.out.2]at this
     unfold k0i;rw[this]
     rfl
  .have e1:i=s.size:=by omega
   subst e1;go_wp2_with fail;go_ret
   refine⟨a0R ?_,rfl⟩;have:o0C s=true:=by
    unfold o0C;rw[Bz];intro b hb;obtain⟨j,hj,rfl⟩:=Hp hb;have:=hI.out j _ (by rw[<- hsl.out];exact hj) (Q0 hj);simpa using this
   unfold k0i;rw[this]
   rfl
open Go.Shelf
def tb (l:List UInt8):ByteArray:=⟨l.toArray⟩
end
end Go.Proofs.YtfkpfpobmobnbaaGreatDoor
namespace Go.Proofs
open Go.Shelf
def Tryz.lays212_ren:Go.Shelf.Ren:=⟨fun | 212=>202 | 263=>262 | 264=>263 | n=>n,fun | 46=>174 | 51=>224 | 146=>247 | 53=>161 | 148=>249 | n=>n,fun | n=>n⟩
theorem Tryz.lays212:Go.Proofs.Lays.n212 Tryz.prog Tryz.lays212_ren:={
 mixed:=by kernel_rfl
 f212:=qj Tryz.func202 (by kernel_rfl)
 f263:=qj Tryz.func262 (by kernel_rfl)
 f264:=qj Tryz.func263 (by kernel_rfl)
 t46:=Dj
 a46:=Gd
 z46:=Fp
 v46:=Dv
 t51:=Ed
 a51:=Gz
 z51:=Gh
 v51:=Ep
 t53:=Dk
 a53:=Gw
 z53:=Gg
 v53:=Eo
 t146:=Tryz.underlying247
 a146:=Tryz.isAgg247
 z146:=Tryz.sizeOf247
 v146:=Tryz.zeroValue247
 t148:=Tryz.underlying249
 a148:=Tryz.isAgg249
 z148:=Tryz.sizeOf249
 v148:=Tryz.zeroValue249 }
open Go.RowKit Go.Lib in
theorem Tryz.bits_Mul (x y:Nat)(hx:x<18446744073709551616)(hy:y<18446744073709551616)(w:World):
 Calls Tryz.prog 202 #[.int .u64 x,.int .u64 y] w fun e w'=>e=.returned (.tuple #[.int .u64 ((x*y / 18446744073709551616:Nat):Int),.int .u64 ((x*y%18446744073709551616:Nat):Int)])/\w'=w:=Any.bits_Mul Tryz.lays212 x y hx hy w
end Go.Proofs
namespace Go.Proofs.YtfkpfpobmobnbaaGreatDoor
open Go.Proofs.Tryz Go.RowKit
open Go.Lib (decDigits nDigits)
def b0v (l:List ByteArray):List Value:=l.map Value.string
@[simp] theorem strsR_length (l:List ByteArray):(b0v l).length=l.length:=by simp[b0v]
def c0S {l:List ByteArray}{i:Nat}{s:ByteArray}(h:l[i]?=some s):(b0v l)[i]?=some (.string s):=by simp[b0v,h]
def k0x (l:List ByteArray):∀ u∈b0v l,u.oneCell'=true:=by
 intro u hu;obtain⟨x,_,rfl⟩:=Gi.1 hu
 rfl
def i0x (n:Nat)(h:n<=1000000)(W:World):(Instr.makeSlice 106 (.int .i64 (n:Int)) (.int .i64 (n:Int))).run prog W=.ok (.slice (some ⟨W.heap.size,0,none⟩) n n) (W.alloc (.cells (madeCells #[.string ⟨#[]⟩] n) 23)):=
 Mf (P:=prog) 106 23 (.string ⟨#[]⟩) 16 underlying106 (by kernel_rfl) rfl .i64 .i64 n (by omega) (by omega) W
def i0y (n:Nat):madeCells #[.string ⟨#[]⟩] n=(b0v (List.replicate n ⟨#[]⟩)).toArray:=by
 apply Gu
 intro i;unfold madeCells b0v;by_cases hi:i<n<;>simp[hi,Oh]
def l0L (s:ByteArray)(n k:Nat):List Value:=b0v (List.replicate k s++List.replicate (n-k) ⟨#[]⟩)
def Nx:=@List.map_replicate
def h0i {s:ByteArray}{n k m:Nat}(h:k+m<=n):splice (l0L s n k) k (b0v (List.replicate m s))=l0L s n (k+m):=by
 unfold splice l0L b0v;simp only[Ay,Nx,Er];rw[List.take_append_of_le_length (by simp),E7 (by simp),List.drop_append,Cj (by simp),Dq,Er,List.drop_replicate,<- Au,List.replicate_append_replicate];rw[show n-k-(k+m-k)=n-(k+m) by omega]
def Gt:=@Nat.min_eq_left
def f0a (w:World)(g0 n:Nat)(s:ByteArray)(h1:1<=n)(h2:n<=100000)(hc:w.cell? ⟨g0,0,none⟩=some (.string s)):
 Calls prog 124 #[.slice (some ⟨g0,0,none⟩) 1 1,.int .i64 n] w fun e w'=>
  e=.returned (.slice (some ⟨w.heap.size,0,none⟩) n n)/\Blk w' w.heap.size (b0v (List.replicate n s)).toArray 23/\Below w.heap.size w w':=by
 have HM:=fun W=>hid (i0x n (by omega) W)
 have HB:=fun W=>hid (Tryz.bits_Mul 1 n (by omega) (by omega) W)
 have e1:(((1*n / 18446744073709551616:Nat)):Int)=0:=by
  rw[Hn,Ds (by omega)];rfl
 have e2:(((1*n%18446744073709551616:Nat)):Int)=(n:Int):=by
  rw[Hn,Bw (by omega)]
 rw[e1,e2]at HB;have hn0:=qw n
 have hn1:(n:Int)<=100000:=by omega
 have q0:decide ((n:Int)<0)=false:=by simp
 have hsrc:∀ j v,(b0v [s])[j]?=some v->w.cell? ((⟨g0,0,none⟩:Addr).add j)=some v:=by
  intro j v hj;rcases j with _ | j
  .simp[b0v]at hj;rw[<- hj];exact hc
  .simp[b0v]at hj
 obtain⟨HSRC,H1,H2⟩:=zg hsrc h1 h2;clear e1 e2 hsrc hc h1 h2;go_enter func124,ntmps124;go_wp2_with fail;refine (HB _).out.mono ?_;rintro e w1 ⟨rfl,rfl⟩;clear HB;have HM1:=(HM w1).out;have hc1:(w1.alloc (.cells (madeCells #[.string ⟨#[]⟩] n) 23)).heap[w1.heap.size]?=some (.cells (l0L s n 0).toArray 23 (0,0)):=by
  have:=Blk.new w1 (madeCells #[.string ⟨#[]⟩] n) 23;rw[i0y]at this |-;simpa[l0L,Blk]using this
 have hc2:(b0v [s]).length=Nat.min 1 n:=(Gt H1.out).symm;have hc3:∀ j v,(b0v [s])[j]?=some v->(w1.alloc (.cells (madeCells #[.string ⟨#[]⟩] n) 23)).cell? ((⟨g0,0,none⟩:Addr).add j)=some v:=fun j v h=>
  have h2:=HSRC.out j v h
  (((J4 w1.heap.size w1).alloc nr _).cell (a0e h2)).trans h2
 have hc4:0+(b0v [s]).length<=(l0L s n 0).length:=by simp[b0v,l0L];have:=H1.out;omega
 have hc5:=(J4 w1.heap.size w1).alloc nr (.cells (madeCells #[.string ⟨#[]⟩] n) 23);obtain⟨C1,C2,C3,C4,C5⟩:=zd hc1 hc2 hc3 hc4 hc5;have hsp:splice (l0L s n 0) 0 (b0v [s])=l0L s n 1:=by
  have:=h0i (s:=s) (n:=n) (k:=0) (m:=1) (by have:=H1.out;omega);simpa using this
 have HSP:=hid hsp;clear hc1 hc2 hc3 hc4 hc5 HM hsp;go_wp2_with (refine wpList_copy_splice rfl (.tmp 31) (.tmp 32) 106 106 rfl 23 underlying106 (by kernel_rfl) (some ⟨w1.heap.size,0,none⟩) (some ⟨g0,0,none⟩) n n 1 1 rfl rfl w1.heap.size 0 (l0L s n 0) 23 C1.out (b0v [s]) C2.out (fun _=>⟨rfl,_,rfl,C3.out⟩) C4.out (k0x _) w1.heap.size w1 C5.out nr ?_;intro w2 hg2 hb2)
 rw[HSP.out]at hg2;obtain⟨G2,B2⟩:=zu (show Blk w2 w1.heap.size (l0L s n 1).toArray 23 from hg2.out) hb2;obtain⟨H,hH⟩:=gn (w1.heap.size);rw[hH]at G2 B2 |-;clear hg2 hb2 HM1 C1 C2 C3 C4 C5 HSP HSRC;have HH:=hid hH;clear hH
 go_loopw [8] (fun i wr=>∃ k:Nat,i=.int .i64 (k:Nat)/\1<=k/\k<=n/\Hid (Blk wr H (l0L s n k).toArray 23)/\Hid (Below H w1 wr)) (fun i wr=>n-(intOf i).toNat)
 case atStart=>exact⟨1,rfl,O4 _,H1.out,G2.out,B2.out⟩
 case round=>
  obtain⟨k,rfl,hk1,hk2,hG,hB⟩:=hrel;by_cases hlt:k<n
  .have f0:=qw k
   have f1:(k:Int)<(n:Int):=by omega
   have f2:(k:Int)<=(n:Int):=by omega
   obtain⟨K1,K2⟩:=zu hk1 hlt;clear hk1 hk2;go_wp2_with fail;refine a0j [0,1,2,3,4,5,6] 3 (fun _=>True) (by kernel_rfl) (by kernel_rfl) (by kernel_rfl) (by kernel_rfl) trivial ?_
   iterate 7
    refine⟨_,rfl,?_⟩;apply Exists.intro
    refine⟨.inl ⟨by rfl,?_⟩,?_⟩
    ·(intro W' hW';clear hW';go_simp;try (with_reducible rfl))
    go_frame
   refine a0c (i:=7) (by kernel_rfl) rfl rfl ?_;obtain⟨m,hm⟩:=gn (Nat.min k (n-k));have hm1:m<=k:=hm ▸ Nat.min_le_left _ _;have hm2:m<=n-k:=hm ▸ Nat.min_le_right _ _;have hm3:1<=m:=by rw[<- hm];exact Nat.le_min.2 ⟨K1.out,by omega⟩
   have hsrc:∀ j v,(b0v (List.replicate m s))[j]?=some v->wr.drew.cell? ((⟨H,0,none⟩:Addr).add j)=some v:=fun j v hj=>by
    rw[Addr.add_lit,F9];have hjm:j<m:=by
     have:=(U4.1 hj).1;simpa using this
    have hv:v=.string s:=by
     rw[c0S (s:=s) (by rw[Ae,J3 hjm])]at hj;cases hj;rfl
    rw[hv];refine (Blk.cell (Blk.drew hG.out) j).trans ?_;rw[K6];exact c0S (by rw[As (by simp;omega),Ae,J3 (by omega)])
   rw[J2 (show ¬ n=k by have:=K2.out;omega)];refine wpList_copy_splice rfl (.tmp 41) (.tmp 44) 106 106 rfl 23 underlying106 (by kernel_rfl) (some ⟨H,k,none⟩) (some ⟨H,0,none⟩) (n-k) (n-k) k n rfl rfl H k (l0L s n k) 23 hG.out (b0v (List.replicate m s)) (by simp[hm]) (fun _=>⟨rfl,_,rfl,hsrc⟩) (by simp[l0L,b0v]<;>omega) (k0x _) H w1 (hB.out.drew) nr ?_;intro w4 hg4 hb4;rw[show (b0v (List.replicate m s)).length=m by simp];rw[h0i (by omega)]at hg4;obtain⟨G4,B4,M2,M3⟩:=zc (show Blk w4 H (l0L s n (k+m)).toArray 23 from hg4.out) hb4 hm2 hm3;have f5:=qw m
   have f6:(m:Int)<=100000:=by omega
   have ew:IntKind.i64.wrap ((k:Int)+(m:Int))=(k:Int)+(m:Int):=by rw[U0 _ ⟨by omega,by omega⟩]
   clear hm hm1 hm2 hm3 hsrc hg4 hb4;go_wp2_with fail;refine⟨trivial,?_⟩;refine a0V (is:=[8,9]) (g:=0) (by kernel_rfl) rfl trivial (by kernel_rfl) ?_
   iterate 2
    refine⟨_,rfl,?_⟩;apply Exists.intro
    refine⟨.inl ⟨by rfl,?_⟩,?_⟩
    ·(intro W' hW';clear hW';go_simp;try (with_reducible rfl))
    go_frame
   refine J8 (by kernel_rfl) ?_ _;simp only[b0b];go_wp2_with fail;go_roundw
   case rel=>exact⟨k+m,by rw[Ee],by have:=M3.out;omega,by have:=M2.out;have:=K2.out;omega,G4,B4⟩
   case measure=>simp[intOf]<;>(have:=M3.out;have:=K2.out;omega)
  .have e1:k=n:=by omega
   subst e1;go_wp2_with fail;go_ret
   have hh:=HH.out;subst hh;refine⟨rfl,?_,hB.out⟩;have:=hG.out;simpa[l0L]using this
def g0d (V:World)(x y:Nat)(hx:nDigits x<=4000)(hy:nDigits y<=4000)(h:nDigits (x+y)<=4000)(hL:Lay V):qb 211 #[.string (a0f x),.string (a0f y)] V (.string (a0f (x+y))):=by
 have h2:=b1z V (a0f x) (a0f y) (a0M hx) (a0M hy) hL;rwa[d0m hx hy h]at h2
def h0w (V:World)(x y:Nat)(hx:nDigits x<=4000)(hy:nDigits y<=4000)(h:nDigits (x*y)<=4000)(hL:Lay V):qb 212 #[.string (a0f x),.string (a0f y)] V (.string (a0f (x*y))):=by
 have h2:=y0O V (a0f x) (a0f y) (a0M hx) (a0M hy) hL;rwa[d0m hx hy h]at h2
def c1P (V:World)(x y:Nat)(hx:nDigits x<=4000)(hy:nDigits y<=4000):qb 274 #[.string (a0f x),.string (a0f y)] V (.int .i64 (b0g x y)):=by
 have h2:=r0S V (a0f x) (a0f y) (a0M hx) (a0M hy);rwa[k0a hx hy]at h2
def y0f (V:World)(x y:Nat)(hx:nDigits x<=4000)(hy:nDigits y<=4000)(h:y<=x)(hL:Lay V):qb 214 #[.string (a0f x),.string (a0f y)] V (.tuple #[.string (a0f (x-y)),.int .i64 0]):=by
 have h2:=c1R V (a0f x) (a0f y) (a0M hx) (a0M hy) hL;have h3:¬ 4000<nDigits (x-y):=by have:=a0r (show x-y<=x by omega);omega
 have e1:j0u (x0p (bN (a0f x)) (bN (a0f y))) (a0f x) (a0f y)=a0f (x-y):=by
  rw[b0A,b0A,j0u,J3 ⟨b0I hx,b0I hy⟩,x0p,J2 (by omega),n0G,J2 h3]
 have e2:h0v (x0o (bN (a0f x)) (bN (a0f y))) (a0f x) (a0f y)=0:=by
  rw[b0A,b0A,h0v,J3 (b0I hx),J3 (b0I hy),x0o,J2 (by omega),k0I,J2 h3]
 rwa[e1,e2]at h2
def p0y (n:Nat)(h:n<=1000000)(W:World):(Instr.makeSlice 261 (.int .i64 (n:Int)) (.int .i64 (n:Int))).run prog W=.ok (.slice (some ⟨W.heap.size,0,none⟩) n n) (W.alloc (.cells (madeCells #[.bool false] n) 4)):=
 Mf (P:=prog) 261 4 (.bool false) 1 underlying261 (by kernel_rfl) rfl .i64 .i64 n (by omega) (by omega) W
def i0z (f:Nat->Bool)(n:Nat):madeCells #[.bool false] (n+1)=(h0V f n 0).toArray:=by
 rw[q0t];apply Gu
 intro i;unfold madeCells;by_cases hi:i<n+1<;>simp[hi,Oh]
def d1h (w:World)(H n:Nat)(v u:Value)(f g:List Value):Prop:=∃ g1 g2,v=.slice (some ⟨g1,0,none⟩) (n+1) (n+1)/\u=.slice (some ⟨g2,0,none⟩) (n+1) (n+1)/\g1≠g2/\H<=g1/\H<=g2/\Blk w g1 f.toArray 4/\Blk w g2 g.toArray 4
def v0Y (w:World)(n N D:Nat)(e:Ending)(w':World):Prop:=∃ v u,e=.returned (.tuple #[v,u])/\d1h w' w.heap.size n v u (g0o (a0D N D) n) (g0o (a0i N D) n)
def c0q:((⟨#[48]⟩:ByteArray).toList == [48])=true:=by
 rw[Cy];rfl
def s0z (w:World)(a:ByteArray)(n N D:Nat)(ha:a.size<=100000)(he:gPE a=0)(hn:n<=1000)(hN:bN (cW a)=N)(hD:bN (qD a)=D)(hND:N<D)(hL:Lay w):
 Calls prog 275 #[.string a,.int .i64 n] w fun e w'=>v0Y w n N D e w'/\Below w.heap.size w w':=by
 have HR:=hid (d0L w a ha hL);obtain⟨c1,c2,c3,c4,-⟩:=w0T (b0R he).1;rw[J3 he,J3 he,he]at HR;rw[c1,c2,hN,hD]at HR;rw[hN]at c3;rw[hD]at c4;have dN:∀ x,x<10 ^ (eN+1)->nDigits x<=4000:=fun x h=>b0c h (by omega) (by unfold eN;omega)
 have hM:=fun W=>hid (p0y (n+1) (by omega) W)
 obtain⟨HL,HLL,HND,DN,C4,HN⟩:=zf hL hL.lt hND dN c4 hn;have wn:=qy n (by omega)
 obtain⟨sN,hsN⟩:=gn (a0f N);obtain⟨sD,hsD⟩:=gn (a0f D);rw[hsN,hsD]at HR;obtain⟨HSN,HSD⟩:=zu hsN hsD;clear ha he hn hN hD hND hL c1 c2 c3 c4 dN hsN hsD;go_enter func275,ntmps275;go_wp2_with fail;refine nz HR fun w1 B1=>?_;clear HR
 go_upto_region 2 with fail
 go_cut [4,5] (fun s4 s5 wx=>d1h wx w.heap.size n s4 s5 (h0V (a0D N D) n 0) (h0V (a0i N D) n 0)/\Below w.heap.size w wx)
 case first=>
  have X:=fun (g1 g2:Nat) (W:World) (h1:Blk W g1 (madeCells #[.bool false] (n+1)) 4) (h2:Blk W g2 (madeCells #[.bool false] (n+1)) 4) (h3:g1≠g2) (h4:w.heap.size<=g1) (h5:w.heap.size<=g2)=>hid (show d1h W w.heap.size n (.slice (some ⟨g1,0,none⟩) (n+1) (n+1)) (.slice (some ⟨g2,0,none⟩) (n+1) (n+1)) (h0V (a0D N D) n 0) (h0V (a0i N D) n 0) from⟨g1,g2,rfl,rfl,h3,h4,h5,by rw[<- i0z];exact h1,by rw[<- i0z];exact h2⟩)
  have M1:∀ W,(Instr.makeSlice 261 (.int .i64 ((n:Int)+1)) (.int .i64 ((n:Int)+1))).run prog W=.ok (.slice (some ⟨W.heap.size,0,none⟩) (n+1) (n+1)) (W.alloc (.cells (madeCells #[.bool false] (n+1)) 4)):=fun W=>(hM W).out
  clear hM
  go_region
  all_goals
   go_wp2_with fail
   go_meet
   first
    | exact⟨(X w1.heap.size (w1.heap.size+1) _ ((Blk.new w1 _ _).alloc _) (Blk.made _ _ _ (by simp)) (by omega) B1.out.size (by have:=B1.out.size;omega)).out,(((B1.out.alloc B1.out.size _).alloc (by have:=B1.out.size;simp;omega) _)).drew⟩
    | exact⟨(X (w1.heap.size+1) w1.heap.size _ (Blk.made _ _ _ (by simp)) ((Blk.new w1 _ _).alloc _) (by omega) (by have:=B1.out.size;omega) B1.out.size).out,(((B1.out.alloc B1.out.size _).alloc (by have:=B1.out.size;simp;omega) _)).drew⟩
 case rest=>
  obtain⟨⟨g1,g2,rfl,rfl,h3,h4,h5,hb1,hb2⟩,hB⟩:=hcut;obtain⟨G1,G2,B2,H3,H4,H5⟩:=zf hb1 hb2 hB h3 h4 h5;have k0:wc.cell? ⟨g2,0,none⟩=some (.bool false):=by
   refine (hb2.cell 0).trans ?_;rw[K6,b0j (K5 _)];simp
  have k1:=hb2.free 0;have z1:(0:Int)<(n:Int)+1:=by omega
  obtain⟨z,hz⟩:=gn ((sN.toList == [48]));have HZ:Hid (z=decide (N=0)):=by
   show z=decide (N=0)
   rw[<- hz];by_cases h0:N=0
   .rw[<- HSN.out,h0,a0q,c0q];simp
   .rw[<- HSN.out,a0O (l:=[48]) (by rw[<- a0q];exact b0W h0)];simp[h0]
  clear hb1 hb2 hB hM h3 h4 h5;go_wp2_with fail;obtain⟨W3,hW3⟩:=gn (wc.setCell ⟨g2,0,none⟩ (.bool z));have G3:Blk W3 g1 (h0V (a0D N D) n 1).toArray 4:=by
   rw[<- hW3,k0s (f:=a0D N D) (j:=0) rfl];exact G1.out.other (fun e=>H3.out e.symm) _
  have G4:Blk W3 g2 (h0V (a0i N D) n 1).toArray 4:=by
   have h:=G2.out.set 0 (.bool z);rw[hW3,Bv,HZ.out]at h;have h2:=g0w (f:=a0i N D) (n:=n) (j:=0) (K5 _);rw[<- h2];exact h
  have B3:Below w.heap.size w W3:=by rw[<- hW3];exact B2.out.setCell H5.out _
  rw[hW3];obtain⟨HG3,HG4,HB3⟩:=zg G3 G4 B3;have e0:Hid ((!z)=(sdx N D 0).2):=by show (!z)=_;rw[HZ.out];simp[sdx]
  clear k0 k1 hz z1 G3 G4 B3 hW3 G1 G2 B2 B1
  go_loopw [9,10,11] (fun o x j wr=>∃ i:Nat,j=.int .i64 ((i+1:Nat):Int)/\i<=n/\o=.bool (sdx N D i).2/\x=.string (a0f (sdx N D i).1)/\Hid (Blk wr g1 (h0V (a0D N D) n (i+1)).toArray 4)/\Hid (Blk wr g2 (h0V (a0i N D) n (i+1)).toArray 4)/\Hid (Below w.heap.size w wr)) (fun o x j wr=>n+1-(intOf j).toNat)
  case atStart=>exact⟨0,rfl,K5 _,by rw[e0.out],by rw[HSN.out.symm];rfl,HG3.out,HG4.out,HB3.out⟩
  case round=>
   obtain⟨i,rfl,hi,rfl,rfl,hg1,hg2,hB⟩:=hrel;cases ho:(sdx N D i).2
   .have GG1:Blk wr g1 (g0o (a0D N D) n).toArray 4:=by
     rw[<- e0S (a0D N D) n (j:=n+1) (by omega),k0t (j:=i+1) (fun k hk=>h0z ho k (by omega)) (n+1) (by omega)];exact hg1.out
    have GG2:Blk wr g2 (g0o (a0i N D) n).toArray 4:=by
     rw[<- e0S (a0i N D) n (j:=n+1) (by omega),k0t (j:=i+1) (fun k hk=>f0G ho k (by omega)) (n+1) (by omega)];exact hg2.out
    obtain⟨GG1,GG2⟩:=zu GG1 GG2;clear ho hi;go_wp2_with fail
    all_goals
     go_ret2
     exact⟨⟨_,_,rfl,⟨g1,g2,rfl,rfl,H3.out,H4.out,H5.out,GG1.out,GG2.out⟩⟩,hB.out⟩
   .by_cases hlt:i+1<=n
    .obtain⟨X,hX⟩:=gn ((sdx N D i).1);have hXD:X<D:=hX ▸ w0o HND.out i;have hs:sdx N D (i+1)=if D<=2*X then (2*X-D,decide (2*X≠D)) else (2*X,true):=by rw[sdx,J3 ho,hX]
     have h1:a0D N D (i+1)=decide (D<=2*X):=by rw[a0D,ho,hX];rfl
     have h0:a0i N D (i+1)=decide (2*X<=D):=by rw[a0i,ho,hX];rfl
     have q10:=C4.out;have d1:nDigits X<=4000:=DN.out X (by omega);have d2:nDigits (X+X)<=4000:=DN.out _ (by omega);have d3:nDigits D<=4000:=DN.out _ (by omega);have HPL:=fun V hV=>hid (g0d V X X d1 d1 d2 hV)
     have HCM:=fun V=>hid (c1P V (X+X) D d2 d3)
     rw[HSD.out]at HCM;rw[hX];have k1:wr.cell? ⟨g1,i+1,none⟩=some (.bool false):=by
      refine (hg1.out.cell (i+1)).trans ?_;rw[K6,b0j hlt];simp
     have f1:((i+1:Nat):Int)<((n+1:Nat):Int):=by omega
     have f3:((i+1:Nat):Int)<=1000:=by have:=HN.out;omega
     have HLT:=hid hlt;rcases Fk (X+X) D with hc | hc | hc
     .rw[b0N hc]at HCM;obtain⟨HS,T1,T0,HZ0⟩:=zc (show sdx N D (i+1)=(X+X,true) from by rw[hs,J2 (by omega),On]) (k0s (n:=n) (show a0D N D (i+1)=false from by rw[h1];simp;omega)) (g0w (f:=a0i N D) hlt) (show a0i N D (i+1)=true from by rw[h0];simp;omega);clear hc hs h1 h0 q10 d1 d2 d3 hX hXD ho hi;go_wp2_with fail;refine ny (HPL _ (HL.out.below hB.out HLL.out)) fun w5 hb5=>?_;obtain⟨G15,G25,B5⟩:=zg (hg1.out.call hb5) (hg2.out.call hb5) (hB.out.trans (hb5.mono hB.out.size));clear hb5;go_wp2_with fail;refine ny (HCM _) fun w6 hb6=>?_;obtain⟨G16,G26,B6⟩:=zg (G15.out.call hb6) (G25.out.call hb6) (B5.out.trans (hb6.mono B5.out.size));have m1:w6.cell? ⟨g1,i+1,none⟩=some (.bool false):=by
       refine (G16.out.cell (i+1)).trans ?_;rw[K6,b0j hlt];simp
      have m2:w6.cell? ⟨g2,i+1,none⟩=some (.bool false):=by
       refine (G26.out.cell (i+1)).trans ?_;rw[K6,b0j hlt];simp
      have m4:=G26.out.free (i+1);clear hb6 hlt k1;go_wp2_with fail;go_roundw
      case rel=>
       refine⟨i+1,by go_num,HLT.out,by rw[HS.out],by rw[HS.out],?_,?_,B6.out.setCell H5.out _⟩
       .show Blk _ _ _ _
        rw[T1.out];exact G16.out.other (fun e=>H3.out e.symm) _
       .show Blk _ _ _ _
        rw[<- T0.out,HZ0.out];have h:=G26.out.set (i+1) (.bool true);rw[Bv]at h;exact h
      case measure=>simp[intOf]<;>(have:=HLT.out;omega)
     focus
      rw[show b0g (X+X) D=0 from by rw[hc,c0P]]at HCM;have hle:D<=X+X:=by omega
      obtain⟨HS,HZ0⟩:=zu (show sdx N D (i+1)=(X+X-D,false) from by rw[hs,J3 (by omega),On];simp;omega) (show a0i N D (i+1)=true from by rw[h0];simp;omega)
     rotate_left
     focus
      rw[c0k hc]at HCM;have hle:D<=X+X:=by omega
      obtain⟨HS,HZ0⟩:=zu (show sdx N D (i+1)=(X+X-D,true) from by rw[hs,J3 (by omega),On];simp;omega) (show a0i N D (i+1)=false from by rw[h0];simp;omega)
     all_goals
      have HSU:=fun V hV=>hid (y0f V (X+X) D d2 d3 hle hV)
      rw[HSD.out]at HSU;obtain⟨T1,HZ1,T0⟩:=zg (g0w (f:=a0D N D) hlt) (show a0D N D (i+1)=true from by rw[h1];simp;omega) (g0w (f:=a0i N D) hlt);clear hc hs h1 h0 q10 d1 d2 d3 hX hXD ho hi hle;go_wp2_with fail;refine ny (HPL _ (HL.out.below hB.out HLL.out)) fun w5 hb5=>?_;obtain⟨G15,G25,B5⟩:=zg (hg1.out.call hb5) (hg2.out.call hb5) (hB.out.trans (hb5.mono hB.out.size));clear hb5;go_wp2_with fail;refine ny (HCM _) fun w6 hb6=>?_;obtain⟨G16,G26,B6⟩:=zg (G15.out.call hb6) (G25.out.call hb6) (B5.out.trans (hb6.mono B5.out.size));have m1:w6.cell? ⟨g1,i+1,none⟩=some (.bool false):=by
       refine (G16.out.cell (i+1)).trans ?_;rw[K6,b0j hlt];simp
      have m2:w6.cell? ⟨g2,i+1,none⟩=some (.bool false):=by
       refine (G26.out.cell (i+1)).trans ?_;rw[K6,b0j hlt];simp
      have m4:=G26.out.free (i+1);clear hb6 hlt k1;go_wp2_with fail;refine ny (HSU _ (HL.out.below B6.out HLL.out)) fun w7 hb7=>?_;obtain⟨G17,G27,B7⟩:=zg (G16.out.call hb7) (G26.out.call hb7) (B6.out.trans (hb7.mono B6.out.size));have n1:=(hb7.cell (a0e m1)).trans m1;have n3:=G17.out.free (i+1);have n2:(w7.setCell ⟨g1,i+1,none⟩ (.bool true)).cell? ⟨g2,i+1,none⟩=some (.bool false):=((G27.out.other (fun e=>H3.out e) (.bool true)).cell (i+1)).trans (by rw[K6,b0j HLT.out];simp);have n4:(w7.setCell ⟨g1,i+1,none⟩ (.bool true)).frozen? ⟨g2,i+1,none⟩=false:=(G27.out.other (a:=⟨g1,i+1,none⟩) (fun e=>H3.out e) (.bool true)).free (i+1);clear hb7 m1 m2 m4;go_wp2_with fail;go_roundw
      case rel=>
       refine⟨i+1,by go_num,HLT.out,by rw[HS.out],by rw[HS.out],?_,?_,((B7.out.setCell H4.out _).setCell H5.out _)⟩
       .show Blk _ _ _ _
        rw[<- T1.out,HZ1.out,<- Bv];exact (G17.out.set (i+1) (.bool true)).other (fun e=>H3.out e.symm) _
       .show Blk _ _ _ _
        rw[<- T0.out,HZ0.out,<- Bv];exact (G27.out.other (a:=⟨g1,i+1,none⟩) (fun e=>H3.out e) (.bool true)).set (i+1) _
      case measure=>simp[intOf]<;>(have:=HLT.out;omega)
    .have e1:i=n:=by omega
     subst e1;have GG1:Blk wr g1 (g0o (a0D N D) i).toArray 4:=by
      rw[<- e0S (a0D N D) i (j:=i+1) (by omega)];exact hg1.out
     have GG2:Blk wr g2 (g0o (a0i N D) i).toArray 4:=by
      rw[<- e0S (a0i N D) i (j:=i+1) (by omega)];exact hg2.out
     obtain⟨GG1,GG2⟩:=zu GG1 GG2;clear ho hi hlt;go_wp2_with fail;go_ret2
     exact⟨⟨_,_,rfl,⟨g1,g2,rfl,rfl,H3.out,H4.out,H5.out,GG1.out,GG2.out⟩⟩,hB.out⟩
section
variable {P : Program} {Q : Exit -> Act -> World -> Prop}
def d1l (l:List Oper):List (Nat×Nat):=
 (List.range l.length).reverse.flatMap fun j=>match l[j]? with | some o=>o.after.toList.map fun e=>(e.on,j) | none=>[]
def b1p (l:List Oper)(k n:Nat):Bool:=h0E l [] (d1l l) k n
theorem a0T {id:Nat}{a:Act}{w:World}{l:List Oper}(n k:Nat)(is:List Nat)(g:Nat)(S:World->Prop)(hm:P.follows .mixedOrders=true)(hk:n+k=l.length)(hlast:b1p l k n=true)(hsel:Region.noSelect (l.take n).toArray=true)(hg:g+is.length=(l.take n).toArray.size)(hB:k0U .any (l.take n).toArray is (Array.replicate (l.take n).toArray.size false)=true)(hS:S w.drew)
 (h:e0n P (l.take n) S (fun a'=>wpAnyH P .any (l.take n).toArray (b0b (c0t P l.toArray Q (l.drop n))) S g (o0V is (Array.replicate (l.take n).toArray.size false)) a' w.drew) is a):(Code.region id l.toArray true).wp P Q a w:=by
 refine wp_region_any hm ?_;have h2:=d0d (P:=P) (md:=.any) (Q:=c0t P l.toArray Q (l.drop n)) (S:=S) hsel (g:=g) hS is (Array.replicate (l.take n).toArray.size false) a hB h;rw[hg]at h2;have h3:=g0a l [] (d1l l) k n _ _ hk hlast (by simp) (fun j o _ hj=>by simp[Array.getD]at hj) (by simp) (j0x _ _ _ _ (Mh (S:=S) _ _ _ _ h2));rw[show (l.take n).toArray.size=n by simp;omega]at h3;rw[show l.toArray.size=n+k by simp[hk]];rwa[show Array.replicate n false++Array.replicate k false=Array.replicate (n+k) false by simp]at h3
end
section
def NRowT (w:World)(g:Nat)(l:List Nat):Prop:=Blk w g (t0L l).toArray 23
theorem NRowT.cell {w:World}{g:Nat}{l:List Nat}(h:NRowT w g l){i:Nat}(hi:i<l.length):w.cell? ⟨g,i,none⟩=some (.string (a0f (l.getD i 0))):=by
 refine (Blk.cell h i).trans ?_;rw[K6,u0X hi]
theorem NRowT.free {w:World}{g:Nat}{l:List Nat}(h:NRowT w g l)(i:Nat):w.frozen? ⟨g,i,none⟩=false:=Blk.free h i
theorem NRowT.set {w:World}{g:Nat}{l:List Nat}(h:NRowT w g l)(i x:Nat):NRowT (w.setCell ⟨g,i,none⟩ (.string (a0f x))) g (l.set i x):=by
 have:=Blk.set h i (.string (a0f x));rw[Bv,u0W]at this;exact this
theorem NRowT.call {w w':World}{g:Nat}{l:List Nat}(h:NRowT w g l)(hb:Below w.heap.size w w'):NRowT w' g l:=Blk.call h hb
theorem NRowT.other {w:World}{g:Nat}{l:List Nat}(h:NRowT w g l){a:Addr}(ha:a.block≠g)(v:Value):NRowT (w.setCell a v) g l:=Blk.other h ha v
theorem NRowT.zeros {w:World}{g n:Nat}(h:Blk w g (b0v (List.replicate n ⟨#[48]⟩)).toArray 23):NRowT w g (List.replicate n 0):=by
 have e:t0L (List.replicate n 0)=b0v (List.replicate n ⟨#[48]⟩):=by
  unfold t0L b0v;rw[Nx,Nx,a0q]
 unfold NRowT;rw[e];exact h
def c1o (w:World)(n N D:Nat)(e:Ending)(w':World):Prop:=∃ g,e=.returned (.slice (some ⟨g,0,none⟩) (n+1) (n+1))/\w.heap.size<=g/\NRowT w' g (b0S (a0D N D) (a0i N D) n (n+1)).2
def v0r (w:World)(a:ByteArray)(n N D:Nat)(ha:a.size<=100000)(he:gPE a=0)(hn:n<=1000)(hN:bN (cW a)=N)(hD:bN (qD a)=D)(hND:N<D)(hL:Lay w):
 Calls prog 210 #[.string a,.int .i64 n] w fun e w'=>c1o w n N D e w'/\Below w.heap.size w w':=by
 have HS:=hid (s0z w a n N D ha he hn hN hD hND hL);have HR:=fun V g h=>hid (f0a V g (n+1) ⟨#[48]⟩ (by omega) (by omega) h)
 obtain⟨HL,HLL,HN⟩:=zg hL hL.lt hn;have wn:=qy n (by omega)
 have h00:=hid (show a0D N D 0=false from rfl);obtain⟨os,hos⟩:=gn (a0D N D);obtain⟨zs,hzs⟩:=gn (a0i N D);obtain⟨HOS,HZS⟩:=zu hos hzs;rw[hos]at h00;clear ha he hn hN hD hND hL hos hzs;go_enter func210,ntmps210;go_wp2_with fail;refine HS.out.mono ?_;rintro e w1 ⟨⟨v1,v2,rfl,⟨g1,g2,rfl,rfl,h3,h4,h5,hg1,hg2⟩⟩,hb1⟩;rw[HOS.out]at hg1;rw[HZS.out]at hg2;obtain⟨G1,G2,B1⟩:=zg hg1 hg2 hb1;clear hg1 hg2 hb1 h3 h4 h5 HS;go_wp2_with fail;refine (HR _ _ ((Blk.new w1 _ _).cell 0)).out.mono ?_;rintro e w2 ⟨rfl,hg7,hb2⟩;obtain⟨g7,h7⟩:=gn ((w1.alloc (.cells #[.string ⟨#[48]⟩] 23)).heap.size);rw[h7]at hg7 |-;have R7:=hid (NRowT.zeros hg7);have a1:=(J4 w1.heap.size w1).alloc nr (.cells #[.string ⟨#[48]⟩] 23);obtain⟨b2,K7⟩:=zu (a0a a1 hb2) (show w1.heap.size<g7 by rw[<- h7];simp);obtain⟨B2,G12,G22,L7⟩:=zc (B1.out.trans (b2.out.mono B1.out.size)) (G1.out.call b2.out) (G2.out.call b2.out) (show g7<w2.heap.size from Blk.lt hg7);clear hg7 hb2 a1 h7;go_wp2_with fail;refine (HR _ _ ((Blk.new w2 _ _).cell 0)).out.mono ?_;rintro e w3 ⟨rfl,hg8,hb3⟩;obtain⟨g8,h8⟩:=gn ((w2.alloc (.cells #[.string ⟨#[48]⟩] 23)).heap.size);rw[h8]at hg8 |-;have R8:=hid (NRowT.zeros hg8);have a2:=(J4 w2.heap.size w2).alloc nr (.cells #[.string ⟨#[48]⟩] 23);obtain⟨b3,K8⟩:=zu (a0a a2 hb3) (show w2.heap.size<g8 by rw[<- h8];simp);obtain⟨B3,G13,G23,R73,N1,N2,zw1⟩:=kx (B2.out.trans (b3.out.mono B2.out.size)) (G12.out.call b3.out) (G22.out.call b3.out) (R7.out.call b3.out) (show g1<w1.heap.size from Blk.lt G1.out) (show g2<w1.heap.size from Blk.lt G2.out) B1.out.size;clear hg8 hb3 a2 h8 HR;have k0:w3.cell? ⟨g7,0,none⟩=some (.string ⟨#[48]⟩):=by
  refine (R73.out.cell (i:=0) (by simp)).trans ?_;rw[<- a0q];simp[Z3]
 have k1:=R73.out.free 0;have z1:(0:Int)<(n:Int)+1:=by omega
 go_wp2_with fail;have hne:g7≠g8:=by have:=L7.out;have:=K8.out;omega
 obtain⟨W3,hW3⟩:=gn (w3.setCell ⟨g7,0,none⟩ (.string ⟨#[49]⟩));have S7:NRowT W3 g7 (b0S os zs n 0).1:=by
  rw[<- hW3,<- c0e];have h:=R73.out.set 0 1;rw[show (List.replicate (n+1) 0).set 0 1=1::List.replicate n 0 by rw[Jj];rfl]at h;exact h
 have S8:NRowT W3 g8 (b0S os zs n 0).2:=by rw[<- hW3];exact R8.out.other hne _
 have S1:Blk W3 g1 (g0o os n).toArray 4:=by rw[<- hW3];exact G13.out.other (by have:=K7.out;have:=N1.out;simp;omega) _
 have S2:Blk W3 g2 (g0o zs n).toArray 4:=by rw[<- hW3];exact G23.out.other (by have:=K7.out;have:=N2.out;simp;omega) _
 have SB:Below w.heap.size w W3:=by rw[<- hW3];exact B3.out.setCell (by have:=K7.out;have:=zw1.out;simp;omega) _
 rw[hW3];obtain⟨T7,T8,T1,T2,TBl,NE,Q7,Q8,M17,M18,M27,M28⟩:=ku S7 S8 S1 S2 SB hne (show w.heap.size<=g7 by have:=K7.out;have:=zw1.out;omega) (show w.heap.size<=g8 by have:=K7.out;have:=K8.out;have:=L7.out;have:=zw1.out;omega) (show g1≠g7 by have:=K7.out;have:=N1.out;omega) (show g1≠g8 by have:=K7.out;have:=K8.out;have:=L7.out;have:=N1.out;omega) (show g2≠g7 by have:=K7.out;have:=N2.out;omega) (show g2≠g8 by have:=K7.out;have:=K8.out;have:=L7.out;have:=N2.out;omega);clear k0 k1 z1 S7 S8 S1 S2 SB hne hW3 R73 R8 G13 G23 B3 b3 R7 G12 G22 B2 b2 G1 G2 B1 K7 K8 L7 zw1 N1 N2
 go_loopw [29] (fun ii wr=>∃ i:Nat,ii=.int .i64 (i:Nat)/\i<=n+1/\Hid (NRowT wr g7 (b0S os zs n i).1)/\Hid (NRowT wr g8 (b0S os zs n i).2)/\Hid (Blk wr g1 (g0o os n).toArray 4)/\Hid (Blk wr g2 (g0o zs n).toArray 4)/\Hid (Below w.heap.size w wr)) (fun ii wr=>n+1-(intOf ii).toNat)
 case atStart=>exact⟨0,rfl,K5 _,T7.out,T8.out,T1.out,T2.out,TBl.out⟩
 case round=>
  obtain⟨i,rfl,hi,hg7,hg8,hg1,hg2,hB⟩:=hrel;by_cases hlt:i<n+1
  .have q0:decide ((i:Int)<((n+1:Nat):Int))=true:=by simp;omega
   have f0:=qw i
   have f1:(i:Int)<((n+1:Nat):Int):=by omega
   have f2:(i:Int)<=1000:=by have:=HN.out;omega
   obtain⟨IL,TBI⟩:=zu hlt (TB.outer (os:=os) (zs:=zs) h00.out n i hi);clear hi hlt;go_wp2_with fail;obtain⟨x,hx⟩:=gn ((b0S os zs n i).1.getD i 0);obtain⟨wo,rfl⟩:=qu wr;by_cases hx0:x=0
   focus
    have k0:wo.cell? ⟨g7,i,none⟩=some (.string (a0f x)):=by rw[<- hx];exact hg7.out.cell (by rw[TBI.out.l1];exact IL.out)
    have q1:((a0f x).toList == [48])=true:=by rw[hx0,a0q];exact c0q
    have hnext:=hid (show b0S os zs n (i+1)=b0S os zs n i from by rw[b0S,J3 (by rw[hx];exact hx0)]);obtain⟨sx,hsx⟩:=gn (a0f x);rw[hsx]at k0 q1;clear hx hx0 hsx
    go_loopw [10] (fun jj wq=>jj=.int .i64 0/\wq=wo) (fun jj wq=>0)
    case atStart=>exact⟨rfl,rfl⟩
    case' round=>
     obtain⟨rfl,rfl⟩:=hrel
   rotate_left
   focus
    have q1:((a0f x).toList == [48])=false:=a0O (l:=[48]) (by rw[<- a0q];exact b0W hx0);have hnext:=hid (show b0S os zs n (i+1)=tIn os zs i (n+1-i) (b0S os zs n i) from by rw[b0S,J2 (by rw[hx];exact hx0)]);obtain⟨s0,hs0⟩:=gn (b0S os zs n i);rw[hs0]at hx hg7 hg8 hnext TBI;have HX:=hid hx;obtain⟨sx,hsx⟩:=gn (a0f x);rw[hsx]at q1;have HSX:=hid hsx;clear hx hx0 hsx hs0;have d30:decide ((i:Int)<(n:Int)+1)=true:=by have:=IL.out;simp;omega
    rw[d30];clear d30
    go_loopw [10] (fun jj wq=>∃ j:Nat,jj=.int .i64 (j:Nat)/\i+j<=n+1/\Hid (NRowT wq g7 (tIn os zs i j s0).1)/\Hid (NRowT wq g8 (tIn os zs i j s0).2)/\Hid (Blk wq g1 (g0o os n).toArray 4)/\Hid (Blk wq g2 (g0o zs n).toArray 4)/\Hid (Below w.heap.size w wq)) (fun jj wq=>n+1-(intOf jj).toNat)
    case atStart=>exact⟨0,rfl,by have:=IL.out;omega,hg7,hg8,hg1,hg2,hB⟩
    case' round=>
     clear hg7 hg8 hg1 hg2 hB;obtain⟨j,rfl,hj,hg7,hg8,hg1,hg2,hB⟩:=hrel;have TBJ:=hid (TB.inner (os:=os) (zs:=zs) h00.out TBI.out j hj);have k0:wr.cell? ⟨g7,i,none⟩=some (.string sx):=by
      refine (hg7.out.cell (by rw[TBJ.out.1.l1];exact IL.out)).trans ?_;rw[TBJ.out.2,HX.out,HSX.out]
     by_cases hlt:i+j<=n
     .have q2:decide ((i:Int)+(j:Int)<=(n:Int))=true:=by simp;omega
      have f5:=qw j
      have f6:(j:Int)<((n+1:Nat):Int):=by omega
      have f7:(j:Int)<=1000:=by have:=HN.out;omega
      have f8:(i:Int)+(j:Int)<((n+1:Nat):Int):=by omega
      have f9:(i:Int)+(j:Int)<(n:Int)+1:=by omega
      have f10:(0:Int)<=(i:Int)+(j:Int):=by omega
      have c1:wr.cell? ⟨g1,j,none⟩=some (.bool (os j)):=(hg1.out.cell j).trans (by rw[K6,e0k (by omega)]);have c2:wr.cell? ⟨g2,j,none⟩=some (.bool (zs j)):=(hg2.out.cell j).trans (by rw[K6,e0k (by omega)]);have HLT:=hid hlt;obtain⟨zj,hzj⟩:=gn (zs j);obtain⟨oj,hoj⟩:=gn (os j);rw[hoj]at c1;rw[hzj]at c2;obtain⟨HZJ,HOJ⟩:=zu hzj hoj;clear hlt hj hzj hoj;obtain⟨y1,hy1⟩:=gn ((tIn os zs i j s0).2.getD (i+j) 0);obtain⟨y2,hy2⟩:=gn ((tIn os zs i j s0).1.getD (i+j) 0);have hxb:x<=2 ^ i:=by rw[<- HX.out];exact TBI.out.src
      have hy1b:y1<=2 ^ i:=hy1 ▸ TBJ.out.1.hi2 _ nr;have hy2b:y2<=2 ^ i:=hy2 ▸ TBJ.out.1.hi1 _ nr;have dx:=a0b hxb (by omega);have P1:=fun V hV=>hid (g0d V y1 x (a0b hy1b (by omega)) dx (a0b (i:=i+1) (by omega) (by omega)) hV)
      have P2:=fun V hV=>hid (g0d V y2 x (a0b hy2b (by omega)) dx (a0b (i:=i+1) (by omega) (by omega)) hV)
      have t1:wr.cell? ⟨g8,i+j,none⟩=some (.string (a0f y1)):=by rw[<- hy1];exact hg8.out.cell (by rw[TBJ.out.1.l2];have:=HLT.out;omega)
      have t2:wr.cell? ⟨g7,i+j,none⟩=some (.string (a0f y2)):=by rw[<- hy2];exact hg7.out.cell (by rw[TBJ.out.1.l1];have:=HLT.out;omega)
      rw[HSX.out]at P1 P2;obtain⟨u1,hu1⟩:=gn (a0f y1);obtain⟨u2,hu2⟩:=gn (a0f y2);rw[hu1]at P1 t1;rw[hu2]at P2 t2;obtain⟨HY1,HY2,HU2,hstep⟩:=zc hy1 hy2 hu2 (show tIn os zs i (j+1) s0=(d0h oj (i+j) x (tIn os zs i j s0).1,d0h zj (i+j) x (tIn os zs i j s0).2) from by rw[tIn,o0P,HOJ.out,HZJ.out,TBJ.out.2,HX.out]);obtain⟨m1,hm1⟩:=gn (a0f (y1+x));obtain⟨m2,hm2⟩:=gn (a0f (y2+x));rw[hm1]at P1;rw[hm2]at P2;obtain⟨HM1,HM2⟩:=zu hm1 hm2;clear hm1 hm2;clear hy1 hy2 hxb hy1b hy2b dx hu1 hu2
      go_upto_if 49 with fail
      go_cut [] (fun wx=>Hid (NRowT wx g7 (tIn os zs i j s0).1)/\Hid (NRowT wx g8 (d0h zj (i+j) x (tIn os zs i j s0).2))/\Hid (Blk wx g1 (g0o os n).toArray 4)/\Hid (Blk wx g2 (g0o zs n).toArray 4)/\Hid (Below w.heap.size w wx))
      case first=>
       cases zj
       .go_wp2_with fail
        go_meet
        exact⟨hg7,by rw[d0w];exact hg8,hg1,hg2,hB⟩
       .go_wp2_with fail;have ew:IntKind.i64.wrap ((i:Int)+(j:Int))=(i:Int)+(j:Int):=by rw[U0 _ ⟨by omega,by omega⟩]
        have et:((i:Int)+(j:Int)).toNat=i+j:=by omega
        refine a0T 15 2 [0,1,2,3,4,5,6,7,8,9,10,11,12,13] 1 (fun W'=>W'.cell? ⟨g8,i+j,none⟩=some (.string u1)/\W'.cell? ⟨g7,i,none⟩=some (.string sx)) (by kernel_rfl) rfl (by kernel_rfl) (by kernel_rfl) (by kernel_rfl) (by kernel_rfl) ⟨t1,k0⟩ ?_
        iterate 14
         refine⟨_,rfl,?_⟩;apply Exists.intro
         refine⟨.inl ⟨by rfl,?_⟩,?_⟩
         .rintro W' ⟨r1,r2⟩;go_simp;try with_reducible rfl
         go_frame
        refine a0c (i:=14) (by kernel_rfl) rfl rfl ?_;go_wp2_with fail;refine ny (P1 _ (HL.out.below hB.out.drew HLL.out)) fun w5 hbc=>?_;have Ca:=hid (show Below wr.heap.size wr w5 from br0.drew.trans hbc);obtain⟨E7a,E8a,E1a,E2a,EBa⟩:=zd (hg7.out.call Ca.out) (hg8.out.call Ca.out) (hg1.out.call Ca.out) (hg2.out.call Ca.out) (hB.out.trans (Ca.out.mono hB.out.size));have tca:=(Ca.out.cell (a0e t1)).trans t1;have kca:=(Ca.out.cell (a0e k0)).trans k0;clear hbc;go_wp2_with fail;refine⟨⟨tca,kca⟩,?_⟩;refine J8 (by kernel_rfl) ?_ _;simp only[b0b,c0t,Aj,K9];have fza:=E8a.out.free (i+j);clear kca;go_wp2_with fail
        try simp only[b0b]
        go_meet
        refine⟨E7a.out.other (fun e=>NE.out e.symm) _,?_,E1a.out.other (fun e=>M18.out e.symm) _,E2a.out.other (fun e=>M28.out e.symm) _,EBa.out.setCell Q8.out _⟩;show NRowT _ _ _
        rw[d0g,HY1.out,<- HM1.out];exact E8a.out.set (i+j) (y1+x)
      case rest=>
       obtain⟨F7,F8,F1,F2,FB⟩:=hcut;clear hg7 hg8 hg1 hg2 hB t1 t2 k0 c1 c2;have c1:wc.cell? ⟨g1,j,none⟩=some (.bool oj):=(F1.out.cell j).trans (by rw[K6,e0k (by have:=HLT.out;omega),HOJ.out]);have k6:wc.cell? ⟨g7,i,none⟩=some (.string sx):=by
        refine (F7.out.cell (by rw[TBJ.out.1.l1];exact IL.out)).trans ?_;rw[TBJ.out.2,HX.out,HSX.out]
       have t6:wc.cell? ⟨g7,i+j,none⟩=some (.string u2):=by
        refine (F7.out.cell (by rw[TBJ.out.1.l1];have:=HLT.out;omega)).trans ?_;rw[HY2.out,HU2.out]
       cases oj
       .go_wp2_with fail;go_roundw
        case rel=>exact⟨j+1,by go_num,by have:=HLT.out;omega,by rw[hstep.out];exact F7,by rw[hstep.out];exact F8,F1,F2,FB⟩
        case measure=>simp[intOf]<;>(have:=HLT.out;omega)
       .go_wp2_with fail;have ew:IntKind.i64.wrap ((i:Int)+(j:Int))=(i:Int)+(j:Int):=by rw[U0 _ ⟨by omega,by omega⟩]
        have et:((i:Int)+(j:Int)).toNat=i+j:=by omega
        refine a0T 15 2 [0,1,2,3,4,5,6,7,8,9,10,11,12,13] 1 (fun W'=>W'.cell? ⟨g7,i+j,none⟩=some (.string u2)/\W'.cell? ⟨g7,i,none⟩=some (.string sx)) (by kernel_rfl) rfl (by kernel_rfl) (by kernel_rfl) (by kernel_rfl) (by kernel_rfl) ⟨t6,k6⟩ ?_
        iterate 14
         refine⟨_,rfl,?_⟩;apply Exists.intro
         refine⟨.inl ⟨by rfl,?_⟩,?_⟩
         .rintro W' ⟨r1,r2⟩;go_simp;try with_reducible rfl
         go_frame
        refine a0c (i:=14) (by kernel_rfl) rfl rfl ?_;go_wp2_with fail;refine ny (P2 _ (HL.out.below FB.out.drew HLL.out)) fun w7 hbc=>?_;have Cb:=hid (show Below wc.heap.size wc w7 from br0.drew.trans hbc);obtain⟨E7b,E8b,E1b,E2b,EBb⟩:=zd (F7.out.call Cb.out) (F8.out.call Cb.out) (F1.out.call Cb.out) (F2.out.call Cb.out) (FB.out.trans (Cb.out.mono FB.out.size));have tcb:=(Cb.out.cell (a0e t6)).trans t6;have kcb:=(Cb.out.cell (a0e k6)).trans k6;clear hbc;go_wp2_with fail;refine⟨⟨tcb,kcb⟩,?_⟩;refine J8 (by kernel_rfl) ?_ _;simp only[b0b,c0t,Aj,K9];have fzb:=E7b.out.free (i+j);clear kcb;go_wp2_with fail
        try simp only[b0b]
        go_roundw
        case rel=>
         refine⟨j+1,by go_num,by have:=HLT.out;omega,?_,?_,E1b.out.other (fun e=>M17.out e.symm) _,E2b.out.other (fun e=>M27.out e.symm) _,EBb.out.setCell Q7.out _⟩
         .show NRowT _ _ _
          rw[hstep.out,d0g,HY2.out,<- HM2.out];exact E7b.out.set (i+j) (y2+x)
         .show NRowT _ _ _
          rw[hstep.out];exact E8b.out.other (fun e=>NE.out e) _
        case measure=>simp[intOf]<;>(have:=HLT.out;omega)
     focus
      have q2:decide ((i:Int)+(j:Int)<=(n:Int))=false:=by simp;omega
      have e1:j=n+1-i:=by omega
      have f7:(j:Int)<=1001:=by have:=HN.out;omega
      have f5:=qw j
      subst e1;clear hj hlt
   all_goals
    go_wp2_with fail;go_roundw
    case rel=>exact⟨i+1,by go_num,by have:=IL.out;omega,by rw[hnext.out];exact hg7,by rw[hnext.out];exact hg8,hg1,hg2,hB⟩
    case measure=>simp[intOf]<;>(have:=IL.out;omega)
  .have q0:decide ((i:Int)<((n+1:Nat):Int))=false:=by simp;omega
   have e1:i=n+1:=by omega
   subst e1;go_wp2_with fail;go_ret
   exact⟨⟨g8,rfl,Q8.out,by rw[HOS.out,HZS.out];exact hg8.out⟩,hB.out⟩
open Go.Shelf
def j0M (w:World)(n:Nat)(hn:n<=1000)(hL:Lay w):
 qb 213 #[.int .i64 n] w (.string (a0f (2 ^ n))):=by
 have HP:=hid (v0d w ⟨#[50]⟩ n v0E (by omega) (by rw[w0Z];exact i0g hn) hL);rw[w0Z]at HP;clear hn hL;go_enter func213,ntmps213;go_wp2_with fail;refine nz HP fun w1 b1=>?_;go_wp2_with fail;go_ret
 exact⟨rfl,b1.out⟩
end
def d1D (w:World)(H n:Nat)(v:Value)(l:List Nat):Prop:=∃ g,v=.slice (some ⟨g,0,none⟩) (n+1) (n+1)/\H<=g/\NRowT w g l
def f0S (two:Bool)(L:List Nat)(n:Nat):List Nat:=if two=true then l0E L n (n+1) else L
def b1C (w:World)(a:ByteArray)(n N D:Nat)(two:Bool)(ha:a.size<=100000)(he:gPE a=0)(hn:n<=256)(hN:bN (cW a)=N)(hD:bN (qD a)=D)(hND:N<D)(hL:Lay w)
 (hR:∀ i,i<=n->(f0S two (b0S (a0D N D) (a0i N D) n (n+1)).2 n).getD i 0*2 ^ (n-i)<=rIn (f0S two (b0S (a0D N D) (a0i N D) n (n+1)).2 n) n i):
 qb 142 #[.string a,.int .i64 n,.bool two] w (.tuple #[.string (c0b (qmk false (rIn (f0S two (b0S (a0D N D) (a0i N D) n (n+1)).2 n) n (n+1)) (2 ^ n))),.int .i64 0]):=by
 have HA:=hid (d0L w a ha hL);rw[J3 he,J3 he,he]at HA;have HT:=fun V hV=>hid (v0r V a n N D ha he (by omega) hN hD hND hV)
 have HRep:=fun V g h=>hid (f0a V g (n+1) ⟨#[48]⟩ (by omega) (by omega) h)
 have hLb:=q0r (os:=a0D N D) (zs:=a0i N D) rfl hn;obtain⟨L,hL0⟩:=gn ((b0S (a0D N D) (a0i N D) n (n+1)).2);have HLQ:=hid hL0;rw[hL0]at hLb hR |-;have HLb:=hid hLb;have hM:(f0S two L n).length=n+1/\∀ k,(f0S two L n).getD k 0<=2 ^ e7:=by
  unfold f0S
  split
  .have h:=CB.outer hLb.2 (n+1) (O4 (n+1));exact⟨h.len,fun k=>i0K hn nr (h.up k)⟩
  .exact⟨hLb.1,fun k=>J0 (hLb.2 k) (J6 (by omega) (by unfold e3 e7;omega))⟩
 obtain⟨M,hM0⟩:=gn (f0S two L n);have HMQ:=hid hM0;rw[hM0]at hM hR |-;obtain⟨HMb,HR⟩:=zu hM hR;have hmk:=w0E (a:=rIn M n (n+1)) (b:=2 ^ n) (a0b (k0K M n _) (by omega)) (a0b nr (by omega)) (by have:=Gb (n:=n) (show 0<2 by omega);omega);have hov:¬ ovQ (qmk false (rIn M n (n+1)) (2 ^ n)):=by
  have hd:0<2 ^ n:=Gb (by omega);unfold ovQ;rw[h0t hd,j0r hd,b0r];have h1:=a0r (Ef (rIn M n (n+1)) (Nat.gcd (rIn M n (n+1)) (2 ^ n)));have h2:=a0r (Ef (2 ^ n) (Nat.gcd (rIn M n (n+1)) (2 ^ n)));have h3:=a0b (k0K M n (n+1)) (by omega);have h4:=a0b (O4 (2 ^ n)) (by omega);omega
 have HQM:=fun V hV=>hid (w0y V (a0f (rIn M n (n+1))) (a0f (2 ^ n)) (a0M (a0b (k0K M n _) (by omega))) (a0M (a0b nr (by omega))) hV)
 rw[hmk.1,hmk.2,r0A hov]at HQM;obtain⟨out,hout⟩:=gn (c0b (qmk false (rIn M n (n+1)) (2 ^ n)));rw[hout]at HQM |-;obtain⟨HLy,HLL,HN⟩:=zg hL hL.lt hn;have wn:=qy n (by omega)
 have q0:decide ((n:Int)<0)=false:=by simp
 have q1:decide ((256:Int)<(n:Int))=false:=by simp;omega
 have n256:(n:Int)<=256:=by omega
 clear ha he hn hN hD hND hL hR hLb hL0 hM hM0 hmk hov hout;go_enter func142,ntmps142;go_wp2_with fail;refine nz HA fun w1 B1=>?_;clear HA;go_wp2_with fail;refine (HT _ (HLy.out.call B1.out)).out.mono ?_;rintro e w2 ⟨⟨g11,rfl,h11,hr11⟩,hb2⟩;rw[HLQ.out]at hr11;have R11:=hid hr11;have B2:=qx B1 hb2;have K11:=hid (show w.heap.size<=g11 from J0 B1.out.size h11);clear h11 hr11 hb2 HT
 go_upto_if 38 with fail
 go_cut [11] (fun s11 wx=>d1D wx w.heap.size n s11 M/\Below w.heap.size w wx)
 case first=>
  cases two
  .go_wp2_with fail
   go_meet
   exact⟨⟨g11,rfl,K11.out,by rw[<- HMQ.out];exact R11.out⟩,B2.out⟩
  .go_wp2_with fail;refine (HRep _ _ ((Blk.new w2 _ _).cell 0)).out.mono ?_;rintro e w3 ⟨rfl,hg8,hb3⟩;obtain⟨g12,h8⟩:=gn ((w2.alloc (.cells #[.string ⟨#[48]⟩] 23)).heap.size);rw[h8]at hg8 |-;have R12:=hid (NRowT.zeros hg8);have a2:=(J4 w2.heap.size w2).alloc nr (.cells #[.string ⟨#[48]⟩] 23);have b3:=hid (a0a a2 hb3);have B3:=qx B2 b3.out;obtain⟨R113,K12,NE⟩:=zg (R11.out.call b3.out) (show w.heap.size<=g12 by rw[<- h8];have:=B2.out.size;simp;omega) (show g11≠g12 by have:=R11.out.lt;rw[<- h8];simp;omega);clear hg8 hb3 a2 h8 HRep b3;have hc0:=hid (show NRowT w3 g12 (l0E L n 0) from R12.out);go_wp2_with fail
   go_loopw [45] (fun ii wr=>∃ i:Nat,ii=.int .i64 (i:Nat)/\i<=n+1/\Hid (NRowT wr g12 (l0E L n i))/\Hid (NRowT wr g11 L)/\Hid (Below w.heap.size w wr)) (fun ii wr=>n+1-(intOf ii).toNat)
   case atStart=>exact⟨0,rfl,K5 _,hc0,R113,B3⟩
   case round=>
    obtain⟨i,rfl,hi,hg12,hg11,hB⟩:=hrel;by_cases hlt:i<n+1
    .have q5:decide ((i:Int)<((n+1:Nat):Int))=true:=by simp;omega
     have f0:=qw i
     have f1:(i:Int)<((n+1:Nat):Int):=by omega
     have f2:(i:Int)<=256:=by have:=HN.out;omega
     obtain⟨IL,CBI⟩:=zu hlt (CB.outer (n:=n) HLb.out.2 i hi);clear hi hlt;go_wp2_with fail;have d30:decide ((i:Int)<(n:Int)+1)=true:=by have:=IL.out;simp;omega
     try rw[d30]
     clear d30;obtain⟨wo,rfl⟩:=qu wr;obtain⟨m0,hm0⟩:=gn (l0E L n i);have hnext:=hid (show l0E L n (i+1)=cIn L i (n+1-i) m0 from by rw[l0E,hm0]);rw[hm0]at hg12 CBI;clear hm0
     go_loopw [14] (fun jj wq=>∃ j:Nat,jj=.int .i64 (j:Nat)/\i+j<=n+1/\Hid (NRowT wq g12 (cIn L i j m0))/\Hid (NRowT wq g11 L)/\Hid (Below w.heap.size w wq)) (fun jj wq=>n+1-(intOf jj).toNat)
     case atStart=>exact⟨0,rfl,by have:=IL.out;omega,hg12,hg11,hB⟩
     case round=>
      clear hg12 hg11 hB;obtain⟨j,rfl,hj,hg12,hg11,hB⟩:=hrel;have CBJ:=hid (CB.inner CBI.out HLb.out.2 j hj);by_cases hlt:i+j<=n
      .have q6:decide ((i:Int)+(j:Int)<=(n:Int))=true:=by simp;omega
       have f5:=qw j
       have f6:(j:Int)<((n+1:Nat):Int):=by omega
       have f7:(j:Int)<=256:=by have:=HN.out;omega
       have f8:(i:Int)+(j:Int)<((n+1:Nat):Int):=by omega
       have f9:(i:Int)+(j:Int)<(n:Int)+1:=by omega
       have f10:(0:Int)<=(i:Int)+(j:Int):=by omega
       have f11:(j:Int)<(n:Int)+1:=by omega
       have HLT:=hid hlt;obtain⟨y,hy⟩:=gn ((cIn L i j m0).getD (i+j) 0);obtain⟨x1,hx1⟩:=gn (L.getD i 0);obtain⟨x2,hx2⟩:=gn (L.getD j 0);have b1:x1<=2 ^ e3:=hx1 ▸ HLb.out.2 i;have b2:x2<=2 ^ e3:=hx2 ▸ HLb.out.2 j;have tb:i*(n+1)+j+1<=(n+1)*(n+1):=by
        have h1:(i+1)*(n+1)<=(n+1)*(n+1):=Ab _ (by omega);rw[Jp]at h1;omega
       have by0:y<=2 ^ e7:=hy ▸ i0K HN.out (t:=i*(n+1)+j) (by omega) (CBJ.out.up (i+j));have bm:x1*x2<=2 ^ e7:=by
        have h1:=Ar b1 b2;rw[<- Be]at h1;exact J0 h1 (J6 (by omega) (by unfold e3 e7;omega))
       have bs:y+x1*x2<=2 ^ (e7+1):=by rw[E9];omega
       have e37:e3<=3000/\e7+1<=3000:=by unfold e3 e7;omega
       have P1:=fun V hV=>hid (h0w V x1 x2 (a0b b1 e37.1) (a0b b2 e37.1) (a0b bm (by omega)) hV)
       have P2:=fun V hV=>hid (g0d V y (x1*x2) (a0b by0 (by omega)) (a0b bm (by omega)) (a0b bs e37.2) hV)
       have t1:wr.cell? ⟨g12,i+j,none⟩=some (.string (a0f y)):=by rw[<- hy];exact hg12.out.cell (by rw[CBJ.out.len];have:=HLT.out;omega)
       have t2:wr.cell? ⟨g11,i,none⟩=some (.string (a0f x1)):=by rw[<- hx1];exact hg11.out.cell (by rw[HLb.out.1];exact IL.out)
       have t3:wr.cell? ⟨g11,j,none⟩=some (.string (a0f x2)):=by rw[<- hx2];exact hg11.out.cell (by rw[HLb.out.1];have:=HLT.out;omega)
       obtain⟨u1,hu1⟩:=gn (a0f y);obtain⟨u2,hu2⟩:=gn (a0f x1);obtain⟨u3,hu3⟩:=gn (a0f x2);obtain⟨u4,hu4⟩:=gn (a0f (x1*x2));obtain⟨u5,hu5⟩:=gn (a0f (y+x1*x2));rw[hu2,hu3,hu4]at P1;rw[hu1,hu4,hu5]at P2;rw[hu1]at t1;rw[hu2]at t2;rw[hu3]at t3;obtain⟨hstep,HU5⟩:=zu (show cIn L i (j+1) m0=(cIn L i j m0).set (i+j) (y+x1*x2) from by rw[cIn,m0S,hy,hx1,hx2]) hu5;clear hy hx1 hx2 b1 b2 tb by0 bm bs e37 hu1 hu2 hu3 hu4 hu5 hlt hj;go_wp2_with fail;have ew:IntKind.i64.wrap ((i:Int)+(j:Int))=(i:Int)+(j:Int):=by rw[U0 _ ⟨by omega,by omega⟩]
       have et:((i:Int)+(j:Int)).toNat=i+j:=by omega
       refine a0T 20 2 [0,1,2,3,4,5,6,7,8,9,10,11,12,13,14,15,16,17] 2 (fun W'=>W'.cell? ⟨g12,i+j,none⟩=some (.string u1)/\W'.cell? ⟨g11,i,none⟩=some (.string u2)/\W'.cell? ⟨g11,j,none⟩=some (.string u3)) (by kernel_rfl) rfl (by kernel_rfl) (by kernel_rfl) (by kernel_rfl) (by kernel_rfl) ⟨t1,t2,t3⟩ ?_
       iterate 18
        refine⟨_,rfl,?_⟩;apply Exists.intro
        refine⟨.inl ⟨by rfl,?_⟩,?_⟩
        .rintro W' ⟨r1,r2,r3⟩;go_simp;try with_reducible rfl
        go_frame
       refine a0c (i:=18) (by kernel_rfl) rfl rfl ?_;go_wp2_with fail;refine ny (P1 _ (HLy.out.below hB.out.drew HLL.out)) fun w5 hbc=>?_;have C5:=hid (show Below wr.heap.size wr w5 from br0.drew.trans hbc);obtain⟨E5,F5,EB5⟩:=zg (hg12.out.call C5.out) (hg11.out.call C5.out) (hB.out.trans (C5.out.mono hB.out.size));have s1:=(C5.out.cell (a0e t1)).trans t1;have s2:=(C5.out.cell (a0e t2)).trans t2;have s3:=(C5.out.cell (a0e t3)).trans t3;clear hbc t1 t2 t3;go_wp2_with fail;refine⟨⟨s1,s2,s3⟩,?_⟩;refine a0c (i:=19) (by kernel_rfl) rfl rfl ?_;go_wp2_with fail;refine ny (P2 _ (HLy.out.below EB5.out HLL.out)) fun w6 hbc=>?_;obtain⟨E6,F6,EB6⟩:=zg (E5.out.call hbc) (F5.out.call hbc) (EB5.out.trans (hbc.mono EB5.out.size));have v1:=(hbc.cell (a0e s1)).trans s1;have v2:=(hbc.cell (a0e s2)).trans s2;have v3:=(hbc.cell (a0e s3)).trans s3;clear hbc s1 s2 s3;go_wp2_with fail;refine⟨⟨v1,v2,v3⟩,?_⟩;refine J8 (by kernel_rfl) ?_ _;simp only[b0b,c0t,Aj,K9];have fz:=E6.out.free (i+j);clear v2 v3;go_wp2_with fail
       try simp only[b0b]
       go_roundw
       case rel=>
        refine⟨j+1,by go_num,by have:=HLT.out;omega,?_,F6.out.other (fun e=>NE.out e.symm) _,EB6.out.setCell K12.out _⟩;show NRowT _ _ _
        rw[hstep.out,<- HU5.out];exact E6.out.set (i+j) (y+x1*x2)
       case measure=>simp[intOf]<;>(have:=HLT.out;omega)
      .have q6:decide ((i:Int)+(j:Int)<=(n:Int))=false:=by simp;omega
       have e1:j=n+1-i:=by omega
       have f7:(j:Int)<=257:=by have:=HN.out;omega
       have f5:=qw j
       subst e1;clear hj hlt;go_wp2_with fail;go_roundw
       case rel=>exact⟨i+1,by go_num,by have:=IL.out;omega,by rw[hnext.out];exact hg12,hg11,hB⟩
       case measure=>simp[intOf]<;>(have:=IL.out;omega)
    .have q5:decide ((i:Int)<((n+1:Nat):Int))=false:=by simp;omega
     have e1:i=n+1:=by omega
     subst e1;go_wp2_with fail
     go_meet
     exact⟨⟨g12,rfl,K12.out,by rw[<- HMQ.out];exact hg12.out⟩,hB.out⟩
 case rest=>
  obtain⟨⟨g,rfl,hg,hrow⟩,hB⟩:=hcut;obtain⟨RG,B3⟩:=zu hrow hB;have HPow:=fun V k (hk:k<=256) hV=>hid (j0M V k (by omega) hV)
  clear hrow hg hB;go_wp2_with fail;refine ny (HPow _ n HN.out (HLy.out.call B3.out)) fun w4 hb4=>?_;have RG4:=hid (RG.out.call hb4);have B4:=qx B3 hb4;clear hb4;go_wp2_with fail
  go_loopw [15,82] (fun rr ii wr=>∃ i:Nat,ii=.int .i64 (i:Nat)/\i<=n+1/\rr=.string (a0f (rIn M n i))/\Hid (NRowT wr g M)/\Hid (Below w.heap.size w wr)) (fun rr ii wr=>n+1-(intOf ii).toNat)
  case atStart=>exact⟨0,rfl,K5 _,rfl,RG4,B4⟩
  case round=>
   obtain⟨i,rfl,hi,rfl,hrow,hB⟩:=hrel;by_cases hlt:i<n+1
   .have q5:decide ((i:Int)<((n+1:Nat):Int))=true:=by simp;omega
    have f0:=qw i
    have f1:(i:Int)<((n+1:Nat):Int):=by omega
    have f2:(i:Int)<=256:=by have:=HN.out;omega
    have w1':IntKind.i64.wrap ((n:Int)-(i:Int))=((n-i:Nat):Int):=by rw[U0 _ ⟨by omega,by omega⟩];omega
    have IL:=hid hlt;obtain⟨x,hx⟩:=gn (M.getD i 0);have t1:wr.cell? ⟨g,i,none⟩=some (.string (a0f x)):=by rw[<- hx];exact hrow.out.cell (by rw[HMb.out.1];exact IL.out)
    have bx:x<=2 ^ e7:=hx ▸ HMb.out.2 i;have hle:x*2 ^ (n-i)<=rIn M n i:=hx ▸ HR.out i (by omega);have hnx:=hid (show rIn M n (i+1)=rIn M n i-x*2 ^ (n-i) from by rw[rIn,hx]);have br:=k0K M n i;obtain⟨r,hr⟩:=gn (rIn M n i);rw[hr]at hle hnx br |-;have P1:=fun V hV=>hid (h0w V x (2 ^ (n-i)) (a0b bx (by unfold e7;omega)) (a0b nr (by omega)) (a0b (J0 hle br) (by have:=HN.out;omega)) hV)
    have P2:=fun V hV=>hid (y0f V r (x*2 ^ (n-i)) (a0b br (by have:=HN.out;omega)) (a0b (J0 hle br) (by have:=HN.out;omega)) hle hV)
    have P0:=fun V hV=>(HPow V (n-i) (by have:=HN.out;omega) hV)
    obtain⟨u1,hu1⟩:=gn (a0f x);obtain⟨u2,hu2⟩:=gn (a0f (2 ^ (n-i)));obtain⟨u3,hu3⟩:=gn (a0f (x*2 ^ (n-i)));obtain⟨u4,hu4⟩:=gn (a0f r);obtain⟨u5,hu5⟩:=gn (a0f (r-x*2 ^ (n-i)));rw[hu2]at P0;rw[hu1,hu2,hu3]at P1;rw[hu3,hu4,hu5]at P2;rw[hu1]at t1;rw[hu4];have HU5:=hid hu5;clear hx bx hle br hr hu1 hu2 hu3 hu4 hu5 hi hlt HPow;go_wp2_with fail;refine ny (P0 _ (HLy.out.below hB.out HLL.out)) fun w5 hb5=>?_;obtain⟨R5,B5⟩:=zu (hrow.out.call hb5) (hB.out.trans (hb5.mono hB.out.size));clear hb5 t1;go_wp2_with fail;refine ny (P1 _ (HLy.out.below B5.out HLL.out)) fun w6 hb6=>?_;obtain⟨R6,B6⟩:=zu (R5.out.call hb6) (B5.out.trans (hb6.mono B5.out.size));clear hb6;go_wp2_with fail;refine ny (P2 _ (HLy.out.below B6.out HLL.out)) fun w7 hb7=>?_;obtain⟨R7,B7⟩:=zu (R6.out.call hb7) (B6.out.trans (hb7.mono B6.out.size));clear hb7 w1';go_wp2_with fail;go_roundw
    case rel=>exact⟨i+1,by go_num,by have:=IL.out;omega,by rw[hnx.out,HU5.out],R7,B7⟩
    case measure=>simp[intOf]<;>(have:=IL.out;omega)
   .have q5:decide ((i:Int)<((n+1:Nat):Int))=false:=by simp;omega
    have e1:i=n+1:=by omega
    subst e1;obtain⟨u1,hu1⟩:=gn (a0f (rIn M n (n+1)));obtain⟨u2,hu2⟩:=gn (a0f (2 ^ n));have P0:=fun V hV=>(HPow V n HN.out hV)
    rw[hu1,hu2]at HQM;rw[hu2]at P0;rw[hu1];clear hu1 hu2 HPow hi hlt;go_wp2_with fail;refine ny (P0 _ (HLy.out.below hB.out HLL.out)) fun w5 hb5=>?_;have B5:=hid (hB.out.trans (hb5.mono hB.out.size));clear hb5;go_wp2_with fail;refine ny (HQM _ (HLy.out.below B5.out HLL.out)) fun w6 hb6=>?_;have B6:=hid (B5.out.trans (hb6.mono B5.out.size));clear hb6;go_wp2_with fail;go_ret2
    exact⟨rfl,B6.out⟩
section
def drT (N D:Nat)(two:Bool)(l:List UInt8):Bool×Int×Int:=if two=true then z0T N D l else c1B N D l
def b1V {N D:Nat}(h:N<D)(two:Bool)(l:List UInt8):∃ u:Nat,u<=l.length/\((i0f N D two l=none/\drT N D two l=(false,0,(u:Int)))\/(∃ v:Int,-(l.length:Int)<=v/\v<=l.length/\i0f N D two l=some v/\drT N D two l=(true,v,(u:Int)))):=by
 have hb:=fun v hv=>i0V h (two:=two) (l:=l) (v:=v) hv
 unfold i0f at hb;unfold i0f drT c1B z0T;cases hs:s1 N D l 0 0 with
 | none=>exact⟨l.length,O4 _,.inl ⟨rfl,by cases two<;>rfl⟩⟩
 | some xp=>
  obtain⟨x,p⟩:=xp;obtain⟨b1,b2⟩:=m0d h hs;rw[hs]at hb;cases two
  .exact⟨p,b1,.inr ⟨x,(hb _ rfl).1,(hb _ rfl).2,rfl,rfl⟩⟩
  .simp only[Ew]at hb |-;have hd:=m0c h (l:=l) (a:=p) b1 l.length 0 0 (by omega) (by omega);rw[At]at hd;rw[hd];cases hs2:s1 N D (l.drop p) 0 0 with
   | none=>exact⟨l.length,O4 _,.inl ⟨rfl,rfl⟩⟩
   | some yq=>
    obtain⟨y,q⟩:=yq;obtain⟨b3,b4⟩:=m0d h hs2;rw[Af]at b3;rw[hs2]at hb;exact⟨p+q,by omega,.inr ⟨(x:Int)-(y:Int),(hb _ rfl).1,(hb _ rfl).2,rfl,rfl⟩⟩
def y0z {N D:Nat}(h:N<D)(two:Bool)(n:Nat):rIn (f0S two (b0S (a0D N D) (a0i N D) n (n+1)).2 n) n (n+1)=gL N D two n/\∀ i,i<=n->(f0S two (b0S (a0D N D) (a0i N D) n (n+1)).2 n).getD i 0*2 ^ (n-i)<=rIn (f0S two (b0S (a0D N D) (a0i N D) n (n+1)).2 n) n i:=by
 have hs:a0m (fun i=>(f0S two (b0S (a0D N D) (a0i N D) n (n+1)).2 n).getD i 0*2 ^ (n-i)) (n+1)=if two=true then cw n (d0Q N D) else cw n (g0k N D):=by
  cases two
  .exact i0Y h n (O4 n)
  .rw[J3 rfl,<- n0h h n (O4 n)];unfold f0S;rw[J3 rfl];refine a0d fun i hi=>?_
   rw[v0R (by omega)];rfl
 have hle:a0m (fun i=>(f0S two (b0S (a0D N D) (a0i N D) n (n+1)).2 n).getD i 0*2 ^ (n-i)) (n+1)<=2 ^ n:=by
  rw[hs];have h1:=l0x (d0Q N D) n;have h2:=l0x (g0k N D) n
  split<;>omega
 refine⟨?_,a1J hle⟩;rw[m0e hle _ nr,hs];cases two
 .exact (w0P N D n).symm
 .exact (s0B N D n).symm
open Go.Shelf
def d0z (u:Int):Bool:=decide (u < -1125899906842624) || decide (1125899906842624<u)
def w0J (p:Int->Bool)(l:List Int):Int:=if l.any p=true then (l.findIdx p:Nat) else -1
def Mx:=@List.findIdx_eq
def k0G (w:World)(v:Value)(l:List Int)(F:Nat)(p:Int->Bool)(hv:Row w v (zs l))(hl:l.length<=9223372036854775807)(hen:∀ args w,(callFunc F args).run prog w=.ok (.enter F args) w)
 (hF:∀ W x,Calls prog F #[.int .i64 x] W fun e w'=>e=.returned (.bool (p x))/\W=w'):
 Calls prog 203 #[v,.func (.func F) #[] #[]] w fun e w'=>e=.returned (.int .i64 (w0J p l))/\w=w':=by
 obtain⟨a,c,rfl,q1,q2,q3⟩:=hv.openZ;obtain⟨n,hn⟩:=gn (l.length);rw[hn]at q1 hl |-;obtain⟨HN,Q3,HF⟩:=zg hn q3 hF;clear hv q3 hn hF;go_enter func203,ntmps203;go_wp2_with fail
 go_loop [8] (fun ii=>∃ i:Nat,ii=.int .i64 i/\i<=n/\Hid (∀ j x,j<i->l[j]?=some x->p x=false)) (fun ii=>n-(intOf ii).toNat)
 case atStart=>exact⟨0,rfl,K5 _,fun j x hj=>absurd hj (by omega)⟩
 case round=>
  obtain⟨i,rfl,hi,hI⟩:=hrel;by_cases hlt:i<n
  .obtain⟨x,hx⟩:∃ x,l[i]?=some x:=⟨_,Q0 (by rw[HN.out];exact hlt)⟩;obtain⟨g,o,rfl,hg,hc⟩:=Q3.out i x hx;have HX:=hid hx;have b1:=qw i
   have b2:(i:Int)<(n:Int):=by omega
   have wi:=qy i (by omega)
   obtain⟨z,hz⟩:=gn (p x);have C:=fun W=>hid (hz ▸ HF.out W x)
   have HZ:=hid hz;clear hx hz;go_wp2_with fail;refine zx (C _) ?_;cases z
   .go_wp2_with fail;go_round
    case rel=>exact⟨i+1,by go_num,by omega,fun j y hj hy=>by
     rcases Ct j i with h | h
     .exact hI.out j y h hy
     .obtain rfl:j=i:=by omega
      rw[HX.out]at hy;cases hy;exact HZ.out⟩
    case measure=>simp[intOf]<;>omega
   .have hA:l.any p=true:=Dt.2 ⟨x,U7 HX.out,HZ.out⟩;have hfi:l.findIdx p=i:=by
     have hil:i<l.length:=by rw[HN.out];exact hlt
     rw[Mx hil];refine⟨?_,fun j hj=>?_⟩
     .have:=HX.out;rw[Q0 hil]at this;rw[Ag this];exact HZ.out
     .exact hI.out j _ hj (Q0 (No hj hil))
    have HE:=hid (show w0J p l=(i:Int) from by rw[w0J,J3 hA,hfi]);clear hA hfi;go_wp2_with fail;go_ret
    exact⟨by rw[HE.out];rfl,rfl⟩
  .obtain rfl:i=n:=by omega
   have hA:¬ l.any p=true:=fun h=>by
    obtain⟨x,hx,hp⟩:=Dt.1 h;obtain⟨j,hj⟩:=Bi hx;have:=hI.out j x (by rw[<- HN.out];exact (U4.1 hj).1) hj;rw[this]at hp;cases hp
   have HE:=hid (show w0J p l = -1 from by rw[w0J,J2 hA]);clear hA hlt;go_wp2_with fail;go_ret
   exact⟨by rw[HE.out];rfl,rfl⟩
def h0g (w:World)(v:Value)(l:List Int)(F:Nat)(p:Int->Bool)(hv:Row w v (zs l))(hl:l.length<=9223372036854775807)(hen:∀ args w,(callFunc F args).run prog w=.ok (.enter F args) w)
 (hF:∀ W x,Calls prog F #[.int .i64 x] W fun e w'=>e=.returned (.bool (p x))/\W=w'):
 Calls prog 131 #[v,.func (.func F) #[] #[]] w fun e w'=>e=.returned (.bool (l.any p))/\w=w':=by
 have HI:=hid (k0G w v l F p hv hl hen hF)
 have HB:=hid (show decide (0<=w0J p l)=l.any p from by
  unfold w0J;cases h:l.any p
  .rw[J2 (by simp)];rfl
  .rw[J3 rfl];simp)
 rw[<- HB.out];obtain⟨a,c,rfl,-⟩:=hv.openZ;generalize w0J p l=z at *
 clear hF hv;go_enter func131,ntmps131;go_wp2_with fail;refine zx HI ?_;go_wp2_with fail;go_ret
 exact⟨rfl,rfl⟩
end
def Ak:=@Classical.byContradiction
def v0u (a:ByteArray):gE a ⟨#[]⟩=gPE a:=by
 unfold gE
 split
 .rfl
 .rename_i h
  have:gPE a=0:=Ak h;rw[this];decide
def v0O (s:ByteArray):c0D s=if k0i s≠0 then k0i s else if 256<s.size then 4 else 0:=by
 unfold c0D k0i
 split<;>rfl
def bsE:List ByteArray->Int
 | []=>0
 | s::r=>if c0D s≠0 then c0D s else bsE r
def wdE (l:List ByteArray)(m:Int):Int:=if (l.length:Int)=m then bsE l else 16
theorem i0S:∀ {l:List ByteArray} {i:Nat},(∀ (j:Nat) (b:ByteArray),j<i->l[j]?=some b->c0D b=0)->bsE l=bsE (l.drop i)
 | [],i,_=>by simp[bsE]
 | b::r,0,_=>rfl
 | b::r,i+1,h=>by
  have h1:=h 0 b (by omega) rfl;have h3:=i0S (l:=r) (i:=i) (fun j c hj hc=>h (j+1) c (by omega) (by simpa using hc));rw[bsE,J2 (by simp[h1]),h3]
  rfl
theorem o0A:∀ {l:List ByteArray},bsE l=0 ↔ ∀ b∈l,c0D b=0
 | []=>by simp[bsE]
 | b::r=>by
  rw[bsE];by_cases h:c0D b=0
  .rw[J2 (by simp[h]),o0A];simp[h]
  .rw[J3 h];simp[h]
def zE (c:List Int):Int:=if 256<c.length then 4 else if c.any d0z=true then 2 else 0
def ctE (c:List Int):Int:=if c.length=0 then 2 else zE c
def nz1 (two:Bool)(a:ByteArray)(n:Int)(b:ByteArray):Option Int:=let t:=if two=true then wT a b else oT a b;if t.1=true then some (n+t.2.1) else none
def nzO (two:Bool)(a:ByteArray):List Int->List ByteArray->Option (List Int)
 | c::cs,b::bs=>(nz1 two a c b).bind fun x=>(nzO two a cs bs).map (x :: ·)
 | _,_=>some []
end Go.Proofs.YtfkpfpobmobnbaaGreatDoor
