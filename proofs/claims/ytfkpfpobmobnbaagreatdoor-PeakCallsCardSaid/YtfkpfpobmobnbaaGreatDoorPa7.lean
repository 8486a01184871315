/- Texts that the proof rests on, merged: R1h, R1i, R1j, R2a, R2m, R1o, R1c, R3a, Pc2, Sh3, Rep, Sd, Lasts, Tt, NpG, Lt, Gt0, Cf. -/
import Derived.Test.YtfkpfpobmobnbaaGreatDoorPa6
import Derived.IntWalk
import Derived.Deep.DeepCutAuto
import Derived.Deep.CutBlock
import Derived.Laws.Concat
import Derived.Shelf.Bits.Mul64
import Derived.Ground.NamesProg
import Derived.Test.YtfkpfpobmobnbaaGreatDoorProg
import Derived.Laws.CopyOwn
import Derived.RegionTactic
import Derived.Deep.LoopGhost
import Derived.WalkLawsBesides
set_option linter.defProp false
set_option linter.unusedVariables false
set_option linter.unusedSimpArgs false
set_option linter.unusedSectionVars false
set_option maxRecDepth 100000
set_option maxHeartbeats 8000000
namespace Go.Proofs.YtfkpfpobmobnbaaGreatDoor
section
open Go.RowKit
def y0y (us vs:List Nat)(gu j n:Nat)(w:World)(e:Ending)(w':World):Prop:=
 e=.returned (.int .i64 ((val ((us.drop j).take (n+1)) / val vs:Nat):Int))/\∃ o,WinOut us j n (val ((us.drop j).take (n+1))%val vs) o/\Arr .i64 3 w' gu o/\w.grownBy w' (some gu)
def w0A (w:World)(gu j cu:Nat)(us:List Nat)(gv ov cv:Nat)(vs:List Nat)(n:Nat)(hS:StepIn us vs j n)(hU:Arr .i64 3 w gu us)(hV:Row w (.slice (some ⟨gv,ov,none⟩) n cv) (b0p .i64 vs))(hne:gv≠gu):
 Calls Tryz.prog 306 #[.slice (some ⟨gu,j,none⟩) (n+1) cu,.slice (some ⟨gv,ov,none⟩) n cv] w fun e w'=>y0y us vs gu j n w e w':=by
 have n2:=hS.n2;have nm:=hS.nm;have lu:=hS.lu;have um:=hS.um;have cv':∀ i,i<n->w.cell? ⟨gv,ov+i,none⟩=some (.int .i64 (vs.getD i 0:Nat)):=fun i hi=>by
  obtain⟨g,o,e,hg,hc⟩:=hV.at (d0L (getD_some (l:=vs) (i:=i) (by rw[hS.lv];exact hi)));simp at e;obtain⟨rfl,rfl⟩:=e;exact hc
 have cu':∀ i,i<=n->w.cell? ⟨gu,j+i,none⟩=some (.int .i64 (us.getD (j+i) 0:Nat)):=fun i hi=>hU.cell (getD_some (by omega))
 have hE:=hid hS.est;have a0:=cu' n nr0;have a1:=cu' (n-1) (by omega);have a2:=cu' (n-2) (by omega);have b1:=cv' (n-1) (by omega);have b2:=cv' (n-2) (by omega);have CV:=hid cv';have CU:=hid cu';have HS:=hid hS;have HU:=hid hU;clear cv' cu' hS hU hV;obtain⟨u0,hu0⟩:=gn (us.getD (j+n) 0);obtain⟨u1,hu1⟩:=gn (us.getD (j+(n-1)) 0);obtain⟨u2,hu2⟩:=gn (us.getD (j+(n-2)) 0);obtain⟨v1,hv1⟩:=gn (vs.getD (n-1) 0);obtain⟨v2,hv2⟩:=gn (vs.getD (n-2) 0);rw[hu0,hu1,hu2,hv1,hv2]at hE;rw[hu0]at a0;rw[hu1]at a1;rw[hu2]at a2;rw[hv1]at b1;rw[hv2]at b2;have HU0:=hid hu0;clear hu0 hu1 hu2 hv1 hv2;have l0:=hE.out.b0;have l1:=hE.out.b1;have l2:=hE.out.b2;have l3:=hE.out.c1;have l4:=hE.out.c2;have l5:=hE.out.v0;have f1:(0:Int)<=(n:Int)-1:=by omega
 have f2:(n:Int)-1<(n:Int)+1:=by omega
 have f3:(n:Int)-1<(n:Int):=by omega
 have f7:(0:Int)<=(n:Int):=by omega
 have f8:(n:Int)<(n:Int)+1:=by omega
 have e1:IntKind.i64.wrap ((n:Int)-1)=(n:Int)-1:=Q0 _ (by omega);have e2:IntKind.i64.wrap ((n:Int)-2)=(n:Int)-2:=Q0 _ (by omega);have e3:((n:Int)-1).toNat=n-1:=by omega
 have e4:((n:Int)-2).toNat=n-2:=by omega
 have e5:IntKind.i64.wrap ((u0:Int)*1000000000)=(u0:Int)*1000000000:=Q0 _ (by omega);have e6:IntKind.i64.wrap ((u0:Int)*1000000000+u1)=(u0:Int)*1000000000+u1:=Q0 _ (by omega);go_enter Tryz.func306,Tryz.ntmps306;go_wp2_with fail;go_quiet (fail)
 clear e5 e6;go_wp2_with fail;go_quiet (fail)
 go_upto_block 0 with (fail)
 rename_i nq1 nq2
 obtain⟨V,hV⟩:=gn (val vs);obtain⟨U,hU⟩:=gn (val ((us.drop j).take (n+1)));rw[hU,hV]at hE;have HVU:=hid (And.intro hU hV);clear hU hV
 go_cut [7] (fun gg wx=>∃ (G q:Nat),gg=.int .i64 G/\wx=w.drewN q/\G<1000000000/\Hid (U / V<=G/\G*V<U+V))
 case first=>
  go_wp2_with fail
  go_loopw [7,8] (fun gg rr wr=>∃ G R q:Nat,gg=.int .i64 G/\rr=.int .i64 R/\wr=w.drewN q/\Hid (EstI U V u0 u1 v1 G R)) (fun gg _ _=>(intOf gg).toNat)
  case atStart=>
   exact⟨_,_,_,by rw[Im];rfl,by rw[Lb];rfl,by rw[Au],EstI.start hE.out⟩
  case round=>
   obtain⟨G,R,q,rfl,rfl,rfl,hI⟩:=hrel;have g2:=hI.out.g2;have r2:=hI.out.r2;by_cases hR:R<1000000000
   .have q1:decide ((R:Int)<1000000000)=true:=by simp;omega
    by_cases hG:1000000000<=G
    .have q2:decide ((1000000000:Int)<=(G:Int))=true:=by simp;omega
     have HN:=hid (hI.out.big hE.out hR hG);go_wp2_with fail
     go_big_quiet (fail)
     clear q1 q2;go_wp2_with fail;go_quiet (fail)
     go_wp2_with fail;go_roundw
     case rel=>exact⟨G-1,R+v1,_,by go_num,by go_num,by rw[Au,Au],HN⟩
     case measure=>simp[intOf]<;>omega
    .have q2:decide ((1000000000:Int)<=(G:Int))=false:=by simp;omega
     obtain⟨p,hp⟩:=gn (G*v2);have hpb:p<=999999999*999999999:=by rw[<- hp];exact Bk (by omega) (by omega)
     have HPI:=hid (show ((G:Int)*(v2:Int))=(p:Int) from by rw[<- By,hp]);by_cases hT:R*1000000000+u2<p
     .have q3:decide ((R:Int)*1000000000+u2<(p:Int))=true:=by simp;omega
      have HN:=hid (hI.out.less hE.out hR (by rw[hp];exact hT));have hg0:=HN.out.2;clear hp hT;obtain⟨x5,x6,x7⟩:IntKind.i64.wrap ((G:Int)*(v2:Int))=(p:Int)/\IntKind.i64.wrap ((R:Int)*1000000000)=(R:Int)*1000000000/\IntKind.i64.wrap ((R:Int)*1000000000+u2)=(R:Int)*1000000000+u2:=by
       refine⟨by rw[HPI.out];exact Q0 _ (by omega),Q0 _ (by omega),Q0 _ (by omega)⟩
      go_wp2_with fail
      go_big_quiet (fail)
      clear q1 q2 q3 x5 x6 x7;go_wp2_with fail;go_quiet (fail)
      go_wp2_with fail;go_roundw
      case rel=>exact⟨G-1,R+v1,_,by go_num,by go_num,by rw[Au,Au],HN.out.1⟩
      case measure=>simp[intOf]<;>omega
     .have q3:decide ((R:Int)*1000000000+u2<(p:Int))=false:=by simp;omega
      have HD:=hid (hI.out.done hE.out (.inr ⟨by omega,by rw[hp];omega⟩));have HQ:=hid hI.out.q;clear hp hT;obtain⟨x5,x6,x7⟩:IntKind.i64.wrap ((G:Int)*(v2:Int))=(p:Int)/\IntKind.i64.wrap ((R:Int)*1000000000)=(R:Int)*1000000000/\IntKind.i64.wrap ((R:Int)*1000000000+u2)=(R:Int)*1000000000+u2:=by
       refine⟨by rw[HPI.out];exact Q0 _ (by omega),Q0 _ (by omega),Q0 _ (by omega)⟩
      go_wp2_with fail
      go_big_quiet (fail)
      clear q1 q2 q3 x5 x6 x7;go_wp2_with fail
      go_meet
      exact⟨G,_,rfl,by rw[Au],HD.out.1,HQ.out,HD.out.2⟩
   .have q1:decide ((R:Int)<1000000000)=false:=by simp;omega
    have HD:=hid (hI.out.done hE.out (.inl (by omega)));have HQ:=hid hI.out.q;go_wp2_with fail
    go_big_quiet (fail)
    clear q1;go_wp2_with fail
    go_meet
    exact⟨G,_,rfl,by rw[Au],HD.out.1,HQ.out,HD.out.2⟩
 case rest=>
  obtain⟨G,q,rfl,rfl,hG,hQ⟩:=hcut;have hE1:=hE;clear a0 a1 a2 b1 b2 f1 f2 f3 f7 f8 e1 e2 e3 e4 hE l0 l1 l2 l3 l4 l5;go_wp2_with fail
  go_loopw [9,10,11,12] (fun bb ii tt xx wr=>∃ (i c:Nat) (o:List Nat),bb=.int .i64 c/\ii=.int .i64 i/\i<=n/\Hid (MsubI us vs j n G i c o)/\Hid (Arr .i64 3 wr gu o)/\Hid (w.grownBy wr (some gu))) (fun _ ii _ _ _=>n-(intOf ii).toNat)
  case atStart=>exact⟨0,0,us,rfl,rfl,S4 _,MsubI.start HS.out.su,HU.out.drewN q,e0P (Ms w _) q⟩
  case round=>
   obtain⟨i,c,o,rfl,rfl,hin,hM,hO,hB⟩:=hrel;have hol:=hid hM.out.len;have hcG:=hM.out.c1;by_cases hlt:i<n
   .have d1:=hO.out.cell (getD_some (l:=o) (i:=j+i) (by rw[hol.out];omega));have d4:=hO.out.free (j+i);have d2:=d0c hB.out (CV.out i hlt) hne;have hvl:=HS.out.sv.getD i;have hul:=HS.out.su.getD (j+i);rw[b0J hM.out.hi]at d1;obtain⟨T,M,z,c',hT,hM1,hz,hc',z1,z2,z3,z4,z5,z6,z7,z8⟩:=t0k hul hcG hG hvl;have HN:=hid (hM.out.next (by omega) lu z1 z2 z3);obtain⟨ui,hui⟩:=gn (us.getD (j+i) 0);obtain⟨vi,hvi⟩:=gn (vs.getD i 0);rw[hui]at d1 hul hT;rw[hvi]at d2 hvl hT;clear hui hvi z3;obtain⟨p,hp⟩:=gn (G*vi);have hpb:p<=999999999*999999999:=by rw[<- hp];exact Bk (by omega) (by omega)
    have HPI:=hid (show ((G:Int)*(vi:Int))=(p:Int) from by rw[<- By,hp]);rw[hp]at hT;have HT:=hid hT;have HM1:=hid hM1;have HZ:=hid hz;have HC:=hid hc';clear hp hT hM1 hz hc';have f1:(0:Int)<=(i:Int):=by omega
    have f2:(i:Int)<(n:Int):=by omega
    have f3:(i:Int)<(n:Int)+1:=by omega
    obtain⟨x5,x6,x7⟩:IntKind.i64.wrap ((G:Int)*(vi:Int))=(p:Int)/\IntKind.i64.wrap ((ui:Int)-c)=(ui:Int)-c/\IntKind.i64.wrap ((ui:Int)-c-p)=T:=by
     refine⟨by rw[HPI.out];exact Q0 _ (by omega),Q0 _ (by omega),by rw[HT.out];exact Q0 _ (by omega)⟩
    go_wp2_with fail;go_quiet (fail)
    clear x5 x6 x7;have y1:=HM1.out;have y2:=HZ.out;go_wp2_with fail;clear y1 y2;go_roundw
    case rel=>exact⟨i+1,c',_,by rw[HC.out],by go_num,by omega,HN,(hO.out.drewN _).set (j+i) z,d0i (e0P hB.out _) _ _⟩
    case measure=>simp[intOf]<;>omega
   .obtain rfl:i=n:=by omega
    have hg0:=b0J hM.out.hi;have d1:=hO.out.cell (getD_some (l:=o) (i:=j+i) (by rw[hol.out];omega));have d4:=hO.out.free (j+i);rw[hg0,HU0.out]at d1;have hV0:=hE1.out.pos;have l0:=hE1.out.b0;clear hg0;by_cases hc:c<=u0
    .obtain⟨r1,r2,r3⟩:=hM.out.fits lu HS.out.lv HS.out.sv HVU.out.1 HVU.out.2 HU0.out hQ.out.1 hV0 hc;have R1:=hid r1;have R3:=hid r3;subst r2;clear r1 r3 hc;go_wp2_with fail;refine wp_loop_rounds 1 ?_;rw[rounds_succ];go_wp2_with fail;go_ret
     refine⟨a0G (by rw[HVU.out.1,HVU.out.2,<- R1.out]),_,by rw[HVU.out.1,HVU.out.2];exact R3.out,hO.out.set (j+i) 0,d0i hB.out _ _⟩
    .obtain⟨hc1,hadd⟩:=hM.out.lacks lu HS.out.lv HS.out.sv HVU.out.1 HVU.out.2 HU0.out hQ.out.1 hQ.out.2 hV0 (by omega);have HADD:=hid hadd;have hsub:((u0:Int)-(c:Int)) = -1:=by omega
     have HN:=hid (hO.out.setN (j+i) (-1));have HG:=hid (d0i hB.out (j+i) (.int .i64 (-1)));clear hadd hc hc1;go_wp2_with fail;refine wp_loop_rounds 2 ?_;rw[rounds_succ];clear hsub;obtain⟨wx,hwx⟩:=gn (wr.setCell ⟨gu,j+i,none⟩ (.int .i64 (-1)));rw[hwx]at HN HG |-;clear hwx d1 d4;have k1:=HN.out.self (m:=j+i) (by rw[hol.out];omega);go_wp2_with fail
     go_loopw [13,14,15] (fun cc ii tt wq=>∃ (y k:Nat) (p:List Nat),cc=.int .i64 k/\ii=.int .i64 y/\y<=i/\Hid (AddI o vs j y k p)/\Hid (ArrN .i64 3 wq gu p (j+i) (-1))/\Hid (w.grownBy wq (some gu))) (fun _ ii _ _=>i-(intOf ii).toNat)
     case atStart=>exact⟨0,0,o,rfl,rfl,S4 _,AddI.start hM.out.sm,HN,HG⟩
     case round=>
      obtain⟨y,k,p,rfl,rfl,hyi,hA,hP,hB2⟩:=hrel;have hpl:=hid (show p.length=us.length from by rw[hA.out.len,hol.out]);by_cases hlt2:y<i
      .have d1:=hP.out.cell (i:=j+y) (by omega) (getD_some (l:=p) (i:=j+y) (by rw[hpl.out];omega));have d4:=hP.out.free (j+y);have d2:=d0c hB2.out (CV.out y hlt2) hne;rw[b0J hA.out.hi]at d1;have HN2:=hid (hA.out.next hM.out.sm HS.out.sv (by rw[hol.out];omega));have hvl:=HS.out.sv.getD y;have hul:=hM.out.sm.getD (j+y);have hk1:=hA.out.k1;obtain⟨ui,hui⟩:=gn (o.getD (j+y) 0);obtain⟨vi,hvi⟩:=gn (vs.getD y 0);rw[hui]at d1 hul;rw[hvi]at d2 hvl;rw[hui,hvi]at HN2;clear hui hvi;have f1:(0:Int)<=(y:Int):=by omega
       have f2:(y:Int)<(i:Int):=by omega
       have f3:(y:Int)<(i:Int)+1:=by omega
       obtain⟨x5,x6⟩:IntKind.i64.wrap ((ui:Int)+vi)=(ui:Int)+vi/\IntKind.i64.wrap ((ui:Int)+vi+k)=(ui:Int)+vi+k:=by
        refine⟨Q0 _ (by omega),Q0 _ (by omega)⟩
       go_wp2_with fail;go_quiet (fail)
       clear x5 x6;go_wp2_with fail;go_roundw
       case rel=>
        have hz:(((ui:Int)+vi+k)%1000000000)=(((ui+vi+k)%1000000000:Nat):Int):=by omega
        rw[hz];exact⟨y+1,_,_,by go_num,by go_num,by omega,HN2,(hP.out.drewN _).set (by omega) _,d0i (e0P hB2.out _) _ _⟩
       case measure=>simp[intOf]<;>omega
      .obtain rfl:y=i:=by omega
       obtain⟨r0,r1,r2,r3⟩:=HADD.out k p hA.out;subst r0;have R1:=hid r1;have R3:=hid r3;have k1:=hP.out.self (m:=j+y) (by rw[hpl.out];omega);have k2:=hP.out.free (j+y);clear r1 r3;go_wp2_with fail;rw[rounds_succ];go_wp2_with fail;go_ret
       refine⟨a0G (by rw[HVU.out.1,HVU.out.2,R1.out];omega),_,by rw[HVU.out.1,HVU.out.2];exact R3.out,hP.out.back 0,d0i hB2.out _ _⟩
def u0W (B:Nat)(k:IntKind)(q r:Nat)(e:Ending)(w':World):Prop:=∃ v u,e=.returned (.tuple #[v,u])/\IsN k w' v q/\(∀ g,v.ownBlock=some g->B<=g)/\IsN k w' u r
def l0T (w:World)(v u:Value)(a b:Nat)(ha:IsN .i64 w v a)(hb:IsN .i64 w u b)(hlt:a<b):
 Calls Tryz.prog 244 #[v,u] w fun e w'=>u0W w.heap.size .i64 (a / b) (a%b) e w'/\Below w.heap.size w w':=by
 have HA:=hid ha;have HB:=hid hb;have HL:=hid (b0H hlt);have HQ:=hid (Cz hlt);have HR:=hid (Ba hlt);obtain⟨a1,c1,rfl,_⟩:=ha.openI;obtain⟨a2,c2,rfl,_⟩:=hb.openI;clear ha hb hlt;go_enter Tryz.func244,Tryz.ntmps244;go_wp2_with fail;refine (b0k _ _ _ a b HA.out HB.out).mono ?_;rintro e w1 ⟨rfl,hb1⟩;have B1:=hid hb1;clear hb1;rw[HL.out];go_wp2_with fail;go_ret2
 exact⟨⟨_,_,rfl,by rw[HQ.out];exact IsN.zero _ _,fun g e=>by simp[Value.ownBlock]at e,by rw[HR.out];exact HA.out.call B1.out⟩,B1.out⟩
def o0S (w:World)(v u:Value)(a b:Nat)(ha:IsN .i64 w v a)(hb:IsN .i64 w u b)(hle:b<=a)(h0:0<b)(h1:b<1000000000)(hla:(limbs a).length<=1000000):
 Calls Tryz.prog 244 #[v,u] w fun e w'=>u0W w.heap.size .i64 (a / b) (a%b) e w'/\Below w.heap.size w w':=by
 have HA:=hid ha;have HB:=hid hb;have hord:b0d a b=0\/b0d a b=1:=by
  unfold b0d;split
  .omega
  .split<;>simp
 obtain⟨a1,c1,rfl,h1',_⟩:=ha.openI;obtain⟨a2,c2,rfl,h2',h3',h4'⟩:=hb.openI;have hl1:limbs b = [b]:=d0a h0 h1;obtain⟨g,o,rfl,hg,hc⟩:=h4' 0 b (by rw[hl1];rfl);rw[Ac]at hc;have HC:=hid hc;have hlen:(limbs b).length=1:=by rw[hl1];rfl
 rw[hlen]at HB h2' |-;clear ha hb hc h4' hl1 hlen;go_enter Tryz.func244,Tryz.ntmps244;go_wp2_with fail;refine (b0k _ _ _ a b HA.out HB.out).mono ?_;rintro e w1 ⟨rfl,hb1⟩;have d1:=(hb1.cell (p:=⟨g,o,none⟩) hg).trans HC.out;have B1:=hid hb1;clear hb1;obtain⟨t,ht⟩:=gn (b0d a b);rw[ht]at hord |-;have q0:decide (t<0)=false:=by simp;omega
 clear ht hord;go_wp2_with fail;refine (k0b _ _ a b (HA.out.call B1.out) h0 h1 hla).mono ?_;rintro e w2 ⟨⟨v2,rfl,hv2,hf2⟩,hb2⟩;have B2:=hid hb2;have V2:=hid hv2;have F2:=hid hf2;clear hb2 hv2 hf2;have hrb:a%b<1000000000:=Ny (Ho a h0) h1;go_wp2_with fail;refine (l0r _ _ [a%b] (Sm.cons hrb Sm.nil) ?_).mono ?_
 .exact Row.of_blk (b:=w2.heap.size) (n:=1) (c:=1) (cs:=#[.int .i64 ((a%b:Nat):Int)]) (Blk.new w2 _ _) rfl (by unfold maxLen;omega) (fun i x hx=>by simpa[b0p]using hx) nr0 (by unfold maxLen;omega)
 .rintro e w3 ⟨⟨v3,rfl,hv3⟩,rfl⟩;have V3:=hid hv3;clear hv3;go_wp2_with fail;go_ret2
  have hb3:Below w2.heap.size w2 (w2.alloc (.cells #[.int .i64 ((a%b:Nat):Int)] 3)):=br0.alloc nr0 _;refine⟨⟨_,_,rfl,V2.out.call hb3,fun g e=>O0 B1.out.size (F2.out g e),?_⟩,a0a (a0a B1.out B2.out) hb3⟩;have:=V3.out;rwa[show val [a%b]=a%b by simp[a0P]]at this
def l0S (w:World)(v u:Value)(a b m:Nat)(ha:IsN .i64 w v a)(hb:IsN .i64 w u b)(hle:b<=a)(hn:(limbs b).length=m)(hm2:2<=m)(hla:(limbs a).length<=1000000):
 Calls Tryz.prog 244 #[v,u] w fun e w'=>u0W w.heap.size .i64 (a / b) (a%b) e w'/\Below w.heap.size w w':=by
 have HA:=hid ha;have HB:=hid hb;have hord:b0d a b=0\/b0d a b=1:=by
  unfold b0d;split
  .omega
  .split<;>simp
 have hmn:=a0h hle;obtain⟨a1,c1,rfl,h1',_⟩:=ha.openI;obtain⟨a2,c2,rfl,h2',h3',h4'⟩:=hb.openI;obtain⟨x,hx⟩:∃ x,(limbs b)[m-1]?=some x:=⟨_,J0 (by omega)⟩;obtain⟨g,o,rfl,hg,hc⟩:=h4' (m-1) x hx;have HC:=hid hc;have hn1:(limbs b).length=(m-1)+1:=by omega
 obtain⟨s1,s2,s3⟩:=j0P hn1 hx;obtain⟨t1,t2,_⟩:=i0h hn1 hx;obtain⟨d,hd⟩:=gn (1000000000 / (x+1));rw[hd]at s1 s2 s3;have HS:=hid (show (limbs (b*d)).length=m by omega);have hdI:=hid (show ((1000000000:Int) / ((x:Int)+1))=(d:Int) from by rw[<- hd];rfl);rw[hn]at h2' hmn |-;obtain⟨L,hL⟩:=gn ((limbs a).length);rw[hL]at hmn h1' |-;have hla':L<=1000000:=by omega
 have HL:=hid hL;have HN:=hid hn;have HLA:=hid hla;rw[hL]at HA;rw[hn]at HB;obtain⟨K,hK⟩:∃ K,K=L+1-m:=⟨_,rfl⟩;have hKI:=hid (show ((L:Int)+1-(m:Int))=(K:Int) by omega);have hKL:K+m=L+1:=by omega
 have hmk:=hid (fun W=>d0J K (by omega) W);clear ha hb hc h4' hx hd s1 hL hn hla hle hn1 hK;go_enter Tryz.func244,Tryz.ntmps244;go_wp2_with fail;refine (b0k _ _ _ a b HA.out HB.out).mono ?_;rintro e w1 ⟨rfl,hb1⟩;have d1:=(hb1.cell (p:=⟨g,o+(m-1),none⟩) hg).trans HC.out;have B1:=hid hb1;clear hb1;obtain⟨t,ht⟩:=gn (b0d a b);rw[ht]at hord |-;have q0:decide (t<0)=false:=by simp;omega
 clear ht hord;go_wp2_with fail;rw[hdI.out];refine (k0c _ _ a d (HA.out.call B1.out) s3 HLA.out).mono ?_;rintro e w2 ⟨⟨gu,ou,rfl,hgu,hAu,lu,su,vu⟩,hb2⟩;have B2:=hid (a0a B1.out hb2);have AU:=hid hAu;have LU:=hid lu;have SU:=hid su;have VU:=hid vu;have hul:=hAu.lt;rw[HL.out]at LU |-;clear hAu lu su vu d1;go_wp2_with fail;refine (k0c _ _ b d (HB.out.call B2.out) s3 (by rw[HN.out];omega)).mono ?_;rintro e w3 ⟨⟨gv,ov,rfl,hgv,hAv,lv,sv,vv⟩,hb3⟩;have B3:=hid (a0a B2.out hb3);have AU3:=hid (AU.out.call hb3);have hne:gv≠gu:=by omega
 have LV:=hid lv;have VV:=hid vv;have SV:=hid sv;clear lv vv sv;go_wp2_with fail;rw[<- LV.out];refine (c0K _ _ _ ov SV.out (by have:=hAv.row (n:=ov.length) (c:=ov.length) nr0 nr0 (by rw[LV.out,HN.out];unfold maxLen;omega);rwa[J7 nr0]at this)).mono ?_;rintro e w4 ⟨⟨m',rfl,hm'⟩,rfl⟩;rw[VV.out]at hm';have hmm:m'=m:=by have:=hm'.len.1;rw[ints_length,HS.out]at this;exact this
 subst hmm;have RV:=hid hm';have hvl:=hAv.lt;clear hAv hm' AU;have y1:=hKI.out;have y2:=hmk.out;go_wp2_with fail;clear y1 y2;have hV:=hid (a0z (b*d))
 have D0:=hid (show DivI (a*d) (b*d) m' (L+1) K ou (List.replicate K 0) from by
  have h1:1000000000 ^ (m'-1)<=b:=b0b.1 (by rw[HN.out];omega);have h2:b*d<=1000000000 ^ m':=Di (a0g.1 (by rw[HS.out];exact J4 _));have h3:a<1000000000 ^ L:=a0g.1 (by rw[HL.out];exact J4 _);have:=DivI.start (U:=a*d) (V:=b*d) (n:=m') h2 SU.out LU.out (by omega) VU.out (o0b LU.out VU.out h3 (by omega) (by omega) h1 s2);rwa[show L+1-m'=K by omega]at this)
 go_loopw [13] (fun jj wr=>∃ (k:Nat) (t:Int) (o Q:List Nat),jj=.int .i64 t/\t=(k:Int)-1/\k<=K/\Hid (DivI (a*d) (b*d) m' (L+1) k o Q)/\Hid (Arr .i64 3 wr gu o)/\Hid (Arr .i64 3 wr w3.heap.size Q)/\Hid (Row wr (.slice (some ⟨gv,0,none⟩) m' ov.length) (b0p .i64 (limbs (b*d))))/\Hid (Below w.heap.size w wr)) (fun jj _=>(intOf jj+1).toNat)
 case atStart=>
  have ha:Below w3.heap.size w3 (w3.alloc (.cells (madeCells #[.int .i64 0] K) 3)):=br0.alloc nr0 _;exact⟨K,_,ou,_,rfl,rfl,J4 _,D0,AU3.out.call ha,Arr.made w3 .i64 3 K,RV.out.call ha,a0a B3.out ha⟩
 case round=>
  obtain⟨k,t,o2,Q,rfl,ht,hk,hD,hU,hQ,hR,hB⟩:=hrel;have hol:=hid hD.out.lo;have hql:=hid (show Q.length=K from by rw[hD.out.lq];omega);cases k with
  | zero=>
   obtain rfl:t = -1:=by omega
   clear ht;obtain⟨r1,r2,r3⟩:=hD.out.done (by omega);have hfin:=hid (r0R (a:=a) (b:=b) s2 r1 r2);have R3:=hid r3;have hlen:(limbs (val (o2.take m'))).length<=1000000:=by
    rw[r3];have:=a0h (Di r2);rw[HS.out]at this;omega
   clear r1 r2 r3;go_wp2_with fail;refine (l0r _ _ (o2.take m') (hD.out.so.take _) (hU.out.row (by rw[hol.out];omega) (by omega) (by unfold maxLen;omega))).mono ?_;rintro e w5 ⟨⟨v5,rfl,hv5⟩,rfl⟩;go_wp2_with fail;refine (t0x _ v5 _ d hv5 s2 s3 hlen).mono ?_;rintro e w6 ⟨⟨v6,rfl,hv6⟩,hb6⟩;have V6:=hid hv6;have B6:=hid hb6;have Q6:=hid (hQ.out.call hb6);clear hv5 hv6 hb6;go_wp2_with fail;refine (k0a _ _ _ _ Q hql.out hD.out.sq (by have:=Q6.out.row (n:=K) (c:=K) (by rw[hql.out];exact J4 _) nr0 (by unfold maxLen;omega);rwa[J7 (by rw[hql.out];exact J4 _)]at this)).mono ?_;rintro e w7 ⟨⟨m7,rfl,hv7⟩,rfl⟩;go_wp2_with fail;go_ret2
   refine⟨⟨_,v6,rfl,by rw[<- hfin.out.1];exact hv7,fun g e=>by have:=B3.out.size;simp[Value.ownBlock]at e;omega,?_⟩,a0a hB.out B6.out⟩;have:=V6.out;rwa[R3.out,hfin.out.2]at this
  | succ j=>
   obtain rfl:t=(j:Int):=by omega
   clear ht;have hS:=hid (show StepIn o2 (limbs (b*d)) j m' from⟨hm2,by omega,HS.out,by rw[hol.out];omega,by rw[hol.out];omega,hD.out.so,a0o _,k0r (n:=m'-1) (by rw[HS.out];omega),by rw[hV.out];exact hD.out.win (by omega)⟩);obtain⟨z,hz⟩:∃ z,Q[j]?=some z:=⟨_,J0 (by rw[hql.out];omega)⟩;have hgq:w3.heap.size≠gu:=by omega
   have hgw:w.heap.size<=gu:=O0 B1.out.size hgu;have hqw:w.heap.size<=w3.heap.size:=B3.out.size;go_wp2_with fail;rw[show j+m'+1-j=m'+1 by omega];refine (w0A _ gu j _ o2 gv 0 _ (limbs (b*d)) m' hS.out hU.out hR.out hne).mono ?_;rintro e w5 ⟨he,o5,hw5,hA5,hg5⟩;rw[hV.out]at he hw5;have HN5:=hid (hD.out.next (by omega) hw5);obtain⟨qv,hqv⟩:=gn (val ((o2.drop j).take (m'+1)) / (b*d));rw[hqv]at he HN5;subst he;have Q5:=hid (hQ.out.gb hg5 hgq);have R5:=hid (hR.out.gb hg5 hne);have B5:=hid (u0R hB.out hB.out.size hg5 hgw);have A5:=hid hA5;have d3:=Q5.out.cell hz;have d4:=Q5.out.free j;clear hw5 hA5 hg5 hqv hz;go_wp2_with fail;go_roundw
   case rel=>
    have hset:w5.grownBy (w5.setCell ⟨w3.heap.size,j,none⟩ (.int .i64 (qv:Int))) (some w3.heap.size):=d0i (Ms _ _) _ _;exact⟨j,_,o5,_,rfl,rfl,by omega,HN5,A5.out.gb hset (fun e=>hgq e.symm),Q5.out.set j qv,R5.out.gb hset (by omega),a0W B5.out hqw _⟩
   case measure=>simp[intOf]<;>omega
def f0b (w:World)(v u:Value)(a b:Nat)(ha:IsN .i64 w v a)(hb:IsN .i64 w u b)(h0:0<b)(hla:(limbs a).length<=1000000):
 Calls Tryz.prog 244 #[v,u] w fun e w'=>u0W w.heap.size .i64 (a / b) (a%b) e w'/\Below w.heap.size w w':=by
 by_cases hlt:a<b
 .exact l0T w v u a b ha hb hlt
 .by_cases h1:b<1000000000
  .exact o0S w v u a b ha hb (by omega) h0 h1 hla
  .refine l0S w v u a b _ ha hb (by omega) rfl ?_ hla;have:1<(limbs b).length:=b0b.2 (by omega);omega
def g0E (w:World)(v u:Value)(a b:Nat)(ha:IsN .i64 w v a)(hb:IsN .i64 w u b)(h0:0<b)(hla:(limbs a).length<=1000000):
 Calls Tryz.prog 244 #[v,u] w fun e w'=>s0C .i64 (a / b) (a%b) e w'/\Below w.heap.size w w':=
 (f0b w v u a b ha hb h0 hla).mono fun _ _ h=>by
  obtain⟨⟨v,u,h1,h2,-,h3⟩,h4⟩:=h;exact⟨⟨v,u,h1,h2,h3⟩,h4⟩
def g0F (w:World)(v u:Value)(a b:Nat)(ha:IsN .i64 w v a)(hb:IsN .i64 w u b)(hla:(limbs a).length<=1000000)(hlb:(limbs b).length<=1000000):
 Calls Tryz.prog 174 #[v,u] w fun e w'=>h0x .i64 (Nat.gcd a b) e w'/\Below w.heap.size w w':=by
 have HA:=hid ha;have HB:=hid hb;have LA:=hid hla;have LB:=hid hlb;clear ha hb hla hlb;go_enter Tryz.func174,Tryz.ntmps174;go_wp2_with fail
 go_loopw [0,1,5,6] (fun x y q r wr=>∃ m n:Nat,Hid (IsN .i64 wr x m)/\Hid (IsN .i64 wr y n)/\Hid ((limbs m).length<=1000000)/\Hid ((limbs n).length<=1000000)/\Hid (Nat.gcd m n=Nat.gcd a b)/\Hid (Below w.heap.size w wr))
  (fun x y q r wr=>t0L .i64 wr y)
 case atStart=>exact⟨a,b,HA,HB,LA,LB,rfl,Z3 _ _⟩
 case round=>
  obtain⟨m,n,hx,hy,hm,hn,hg,hB⟩:=hrel;have hnum:=hid (g0b hy.out);obtain⟨a1,c1,rfl,h1,h1',h1''⟩:=hx.out.openI;obtain⟨a2,c2,rfl,h2,h2',h2''⟩:=hy.out.openI;clear h1'' h2'';by_cases h0:n=0
  .subst h0;have hl:(limbs 0).length=0:=by rw[limbs_zero];rfl
   rw[hl]at *;clear hl;go_wp2_with fail;go_ret
   exact⟨⟨_,rfl,by rw[<- hg.out,Nat.gcd_zero_right];exact hx.out⟩,hB.out⟩
  .have hpos:0<(limbs n).length:=Fv.2 (fun e=>h0 (b0N.1 e));go_wp2_with fail;refine (g0E _ _ _ m n hx.out hy.out (by omega) hm.out).mono ?_;rintro e w1 ⟨⟨v1,v2,rfl,hv1,hv2⟩,hb1⟩;have V2:=hid hv2;have B1:=hid (a0a hB.out hb1);have Y1:=hid (hy.out.call hb1);have hlt:=hid (Ho m (y:=n) (by omega));have hll:=hid (show (limbs (m%n)).length<=1000000 from O0 (a0h (Di hlt.out)) hn.out);have hgg:=hid (show Nat.gcd n (m%n)=Nat.gcd a b from by rw[<- hg.out,Kr m n,Nat.gcd_rec n m,Kr]) ;clear hv1 hv2 hb1;go_wp2_with fail;go_roundw
   case rel=>exact⟨n,m%n,Y1,V2,hn,hll,hgg,B1⟩
   case measure=>rw[g0b V2.out,hnum.out];exact hlt.out
open Go.Lib (decDigits nDigits)
def IsQF (B:Nat)(w:World)(v:Value)(q:Rat):Prop:=∃ N D,v=.agg #[.bool (decide (q.num<0)),N,D]/\IsN .i64 w N q.num.natAbs/\IsN .i64 w D q.den/\(∀ g,N.ownBlock=some g->B<=g)/\(∀ g,D.ownBlock=some g->B<=g)
theorem IsQF.q {B:Nat}{w:World}{v:Value}{q:Rat}(h:IsQF B w v q):IsQ .i64 w v q:=by
 obtain⟨N,D,rfl,h1,h2,-,-⟩:=h;exact⟨N,D,rfl,h1,h2⟩
theorem IsQF.of {B:Nat}{w:World}{m:Bool}{N D:Value}{q:Rat}(h:IsQ .i64 w (.agg #[.bool m,N,D]) q)(hN:∀ g,N.ownBlock=some g->B<=g)(hD:∀ g,D.ownBlock=some g->B<=g):IsQF B w (.agg #[.bool m,N,D]) q:=by
 obtain⟨N',D',e,h1,h2⟩:=h.ex;simp at e;obtain⟨rfl,rfl,rfl⟩:=e;exact⟨N,D,rfl,h1,h2,hN,hD⟩
def RetQF (B:Nat)(q:Rat)(e:Ending)(w':World):Prop:=∃ v,e=.returned v/\IsQF B w' v q
theorem RetQF.ret {B:Nat}{q:Rat}{e:Ending}{w':World}(h:RetQF B q e w'):k0T .i64 q e w':=by
 obtain⟨v,h1,h2⟩:=h;exact⟨v,h1,h2.q⟩
def q0c (w:World):Calls Tryz.prog 153 #[] w fun e w'=>RetFr w.heap.size .i64 1 e w'/\Below w.heap.size w w':=by
 have H1:=hid (i0O w);go_enter Tryz.func153,Tryz.ntmps153;go_wp2_with fail;go_ret
 exact⟨⟨_,rfl,H1.out,fun g e=>by simp[Value.ownBlock]at e;omega⟩,br0.alloc nr0 _⟩
def q0d (w:World):Calls Tryz.prog 153 #[] w fun e w'=>h0x .i64 1 e w'/\Below w.heap.size w w':=(q0c w).mono fun _ _ h=>⟨h.1.ret,h.2⟩
def d0F (w:World)(m:Bool)(v u:Value)(n d:Nat)(hn:IsN .i64 w v n)(hd:IsN .i64 w u d)(h0:0<d)(hln:(limbs n).length<=1000000)(hld:(limbs d).length<=1000000):
 Calls Tryz.prog 175 #[.bool m,v,u] w fun e w'=>RetQF w.heap.size (qmk m n d) e w'/\Below w.heap.size w w':=by
 have HN:=hid hn;have HD:=hid hd;obtain⟨a1,c1,rfl,_⟩:=hn.openI;obtain⟨a2,c2,rfl,_⟩:=hd.openI;clear hn hd;rcases M7 n with rfl | hp
 .have hl:(limbs 0).length=0:=by rw[limbs_zero];rfl
  rw[hl]at HN |-;have hq:=hid (m0L m d);rw[hq.out];clear hl;go_enter Tryz.func175,Tryz.ntmps175;go_wp2_with fail;refine (q0c _).mono ?_;rintro e w1 ⟨⟨v1,rfl,hv1,hf1⟩,hb1⟩;obtain⟨a3,c3,rfl,_⟩:=hv1.openI;have HV:=hid hv1;have HF:=hid hf1;clear hf1;have HB:=hid (show Blk w1 w.heap.size #[.bool false,.slice none 0 0,.slice none 0 0] 81 from (Blk.new w _ _).call hb1);have d0:=HB.out.cell 0;have d1:=HB.out.cell 1;have d2:=HB.out.cell 2;have e0:=HB.out.free 0;have e1:=HB.out.free 1;have e2:=HB.out.free 2;have HBB:=hid hb1;clear hb1 hv1;simp at d0 d1 d2;go_wp2_with fail;obtain⟨s1,s2⟩:=c0W HB.out false none a3 0 0 (limbs 1).length c3;have f0:=s2.cell 0;have f1:=s2.cell 1;have f2:=s2.cell 2;simp at f0 f1 f2;refine Z6 (v:=.agg #[.bool false,.slice none 0 0,.slice a3 (limbs 1).length c3]) (by simp[results,Tryz.results175,go_sem,f0,f1,f2]) rfl ⟨⟨_,rfl,IsQF.of (IsQ.zero_ (s1 _ _ _ (IsN.zero _ _)) (s1 _ _ _ HV.out)) (fun g e=>by simp[Value.ownBlock]at e) (fun g e=>by have:=HF.out g e;simp at this;omega)⟩,?_⟩;exact ((((br0.alloc nr0 _).trans (HBB.out.mono (by simp))).setCell nr0 _).setCell nr0 _).setCell nr0 _
 .have hpos:0<(limbs n).length:=Fv.2 (fun e=>by have:=b0N.1 e;omega);have q0:(((limbs n).length:Int)==0)=false:=U4.2 (by omega);obtain⟨g,hg⟩:=gn (Nat.gcd n d);have hgp:0<g:=hg ▸ Fo d hp;have HG:=hid hg;have HGP:=hid hgp;have HP:=hid hp;have H0:=hid h0;have HLN:=hid hln;have HLD:=hid hld;clear hg hgp hp h0 hln hld hpos;go_enter Tryz.func175,Tryz.ntmps175;go_wp2_with fail;refine (g0F _ _ _ n d (HN.out.call (br0.alloc nr0 _)) (HD.out.call (br0.alloc nr0 _)) HLN.out HLD.out).mono ?_;rintro e w1 ⟨⟨v1,rfl,hv1⟩,hb1⟩;rw[HG.out]at hv1;have HB1:=hid (show Blk w1 w.heap.size #[.bool false,.slice none 0 0,.slice none 0 0] 81 from (Blk.new w _ _).call hb1);have B1:=hid (((Z3 w.heap.size w).alloc nr0 (.cells #[.bool false,.slice none 0 0,.slice none 0 0] 81)).trans (hb1.mono (by simp)));have N1:=hid (HN.out.call B1.out);have D1:=hid (HD.out.call B1.out);have G1:=hid hv1;clear hb1 hv1;go_wp2_with fail;refine (f0b _ _ _ n g N1.out G1.out HGP.out HLN.out).mono ?_;rintro e w2 ⟨⟨v2,v3,rfl,hv2,hf2,-⟩,hb2⟩;have HB2:=hid (HB1.out.call hb2);have B2:=hid (a0a B1.out hb2);have D2:=hid (D1.out.call hb2);have G2:=hid (G1.out.call hb2);have V2:=hid hv2;have F2:=hid hf2;clear hb2 hv2 hf2;go_wp2_with fail;refine (f0b _ _ _ d g D2.out G2.out HGP.out HLD.out).mono ?_;rintro e w3 ⟨⟨v4,v5,rfl,hv4,hf4,-⟩,hb3⟩;have HB3:=hid (HB2.out.call hb3);have B3:=hid (a0a B2.out hb3);have W2:=hid (V2.out.call hb3);have W4:=hid hv4;have F4:=hid hf4;clear hb3 hv4 hf4;obtain⟨a3,c3,rfl,_⟩:=W2.out.openI;obtain⟨a4,c4,rfl,_⟩:=W4.out.openI;have d0:=HB3.out.cell 0;have d1:=HB3.out.cell 1;have d2:=HB3.out.cell 2;have e0:=HB3.out.free 0;have e1:=HB3.out.free 1;have e2:=HB3.out.free 2;simp at d0 d1 d2;go_wp2_with fail;obtain⟨s1,s2⟩:=c0W HB3.out m a3 a4 (limbs (n / g)).length c3 (limbs (d / g)).length c4;have f0:=s2.cell 0;have f1:=s2.cell 1;have f2:=s2.cell 2;simp at f0 f1 f2;refine Z6 (v:=.agg #[.bool m,.slice a3 (limbs (n / g)).length c3,.slice a4 (limbs (d / g)).length c4]) (by simp[results,Tryz.results175,go_sem,f0,f1,f2]) rfl ⟨⟨_,rfl,IsQF.of (IsQ.mk' HP.out H0.out (HG.out ▸ s1 _ _ _ W2.out) (HG.out ▸ s1 _ _ _ W4.out)) (fun g e=>O0 B1.out.size (F2.out g e)) (fun g e=>O0 B2.out.size (F4.out g e))⟩,?_⟩;exact ((B3.out.setCell nr0 _).setCell nr0 _).setCell nr0 _
def j0X (w:World)(m:Bool)(v u:Value)(n d:Nat)(hn:IsN .i64 w v n)(hd:IsN .i64 w u d)(h0:0<d)(hln:(limbs n).length<=1000000)(hld:(limbs d).length<=1000000):
 Calls Tryz.prog 175 #[.bool m,v,u] w fun e w'=>k0T .i64 (qmk m n d) e w'/\Below w.heap.size w w':=
 (d0F w m v u n d hn hd h0 hln hld).mono fun _ _ h=>⟨h.1.ret,h.2⟩
def a0x {n:Nat}(h:nDigits n<=4000):(limbs n).length<=1000000:=by
 exact O0 (a0n h) (by omega)
def z0o {a b:Nat}(h0:b≠0):(qmk false a b).num.natAbs<=a/\(qmk false a b).den<=b:=by
 unfold qmk
 constructor
 .rw[Jm,U0 h0];refine O0 (Ii _ _) ?_;rw[b0s];exact J4 _
 .rw[Nl,U0 h0];exact Dp _ _
def l0n (w:World)(a b:Nat)(ha:nDigits a<=4000)(hb:nDigits b<=4000)(h0:b≠0):
 Calls Tryz.prog 285 #[.string (a0f a),.string (a0f b)] w fun e w'=>e=.returned (.tuple #[.string (c0p (qmk false a b)),.int .i64 (c0G (qmk false a b))])/\Below w.heap.size w w':=by
 have sa:=a0t a;have sb:=a0t b;have e1:iM (a0f a)=false:=by
  unfold iM Lib.hasPrefix;rw[a0q];exact e0J a
 have e2:iD (a0f a)=a0f a:=b0O e1;have e3:iB (a0f a)=true:=by
  unfold iB;rw[e1,e2,n0o];rfl
 have HI:=fun V=>hid (h0G V (a0f a) (by omega))
 rw[e1,e2,e3]at HI;have HC:=fun V=>hid (f0Y V (a0f b) (by omega))
 rw[b0E hb]at HC;have HA:=fun V=>hid (c0o V a (by omega))
 have HB:=fun V=>hid (c0o V b (by omega))
 have la:=a0x ha;have lb:=a0x hb;have HR:=fun V v u hn hd=>hid (j0X V false v u a b hn hd (by omega) la lb)
 have dq:(limbs (qmk false a b).num.natAbs).length<=1000000/\(limbs (qmk false a b).den).length<=1000000:=by
  obtain⟨k1,k2⟩:=z0o (a:=a) h0;have:=a0r k1;have:=a0r k2;exact⟨a0x (by omega),a0x (by omega)⟩
 have HW:=fun V v h=>hid (d0E V v (qmk false a b) h dq.1 dq.2)
 have hne:=a0L (show ¬ a0f b=⟨[48].toArray⟩ from by rw[<- a0p];exact b0M h0);have q0:decide ((4000:Int)<((a0f a).size:Int))=false:=by simp;omega
 obtain⟨oB,hB⟩:=gn (c0p (qmk false a b));obtain⟨oE,hE⟩:=gn (c0G (qmk false a b));rw[hB,hE]at HW;rw[hB,hE];generalize a0f a=A at *
 generalize a0f b=B at *
 clear e1 e2 e3 hB hE la lb dq sa sb ha hb h0;go_enter Tryz.func285,Tryz.ntmps285;go_wp2_with fail;refine (HI _).out.mono ?_;rintro e w1 ⟨rfl,rfl⟩;go_wp2_with fail;refine (HC _).out.mono ?_;rintro e w2 ⟨rfl,rfl⟩;go_wp2_with fail;refine (HA _).out.mono ?_;rintro e w3 ⟨⟨v3,rfl,hv3⟩,hb3⟩;have y3:=hid hb3;have N3:=hid hv3;clear hb3 hv3;go_wp2_with fail;refine (HB _).out.mono ?_;rintro e w4 ⟨⟨v4,rfl,hv4⟩,hb4⟩;have y4:=hid (a0a y3.out hb4);have N4:=hid hv4;have M4:=hid (N3.out.call hb4);clear hb4 hv4;go_wp2_with fail;refine (HR _ _ _ M4.out N4.out).out.mono ?_;rintro e w5 ⟨⟨v5,rfl,hv5⟩,hb5⟩;have y5:=hid (a0a y4.out hb5);have N5:=hid hv5;clear hb5;obtain⟨N,D,rfl,-,-⟩:=hv5.ex;clear hv5;go_wp2_with fail;refine (HW _ _ N5.out).out.mono ?_;rintro e w6 ⟨rfl,hb6⟩;have y6:=hid (a0a y5.out hb6);clear hb6;go_wp2_with fail;go_ret2
 exact⟨rfl,y6.out⟩
def y0c (w:World):(convert 21 9 (.int .i32 48)).run Tryz.prog w=.ok (.string ⟨#[48]⟩) w:=by kernel_rfl
def y0b (w:World):(convert 21 9 (.int .i32 49)).run Tryz.prog w=.ok (.string ⟨#[49]⟩) w:=by kernel_rfl
def y0a (w:World):(convert 21 9 (.int .i32 50)).run Tryz.prog w=.ok (.string ⟨#[50]⟩) w:=by kernel_rfl
def x0Z (w:World):(convert 21 9 (.int .i32 51)).run Tryz.prog w=.ok (.string ⟨#[51]⟩) w:=by kernel_rfl
def x0Y (w:World):(convert 21 9 (.int .i32 52)).run Tryz.prog w=.ok (.string ⟨#[52]⟩) w:=by kernel_rfl
def x0X (w:World):(convert 21 9 (.int .i32 53)).run Tryz.prog w=.ok (.string ⟨#[53]⟩) w:=by kernel_rfl
def x0W (w:World):(convert 21 9 (.int .i32 54)).run Tryz.prog w=.ok (.string ⟨#[54]⟩) w:=by kernel_rfl
def x0V (w:World):(convert 21 9 (.int .i32 55)).run Tryz.prog w=.ok (.string ⟨#[55]⟩) w:=by kernel_rfl
def x0U (w:World):(convert 21 9 (.int .i32 56)).run Tryz.prog w=.ok (.string ⟨#[56]⟩) w:=by kernel_rfl
def x0T (w:World):(convert 21 9 (.int .i32 57)).run Tryz.prog w=.ok (.string ⟨#[57]⟩) w:=by kernel_rfl
def o0X (d:Nat)(h:d<10)(w:World):(convert 21 9 (.int .i32 (((48+d:Nat)):Int))).run Tryz.prog w=.ok (.string ⟨[UInt8.ofNat (48+d)].toArray⟩) w:=by
 obtain rfl | rfl | rfl | rfl | rfl | rfl | rfl | rfl | rfl | rfl:d=0\/d=1\/d=2\/d=3\/d=4\/d=5\/d=6\/d=7\/d=8\/d=9:=by omega
 .exact y0c w
 .exact y0b w
 .exact y0a w
 .exact x0Z w
 .exact x0Y w
 .exact x0X w
 .exact x0W w
 .exact x0V w
 .exact x0U w
 .exact x0T w
def h0H (w:World)(n:Nat)(h:n<=9223372036854775807):Calls Tryz.prog 149 #[.int .i64 n] w fun e w'=>e=.returned (.tuple #[s0H n,.int .i64 0])/\w=w':=by
 have hd20:=hid (show nDigits n<=19 from a0l (by omega) (by omega));go_enter Tryz.func149,Tryz.ntmps149;go_wp2_with fail
 go_loop [0,4] (fun nn ss=>∃ (m:Nat) (l:List UInt8),nn=.int .i64 m/\m<=9223372036854775807/\ss=.string ⟨l.toArray⟩/\l.length<=19/\Hid (decDigits n=decDigits m++l)) (fun nn _=>(intOf nn).toNat)
 case atStart=>exact⟨n,[],rfl,h,rfl,by simp,by simp[Hid]⟩
 case round=>
  obtain⟨m,l,rfl,hm,rfl,hl,hd⟩:=hrel;have hc:=o0X (m%10) (by omega);have hz:(((48+m%10:Nat)):Int)=48+(m:Int)%10:=by omega
  rw[hz]at hc;by_cases h9:9<m
  .have q1:decide ((9:Int)<(m:Int))=true:=by simp;omega
   have hdm:=hid (a0X (u:=m) (by omega));have hl19:l.length+1<=19:=by
    have h1:=congrArg List.length hd.out;rw[Z4,S9]at h1;have h2:=hd20.out;have h3:=h0w m;omega
   clear hz;go_wp2_with fail;go_round
   case rel=>exact⟨m / 10,UInt8.ofNat (48+m%10)::l,by go_num,by omega,by simp[Go.ByteArray.mk_append_mk],by simpa using hl19,by rw[Hid,hd.out,hdm.out];simp⟩
   case measure=>simp[intOf]<;>omega
  .have q1:decide ((9:Int)<(m:Int))=false:=by simp;omega
   have hm9:m<10:=by omega
   have hdm:=hid (a0u hm9);have hmm:m%10=m:=Ba hm9;rw[hmm]at hc;have hmI:(48+(m:Int)%10)=48+(m:Int):=by omega
   rw[hmI]at hc;clear hz hmm hmI h9;go_wp2_with fail;go_ret2
   refine⟨t0i ?_ rfl,rfl⟩;rw[s0H,hd.out,hdm.out];simp[Go.ByteArray.mk_append_mk]
end
section
open Go.RowKit
def c0z (w:World)(v u:Value)(a b:Nat)(ha:IsN .i64 w v a)(hb:IsN .i64 w u b)(hla:(limbs a).length<=1000000)(hlb:(limbs b).length<=1000000):
 Calls Tryz.prog 150 #[v,u] w fun e w'=>RetFr w.heap.size .i64 (a+b) e w'/\Below w.heap.size w w':=by
 obtain⟨i0,hi,hz0,hz1,hz2⟩:=Dj i0Q;obtain⟨a1,c1,rfl,h1,h2,h3⟩:=ha.openI;obtain⟨a2,c2,rfl,k1,k2,k3⟩:=hb.openI;have H3:=hid h3;have K3:=hid k3;clear h3 k3 ha hb;obtain⟨n,ea⟩:=gn ((limbs a).length);obtain⟨m,eb⟩:=gn ((limbs b).length);rw[ea]at h1 hla |-;rw[eb]at k1 hlb |-;have HA:=hid ea;have HB:=hid eb;clear ea eb;go_enter Tryz.func150,Tryz.ntmps150;go_wp2_with fail
 go_loopw [5,6,7] (fun o cc i wr=>∃ (s:List Nat) (c:Nat) (C:Int),i=.int .i64 s.length/\cc=.int .i64 C/\C=(c:Int)/\c<=1/\s.length<=1000001/\(s.length<=n\/s.length<=m\/c=0)/\Hid (PlusI a b s c)/\Hid (wr.ownsRow w.heap.size 3 1 o s.length (b0p .i64 s))/\Hid (Below w.heap.size w wr))
  (fun _ _ i _=>1000002-(intOf i).toNat)
 case atStart=>exact⟨[],0,0,rfl,rfl,rfl,by omega,by simp,.inl (by simp),PlusI.start a b,Eb _ _ _ _,Z3 _ _⟩
 case round=>
  obtain⟨s,c,C,rfl,rfl,hC,hc1,hs1,hs2,hP,hO,hB⟩:=hrel;obtain⟨ao,co,rfl⟩:=b0i hO.out;by_cases hA:s.length<n
  focus
   obtain⟨x,hx⟩:∃ x,(limbs a)[s.length]?=some x:=⟨_,J0 (by rw[HA.out];exact hA)⟩;obtain⟨g,og,rfl,hg,hc⟩:=H3.out _ x hx;have hc':=(hB.out.cell (p:=⟨g,og+s.length,none⟩) hg).trans hc;have hxl:=(a0o a).get hx;have HX:=hid hx;clear hx hc;by_cases hB':s.length<m
   focus
    obtain⟨y,hy⟩:∃ y,(limbs b)[s.length]?=some y:=⟨_,J0 (by rw[HB.out];exact hB')⟩;obtain⟨g',og',rfl,hg',hd⟩:=K3.out _ y hy;have hd':=(hB.out.cell (p:=⟨g',og'+s.length,none⟩) hg').trans hd;have hyl:=(a0o b).get hy;have HY:=hid hy;clear hy hd;rcases (show c=0\/c=1 by omega) with rfl | rfl
    focus
     obtain rfl:C=0:=by omega
     clear hC;have HN:=hid (hP.out.next (by rw[HA.out];exact .inl hA));rw[a0J HX.out,a0J HY.out]at HN;obtain⟨t,ht⟩:=gn (x+0+y)
    rotate_left
    focus
     obtain rfl:C=1:=by omega
     clear hC;have HN:=hid (hP.out.next (by rw[HA.out];exact .inl hA));rw[a0J HX.out,a0J HY.out]at HN;obtain⟨t,ht⟩:=gn (x+1+y)
   rotate_left 2
   focus
    skip
    rcases (show c=0\/c=1 by omega) with rfl | rfl
    focus
     obtain rfl:C=0:=by omega
     clear hC;have HN:=hid (hP.out.next (by rw[HA.out];exact .inl hA));rw[a0J HX.out,b0f (by rw[HB.out];omega)]at HN;obtain⟨t,ht⟩:=gn (x+0+0)
    rotate_left
    focus
     obtain rfl:C=1:=by omega
     clear hC;have HN:=hid (hP.out.next (by rw[HA.out];exact .inl hA));rw[a0J HX.out,b0f (by rw[HB.out];omega)]at HN;obtain⟨t,ht⟩:=gn (x+1+0)
  rotate_left 4
  focus
   skip
   by_cases hB':s.length<m
   focus
    obtain⟨y,hy⟩:∃ y,(limbs b)[s.length]?=some y:=⟨_,J0 (by rw[HB.out];exact hB')⟩;obtain⟨g',og',rfl,hg',hd⟩:=K3.out _ y hy;have hd':=(hB.out.cell (p:=⟨g',og'+s.length,none⟩) hg').trans hd;have hyl:=(a0o b).get hy;have HY:=hid hy;clear hy hd;rcases (show c=0\/c=1 by omega) with rfl | rfl
    focus
     obtain rfl:C=0:=by omega
     clear hC;have HN:=hid (hP.out.next (by rw[HB.out];exact .inr (.inl hB')));rw[b0f (by rw[HA.out];omega),a0J HY.out]at HN;obtain⟨t,ht⟩:=gn (0+0+y)
    rotate_left
    focus
     obtain rfl:C=1:=by omega
     clear hC;have HN:=hid (hP.out.next (by rw[HB.out];exact .inr (.inl hB')));rw[b0f (by rw[HA.out];omega),a0J HY.out]at HN;obtain⟨t,ht⟩:=gn (0+1+y)
   rotate_left 2
   focus
    skip
    rcases (show c=0\/c=1 by omega) with rfl | rfl
    .obtain rfl:C=0:=by omega
     clear hC;have hs:=hid (hP.out.done (by rw[HA.out];exact hA) (by rw[HB.out];exact hB') rfl);go_wp2_with fail;go_ret
     exact⟨⟨_,rfl,g0a hO.out hs.out,fun g hg=>(hO.out.lt g hg).1⟩,hB.out⟩
    focus
     obtain rfl:C=1:=by omega
     clear hC;have HN:=hid (hP.out.next (by exact .inr (.inr (by omega))));rw[b0f (by rw[HA.out];omega),b0f (by rw[HB.out];omega)]at HN;obtain⟨t,ht⟩:=gn (0+1+0)
  all_goals
   rw[ht]at HN;have HT:=hid ht;clear ht;go_wp2_with (at_builtin;refine Bw _ rfl _ _ 79 rfl w.heap.size 3 i0 (.int .i64 0) 1 8 Kg hi hz0 hz1 hz2 rfl (by decide) _ s.length _ rfl (hO.out.alloc _) ⟨wr.heap.size,0,none⟩ 1 1 [_] rfl rfl (Dh wr _ _) (by simp[Value.oneCell']) (by unfold maxLen;omega) (by omega) (by have:=hB.out.size;simp;omega) ?_;intro v' w3 hown3 hgrow3 _;have HO3:=hid hown3;have HG3:=hid hgrow3;clear hown3 hgrow3)
   obtain⟨n1,n2⟩:=e0G (z:=t%1000000000) hO.out hB.out HO3.out HG3.out (by have:=HT.out;omega);have N1:=hid n1;have N2:=hid n2;clear n1 n2 HO3 HG3;obtain⟨a3,k3,rfl⟩:=b0i N1.out;go_wp2_with fail;go_roundw
   case rel=>exact⟨s ++ [t%1000000000],t / 1000000000,_,by simp,rfl,by have:=HT.out;omega,HN.out.c1,by simp<;>omega,by have:=HT.out;simp<;>omega,HN,N1,N2⟩
   case measure=>simp[intOf]<;>omega
def d0n (w:World)(v u:Value)(a b:Nat)(ha:IsN .i64 w v a)(hb:IsN .i64 w u b)(hla:(limbs a).length<=1000000)(hlb:(limbs b).length<=1000000):
 Calls Tryz.prog 150 #[v,u] w fun e w'=>h0x .i64 (a+b) e w'/\Below w.heap.size w w':=
 (c0z w v u a b ha hb hla hlb).mono fun _ _ h=>⟨h.1.ret,h.2⟩
open Go.Lib (decDigits nDigits)
def j0Z (w:World)(n:Nat)(h:n<=9223372036854775807):Calls Tryz.prog 55 #[.int .i64 n] w fun e w'=>e=.returned (.string (a0f n))/\w=w':=by
 go_enter Tryz.func55,Tryz.ntmps55;go_wp2_with fail;refine (h0H _ n h).mono ?_;rintro e w1 ⟨rfl,rfl⟩;rw[b0t];go_wp2_with fail;go_ret
 exact⟨rfl,rfl⟩
def i0p (w:World)(n:Nat)(h:n<=9223372036854775807):Calls Tryz.prog 286 #[.int .i64 n] w fun e w'=>h0x .i64 n e w'/\Below w.heap.size w w':=by
 have hd:=hid (show nDigits n<=9000 from O0 (a0l (k:=19) (by omega) (by omega)) (by omega));go_enter Tryz.func286,Tryz.ntmps286;go_wp2_with fail;refine (j0Z _ n h).mono ?_;rintro e w1 ⟨rfl,rfl⟩;go_wp2_with fail;refine (c0o _ n hd.out).mono ?_;rintro e w1 ⟨⟨v,rfl,hv⟩,hb⟩;go_wp2_with fail;go_ret
 exact⟨⟨_,rfl,hv⟩,hb⟩
def c0N {n k:Nat}(h:n<2 ^ k):(limbs n).length<=k:=
 a0g.2 (U6 h (Mc (by omega) k))
def bv (l:List UInt8):Nat:=l.foldl (fun a b=>a+a+(if b=49 then 1 else 0)) 0
def y0t (l:List UInt8)(b:UInt8):bv (l ++ [b])=bv l+bv l+(if b=49 then 1 else 0):=by simp[bv]
def Et:=@List.take_add_one
def m0i {l:List UInt8}{i:Nat}{b:UInt8}(h:l[i]?=some b):bv (l.take (i+1))=bv (l.take i)+bv (l.take i)+(if b=49 then 1 else 0):=by
 rw[Et,h];exact y0t _ _
theorem y0u {l:List UInt8}:∀ (i:Nat),i<=l.length->bv (l.take i)<2 ^ i
 | 0,_=>by simp[bv]
 | i+1,h=>by
  have ih:=y0u (l:=l) i (by omega);rw[m0i (l:=l) (i:=i) (b:=l[i]) (J0 (by omega)),I8]
  split<;>omega
def t0o (w:World)(s:ByteArray)(hs:s.size<=100000):Calls Tryz.prog 322 #[.string s] w fun e w'=>h0x .i64 (bv s.data.toList) e w'/\Below w.heap.size w w':=by
 have hsl:=hid (show s.data.toList.length=s.size from by simp);go_enter Tryz.func322,Tryz.ntmps322;go_wp2_with fail;refine (i0p _ 0 (by omega)).mono ?_;rintro e w1 ⟨⟨v,rfl,hv⟩,hb⟩;have V:=hid hv;have B:=hid hb;clear hv hb;go_wp2_with fail
 go_loopw [3,4] (fun o ii wr=>∃ i:Nat,ii=.int .i64 i/\i<=s.size/\Hid (IsN .i64 wr o (bv (s.data.toList.take i)))/\Hid (Below w.heap.size w wr)) (fun o ii wr=>s.size-(intOf ii).toNat)
 case atStart=>exact⟨0,rfl,S4 _,V,B⟩
 case round=>
  obtain⟨i,rfl,hi,hO,hB⟩:=hrel;by_cases hlt:i<s.size
  .have hget:=c0E hlt;have hl:=y0u (l:=s.data.toList) i (by rw[hsl.out];exact hi);have hbt:=hid (m0i hget);have ll:Hid ((limbs (bv (s.data.toList.take i))).length<=1000000):=O0 (c0N hl) (by omega);have ll2:Hid ((limbs (bv (s.data.toList.take i)+bv (s.data.toList.take i))).length<=1000000):=by
    refine O0 (c0N (k:=i+1) ?_) (by omega);rw[I8];omega
   have l1:Hid ((limbs 1).length<=1000000):=by show _<=_;rw[c0O];decide
   by_cases hb:s[i]=49
   .have q1:((s[i].toNat:Int)==49)=true:=by rw[hb];rfl
    rw[J2 hb]at hbt;clear hget hl hb;go_wp2_with fail;refine (d0n _ _ _ _ _ hO.out hO.out ll.out ll.out).mono ?_;rintro e w2 ⟨⟨v2,rfl,hv2⟩,hb2⟩;have V2:=hid hv2;have B2:=hid (a0a hB.out hb2);clear hv2 hb2;go_wp2_with fail;refine (i0p _ 1 (by omega)).mono ?_;rintro e w3 ⟨⟨v3,rfl,hv3⟩,hb3⟩;have V3:=hid hv3;have B3:=hid (a0a B2.out hb3);have V2':=hid (V2.out.call hb3);clear hv3 hb3 V2;go_wp2_with fail;refine (d0n _ _ _ _ _ V2'.out V3.out ll2.out l1.out).mono ?_;rintro e w4 ⟨⟨v4,rfl,hv4⟩,hb4⟩;have V4:=hid hv4;have B4:=hid (a0a B3.out hb4);clear hv4 hb4;go_wp2_with fail;go_roundw
    case rel=>exact⟨i+1,by go_num,by omega,V4.out.cast hbt.out.symm,B4⟩
    case measure=>simp[intOf]<;>omega
   .have q1:((s[i].toNat:Int)==49)=false:=by
     rw[U4];intro e;refine hb ?_;have:s[i].toNat=(49:UInt8).toNat:=by simp;omega
     exact Eh.1 this
    rw[U0 hb]at hbt;clear hget hl hb;go_wp2_with fail;refine (d0n _ _ _ _ _ hO.out hO.out ll.out ll.out).mono ?_;rintro e w2 ⟨⟨v2,rfl,hv2⟩,hb2⟩;have V2:=hid hv2;have B2:=hid (a0a hB.out hb2);clear hv2 hb2;go_wp2_with fail;go_roundw
    case rel=>exact⟨i+1,by go_num,by omega,V2.out.cast hbt.out.symm,B2⟩
    case measure=>simp[intOf]<;>omega
  .obtain rfl:i=s.size:=by omega
   go_wp2_with fail;go_ret
   refine⟨⟨_,rfl,hO.out.cast ?_⟩,hB.out⟩;rw[<- hsl.out,Gb]
def m0I (w:World)(n:Nat)(hn:n<=100000):Calls Tryz.prog 221 #[.int .i64 n] w fun e w'=>h0x .i64 (2 ^ n) e w'/\Below w.heap.size w w':=by
 go_enter Tryz.func221,Tryz.ntmps221;go_wp2_with fail;refine (i0p _ 1 (by omega)).mono ?_;rintro e w1 ⟨⟨v,rfl,hv⟩,hb⟩;have V:=hid hv;have B:=hid hb;clear hv hb;go_wp2_with fail
 go_loopw [0,3] (fun nn o wr=>∃ j:Nat,nn=.int .i64 j/\j<=n/\Hid (IsN .i64 wr o (2 ^ (n-j)))/\Hid (Below w.heap.size w wr)) (fun nn o wr=>(intOf nn).toNat)
 case atStart=>exact⟨n,rfl,J4 _,by rw[Ce,El];exact V,B⟩
 case round=>
  obtain⟨j,rfl,hj,hO,hB⟩:=hrel;by_cases h0:0<j
  .have ll:Hid ((limbs (2 ^ (n-j))).length<=1000000):=O0 (c0N (k:=n-j+1) (Gt (by omega) (by omega))) (by omega);have hs:Hid (2 ^ (n-j)+2 ^ (n-j)=2 ^ (n-(j-1))):=by
    show _=_
    rw[show n-(j-1)=n-j+1 by omega,I8];omega
   go_wp2_with fail;refine (d0n _ _ _ _ _ hO.out hO.out ll.out ll.out).mono ?_;rintro e w2 ⟨⟨v2,rfl,hv2⟩,hb2⟩;have V2:=hid hv2;have B2:=hid (a0a hB.out hb2);clear hv2 hb2;go_wp2_with fail;go_roundw
   case rel=>exact⟨j-1,by go_num,by omega,V2.out.cast hs.out,B2⟩
   case measure=>simp[intOf]<;>omega
  .obtain rfl:j=0:=by omega
   go_wp2_with fail;go_ret
   exact⟨⟨_,rfl,hO.out⟩,hB.out⟩
def m0K (w:World)(s:ByteArray)(hs:s.size<=9223372036854775807):Calls Tryz.prog 207 #[.string s] w fun e w'=>e=.returned (.int .i64 (j0s s))/\w=w':=by
 have hsl:=hid (show s.data.toList.length=s.size from by simp);go_enter Tryz.func207,Tryz.ntmps207;go_wp2_with fail
 go_loop [3] (fun ii=>∃ i:Nat,ii=.int .i64 i/\i<=s.size/\Hid (∀ (j:Nat) (b:UInt8),j<i->s.data.toList[j]?=some b->b=48\/b=49)) (fun ii=>s.size-(intOf ii).toNat)
 case atStart=>exact⟨0,rfl,S4 _,fun j b hj=>absurd hj (by omega)⟩
 case round=>
  obtain⟨i,rfl,hi,hI⟩:=hrel;by_cases hlt:i<s.size
  .have hb:=hid (c0E hlt);have ne:∀ k:UInt8,s[i]≠k->((s[i].toNat:Int) != (k.toNat:Int))=true:=fun k h=>by
    rw[bne_iff_ne];intro e;exact h (Eh.1 (by omega))
   by_cases c1:s[i]=48
   .have q1:((s[i].toNat:Int) != 48)=false:=by rw[c1];rfl
    have hB:=hid c1;clear c1 ne;go_wp2_with fail;go_round
    case rel=>exact⟨i+1,by go_num,by omega,fun j b hj hjb=>by
     by_cases e:j=i
     .subst e;rw[hb.out]at hjb;cases hjb;exact .inl hB.out
     .exact hI.out j b (by omega) hjb⟩
    case measure=>simp[intOf]<;>omega
   .have q1:((s[i].toNat:Int) != 48)=true:=ne 48 c1;by_cases c2:s[i]=49
    .have q2:((s[i].toNat:Int) != 49)=false:=by rw[c2];rfl
     have hB:=hid c2;clear c1 c2 ne;go_wp2_with fail;go_round
     case rel=>exact⟨i+1,by go_num,by omega,fun j b hj hjb=>by
      by_cases e:j=i
      .subst e;rw[hb.out]at hjb;cases hjb;exact .inr hB.out
      .exact hI.out j b (by omega) hjb⟩
     case measure=>simp[intOf]<;>omega
    .have q2:((s[i].toNat:Int) != 49)=true:=ne 49 c2;have hB:=hid (And.intro c1 c2);clear c1 c2 ne;go_wp2_with fail;go_ret
     refine⟨a0G ?_,rfl⟩;have:n0I s=false:=by
      unfold n0I;rw[Kf];intro h;rw[Bc]at h;have:=h _ (C7 hb.out);simp[hB.out.1,hB.out.2]at this
     unfold j0s;rw[this]
     rfl
  .have e1:i=s.size:=by omega
   subst e1;go_wp2_with fail;go_ret
   refine⟨a0G ?_,rfl⟩;have:n0I s=true:=by
    unfold n0I;rw[Bc];intro b hb;obtain⟨j,hj,rfl⟩:=Is hb;have:=hI.out j _ (by rw[<- hsl.out];exact hj) (J0 hj);simpa using this
   unfold j0s;rw[this]
   rfl
open Go.Shelf
def tb (l:List UInt8):ByteArray:=⟨l.toArray⟩
end
end Go.Proofs.YtfkpfpobmobnbaaGreatDoor
namespace Go.Proofs
open Go.Shelf
def Tryz.lays212_ren:Go.Shelf.Ren:=⟨fun | 212=>202 | 263=>262 | 264=>263 | n=>n,fun | 46=>174 | 51=>224 | 146=>247 | 53=>161 | 148=>249 | n=>n,fun | n=>n⟩
theorem Tryz.lays212:Go.Proofs.Lays.n212 Tryz.prog Tryz.lays212_ren:={
 mixed:=by kernel_rfl
 f212:=Tryz.func202.trans (congrArg some (by kernel_rfl))
 f263:=Tryz.func262.trans (congrArg some (by kernel_rfl))
 f264:=Tryz.func263.trans (congrArg some (by kernel_rfl))
 t46:=Cu
 a46:=Fl
 z46:=Eu
 v46:=Db
 t51:=Dg
 a51:=Gi
 z51:=Fq
 v51:=Dx
 t53:=Cv
 a53:=Gf
 z53:=Fp
 v53:=Dv
 t146:=Tryz.underlying247
 a146:=Tryz.isAgg247
 z146:=Tryz.sizeOf247
 v146:=Tryz.zeroValue247
 t148:=Tryz.underlying249
 a148:=Tryz.isAgg249
 z148:=Tryz.sizeOf249
 v148:=Tryz.zeroValue249 }
open Go.RowKit Go.Lib in
theorem Tryz.bits_Mul (x y:Nat)(hx:x<18446744073709551616)(hy:y<18446744073709551616)(w:World):
 Calls Tryz.prog 202 #[.int .u64 x,.int .u64 y] w fun e w'=>e=.returned (.tuple #[.int .u64 ((x*y / 18446744073709551616:Nat):Int),.int .u64 ((x*y%18446744073709551616:Nat):Int)])/\w'=w:=Any.bits_Mul Tryz.lays212 x y hx hy w
end Go.Proofs
namespace Go.Proofs.YtfkpfpobmobnbaaGreatDoor
section
open Go.RowKit
def b0Q (l:List ByteArray):List Value:=l.map Value.string
@[simp] theorem strsR_length (l:List ByteArray):(b0Q l).length=l.length:=by simp[b0Q]
def j0K {l:List ByteArray}{i:Nat}{s:ByteArray}(h:l[i]?=some s):(b0Q l)[i]?=some (.string s):=by simp[b0Q,h]
def j0J (l:List ByteArray):∀ u∈b0Q l,u.oneCell'=true:=by
 intro u hu;obtain⟨x,_,rfl⟩:=Fr.1 hu
 rfl
def Jo:=@Go.Proofs.Tryz.underlying106
def o0x (n:Nat)(h:n<=1000000)(W:World):(Instr.makeSlice 106 (.int .i64 (n:Int)) (.int .i64 (n:Int))).run Tryz.prog W=.ok (.slice (some ⟨W.heap.size,0,none⟩) n n) (W.alloc (.cells (madeCells #[.string ⟨#[]⟩] n) 23)):=
 Ll (P:=Tryz.prog) 106 23 (.string ⟨#[]⟩) 16 Jo (by kernel_rfl) rfl .i64 .i64 n (by omega) (by omega) W
def o0B (n:Nat):madeCells #[.string ⟨#[]⟩] n=(b0Q (List.replicate n ⟨#[]⟩)).toArray:=by
 apply Gd
 intro i;unfold madeCells b0Q;by_cases hi:i<n<;>simp[hi,Ni]
def k0S (s:ByteArray)(n k:Nat):List Value:=b0Q (List.replicate k s++List.replicate (n-k) ⟨#[]⟩)
def Jp:=@List.map_replicate
def g0y {s:ByteArray}{n k m:Nat}(h:k+m<=n):splice (k0S s n k) k (b0Q (List.replicate m s))=k0S s n (k+m):=by
 unfold splice k0S b0Q;simp only[Bj,Jp,Cy];rw[List.take_append_of_le_length (by simp),J7 (by simp),List.drop_append,Bm (by simp),Do,Cy,List.drop_replicate,<- As,List.replicate_append_replicate];rw[show n-k-(k+m-k)=n-(k+m) by omega]
def Mf:=@Nat.min_eq_left
def e0z (w:World)(g0 n:Nat)(s:ByteArray)(h1:1<=n)(h2:n<=100000)(hc:w.cell? ⟨g0,0,none⟩=some (.string s)):
 Calls Tryz.prog 124 #[.slice (some ⟨g0,0,none⟩) 1 1,.int .i64 n] w fun e w'=>
  e=.returned (.slice (some ⟨w.heap.size,0,none⟩) n n)/\Blk w' w.heap.size (b0Q (List.replicate n s)).toArray 23/\Below w.heap.size w w':=by
 have HM:=fun W=>hid (o0x n (by omega) W)
 have HB:=fun W=>hid (Tryz.bits_Mul 1 n (by omega) (by omega) W)
 have e1:(((1*n / 18446744073709551616:Nat)):Int)=0:=by
  rw[Gr,Cz (by omega)];rfl
 have e2:(((1*n%18446744073709551616:Nat)):Int)=(n:Int):=by
  rw[Gr,Ba (by omega)]
 rw[e1,e2]at HB;have hn0:(0:Int)<=(n:Int):=by omega
 have hn1:(n:Int)<=100000:=by omega
 have q0:decide ((n:Int)<0)=false:=by simp
 have hsrc:∀ j v,(b0Q [s])[j]?=some v->w.cell? ((⟨g0,0,none⟩:Addr).add j)=some v:=by
  intro j v hj;rcases j with _ | j
  .simp[b0Q]at hj;rw[<- hj];exact hc
  .simp[b0Q]at hj
 have HSRC:=hid hsrc;have H1:=hid h1;have H2:=hid h2;clear e1 e2 hsrc hc h1 h2;go_enter Tryz.func124,Tryz.ntmps124;go_wp2_with fail;refine (HB _).out.mono ?_;rintro e w1 ⟨rfl,rfl⟩;clear HB;have HM1:=(HM w1).out;have hc1:(w1.alloc (.cells (madeCells #[.string ⟨#[]⟩] n) 23)).heap[w1.heap.size]?=some (.cells (k0S s n 0).toArray 23 (0,0)):=by
  have:=Blk.new w1 (madeCells #[.string ⟨#[]⟩] n) 23;rw[o0B]at this |-;simpa[k0S,Blk]using this
 have hc2:(b0Q [s]).length=Nat.min 1 n:=(Mf H1.out).symm;have hc3:∀ j v,(b0Q [s])[j]?=some v->(w1.alloc (.cells (madeCells #[.string ⟨#[]⟩] n) 23)).cell? ((⟨g0,0,none⟩:Addr).add j)=some v:=fun j v h=>
  have h2:=HSRC.out j v h
  (((Z3 w1.heap.size w1).alloc nr0 _).cell (a0e h2)).trans h2
 have hc4:0+(b0Q [s]).length<=(k0S s n 0).length:=by simp[b0Q,k0S];have:=H1.out;omega
 have hc5:=(Z3 w1.heap.size w1).alloc nr0 (.cells (madeCells #[.string ⟨#[]⟩] n) 23);have C1:=hid hc1;have C2:=hid hc2;have C3:=hid hc3;have C4:=hid hc4;have C5:=hid hc5;have hsp:splice (k0S s n 0) 0 (b0Q [s])=k0S s n 1:=by
  have:=g0y (s:=s) (n:=n) (k:=0) (m:=1) (by have:=H1.out;omega);simpa using this
 have HSP:=hid hsp;clear hc1 hc2 hc3 hc4 hc5 HM hsp;go_wp2_with (refine wpList_copy_splice rfl (.tmp 31) (.tmp 32) 106 106 rfl 23 Jo (by kernel_rfl) (some ⟨w1.heap.size,0,none⟩) (some ⟨g0,0,none⟩) n n 1 1 rfl rfl w1.heap.size 0 (k0S s n 0) 23 C1.out (b0Q [s]) C2.out (fun _=>⟨rfl,_,rfl,C3.out⟩) C4.out (j0J _) w1.heap.size w1 C5.out nr0 ?_;intro w2 hg2 hb2)
 rw[HSP.out]at hg2;have G2:=hid (show Blk w2 w1.heap.size (k0S s n 1).toArray 23 from hg2.out);have B2:=hid hb2;obtain⟨H,hH⟩:=gn (w1.heap.size);rw[hH]at G2 B2 |-;clear hg2 hb2 HM1 C1 C2 C3 C4 C5 HSP HSRC;have HH:=hid hH;clear hH
 go_loopw [8] (fun i wr=>∃ k:Nat,i=.int .i64 (k:Nat)/\1<=k/\k<=n/\Hid (Blk wr H (k0S s n k).toArray 23)/\Hid (Below H w1 wr)) (fun i wr=>n-(intOf i).toNat)
 case atStart=>exact⟨1,rfl,J4 _,H1.out,G2.out,B2.out⟩
 case round=>
  obtain⟨k,rfl,hk1,hk2,hG,hB⟩:=hrel;by_cases hlt:k<n
  .have f0:(0:Int)<=(k:Int):=by omega
   have f1:(k:Int)<(n:Int):=by omega
   have f2:(k:Int)<=(n:Int):=by omega
   have K1:=hid hk1;have K2:=hid hlt;clear hk1 hk2;go_wp2_with fail;refine a0m [0,1,2,3,4,5,6] 3 (fun _=>True) (by kernel_rfl) (by kernel_rfl) (by kernel_rfl) (by kernel_rfl) trivial ?_
   iterate 7
    refine⟨_,rfl,?_⟩;apply Exists.intro
    refine⟨.inl ⟨by rfl,?_⟩,?_⟩
    ·(intro W' hW';clear hW';go_simp;try (with_reducible rfl))
    go_frame
   refine a0c (i:=7) (by kernel_rfl) (by rfl) (by rfl) ?_;obtain⟨m,hm⟩:=gn (Nat.min k (n-k));have hm1:m<=k:=hm ▸ Nat.min_le_left _ _;have hm2:m<=n-k:=hm ▸ Nat.min_le_right _ _;have hm3:1<=m:=by rw[<- hm];exact Nat.le_min.2 ⟨K1.out,by omega⟩
   have hsrc:∀ j v,(b0Q (List.replicate m s))[j]?=some v->wr.drew.cell? ((⟨H,0,none⟩:Addr).add j)=some v:=fun j v hj=>by
    rw[Addr.add_lit,J8];have hjm:j<m:=by
     have:=(O4.1 hj).1;simpa using this
    have hv:v=.string s:=by
     rw[j0K (s:=s) (by rw[Ag,J2 hjm])]at hj;cases hj;rfl
    rw[hv];refine (Blk.cell (Blk.drew hG.out) j).trans ?_;rw[J5];exact j0K (by rw[I9 (by simp;omega),Ag,J2 (by omega)])
   rw[U0 (show ¬ n=k by have:=K2.out;omega)];refine wpList_copy_splice rfl (.tmp 41) (.tmp 44) 106 106 rfl 23 Jo (by kernel_rfl) (some ⟨H,k,none⟩) (some ⟨H,0,none⟩) (n-k) (n-k) k n rfl rfl H k (k0S s n k) 23 hG.out (b0Q (List.replicate m s)) (by simp[hm]) (fun _=>⟨rfl,_,rfl,hsrc⟩) (by simp[k0S,b0Q]<;>omega) (j0J _) H w1 (hB.out.drew) nr0 ?_;intro w4 hg4 hb4;rw[show (b0Q (List.replicate m s)).length=m by simp];rw[g0y (by omega)]at hg4;have G4:=hid (show Blk w4 H (k0S s n (k+m)).toArray 23 from hg4.out);have B4:=hid hb4;have M2:=hid hm2;have M3:=hid hm3;have f5:(0:Int)<=(m:Int):=by omega
   have f6:(m:Int)<=100000:=by omega
   have ew:IntKind.i64.wrap ((k:Int)+(m:Int))=(k:Int)+(m:Int):=by rw[Q0 _ ⟨by omega,by omega⟩]
   clear hm hm1 hm2 hm3 hsrc hg4 hb4;go_wp2_with fail;refine⟨trivial,?_⟩;refine b0e (is:=[8,9]) (g:=0) (by kernel_rfl) rfl trivial (by kernel_rfl) ?_
   iterate 2
    refine⟨_,rfl,?_⟩;apply Exists.intro
    refine⟨.inl ⟨by rfl,?_⟩,?_⟩
    ·(intro W' hW';clear hW';go_simp;try (with_reducible rfl))
    go_frame
   refine H8 (by kernel_rfl) ?_ _;simp only[b0h];go_wp2_with fail;go_roundw
   case rel=>exact⟨k+m,by rw[Fz],by have:=M3.out;omega,by have:=M2.out;have:=K2.out;omega,G4,B4⟩
   case measure=>simp[intOf]<;>(have:=M3.out;have:=K2.out;omega)
  .have e1:k=n:=by omega
   subst e1;go_wp2_with fail;go_ret
   have hh:=HH.out;subst hh;refine⟨rfl,?_,hB.out⟩;have:=hG.out;simpa[k0S]using this
open Go.Lib (decDigits nDigits)
def f0t (V:World)(x y:Nat)(hx:nDigits x<=4000)(hy:nDigits y<=4000)(h:nDigits (x+y)<=4000)(hL:Lay V):Calls Tryz.prog 211 #[.string (a0f x),.string (a0f y)] V fun e w'=>e=.returned (.string (a0f (x+y)))/\Below V.heap.size V w':=by
 have h2:=z0Z V (a0f x) (a0f y) (a0N hx) (a0N hy) hL;rwa[c0Z hx hy h]at h2
def g0K (V:World)(x y:Nat)(hx:nDigits x<=4000)(hy:nDigits y<=4000)(h:nDigits (x*y)<=4000)(hL:Lay V):Calls Tryz.prog 212 #[.string (a0f x),.string (a0f y)] V fun e w'=>e=.returned (.string (a0f (x*y)))/\Below V.heap.size V w':=by
 have h2:=x0t V (a0f x) (a0f y) (a0N hx) (a0N hy) hL;rwa[c0Z hx hy h]at h2
def b1B (V:World)(x y:Nat)(hx:nDigits x<=4000)(hy:nDigits y<=4000):Calls Tryz.prog 274 #[.string (a0f x),.string (a0f y)] V fun e w'=>e=.returned (.int .i64 (b0d x y))/\Below V.heap.size V w':=by
 have h2:=q0N V (a0f x) (a0f y) (a0N hx) (a0N hy);rwa[j0h hx hy]at h2
def w0I (V:World)(x y:Nat)(hx:nDigits x<=4000)(hy:nDigits y<=4000)(h:y<=x)(hL:Lay V):Calls Tryz.prog 214 #[.string (a0f x),.string (a0f y)] V fun e w'=>e=.returned (.tuple #[.string (a0f (x-y)),.int .i64 0])/\Below V.heap.size V w':=by
 have h2:=b1D V (a0f x) (a0f y) (a0N hx) (a0N hy) hL;have h3:¬ 4000<nDigits (x-y):=by have:=a0r (show x-y<=x by omega);omega
 have e1:i0A (v0Z (bN (a0f x)) (bN (a0f y))) (a0f x) (a0f y)=a0f (x-y):=by
  rw[b0x,b0x,i0A,J2 ⟨b0E hx,b0E hy⟩,v0Z,U0 (by omega),m0F,U0 h3]
 have e2:g0J (v0Y (bN (a0f x)) (bN (a0f y))) (a0f x) (a0f y)=0:=by
  rw[b0x,b0x,g0J,J2 (b0E hx),J2 (b0E hy),v0Y,U0 (by omega),j0T,U0 h3]
 rwa[e1,e2]at h2
def o0z (n:Nat)(h:n<=1000000)(W:World):(Instr.makeSlice 261 (.int .i64 (n:Int)) (.int .i64 (n:Int))).run Tryz.prog W=.ok (.slice (some ⟨W.heap.size,0,none⟩) n n) (W.alloc (.cells (madeCells #[.bool false] n) 4)):=
 Ll (P:=Tryz.prog) 261 4 (.bool false) 1 Tryz.underlying261 (by kernel_rfl) rfl .i64 .i64 n (by omega) (by omega) W
def h0M (f:Nat->Bool)(n:Nat):madeCells #[.bool false] (n+1)=(h0l f n 0).toArray:=by
 rw[p0A];apply Gd
 intro i;unfold madeCells;by_cases hi:i<n+1<;>simp[hi,Ni]
def b1T (w:World)(H n:Nat)(v u:Value)(f g:List Value):Prop:=∃ g1 g2,v=.slice (some ⟨g1,0,none⟩) (n+1) (n+1)/\u=.slice (some ⟨g2,0,none⟩) (n+1) (n+1)/\g1≠g2/\H<=g1/\H<=g2/\Blk w g1 f.toArray 4/\Blk w g2 g.toArray 4
def u0V (w:World)(n N D:Nat)(e:Ending)(w':World):Prop:=∃ v u,e=.returned (.tuple #[v,u])/\b1T w' w.heap.size n v u (f0F (a0C N D) n) (f0F (a0i N D) n)
def c0l:((⟨#[48]⟩:ByteArray).toList == [48])=true:=by
 rw[Cl];rfl
def r0p (w:World)(a:ByteArray)(n N D:Nat)(ha:a.size<=100000)(he:gPE a=0)(hn:n<=1000)(hN:bN (cW a)=N)(hD:bN (qD a)=D)(hND:N<D)(hL:Lay w):
 Calls Tryz.prog 275 #[.string a,.int .i64 n] w fun e w'=>u0V w n N D e w'/\Below w.heap.size w w':=by
 have HR:=hid (d0u w a ha hL);obtain⟨c1,c2,c3,c4,-⟩:=v0H (c0h he).1;rw[J2 he,J2 he,he]at HR;rw[c1,c2,hN,hD]at HR;rw[hN]at c3;rw[hD]at c4;have dN:∀ x,x<10 ^ (eN+1)->nDigits x<=4000:=fun x h=>a0Z h (by omega) (by unfold eN;omega)
 have hM:=fun W=>hid (o0z (n+1) (by omega) W)
 have HL:=hid hL;have HLL:=hid hL.lt;have HND:=hid hND;have DN:=hid dN;have C4:=hid c4;have HN:=hid hn;have wn:IntKind.i64.wrap ((n:Int)+1)=((n+1:Nat):Int):=by rw[Q0 _ ⟨by omega,by omega⟩];omega
 obtain⟨sN,hsN⟩:=gn (a0f N);obtain⟨sD,hsD⟩:=gn (a0f D);rw[hsN,hsD]at HR;have HSN:=hid hsN;have HSD:=hid hsD;clear ha he hn hN hD hND hL c1 c2 c3 c4 dN hsN hsD;go_enter Tryz.func275,Tryz.ntmps275;go_wp2_with fail;refine HR.out.mono ?_;rintro e w1 ⟨rfl,hb1⟩;have B1:=hid hb1;clear hb1 HR
 go_upto_region 2 with fail
 go_cut [4,5] (fun s4 s5 wx=>b1T wx w.heap.size n s4 s5 (h0l (a0C N D) n 0) (h0l (a0i N D) n 0)/\Below w.heap.size w wx)
 case first=>
  have X:=fun (g1 g2:Nat) (W:World) (h1:Blk W g1 (madeCells #[.bool false] (n+1)) 4) (h2:Blk W g2 (madeCells #[.bool false] (n+1)) 4) (h3:g1≠g2) (h4:w.heap.size<=g1) (h5:w.heap.size<=g2)=>hid (show b1T W w.heap.size n (.slice (some ⟨g1,0,none⟩) (n+1) (n+1)) (.slice (some ⟨g2,0,none⟩) (n+1) (n+1)) (h0l (a0C N D) n 0) (h0l (a0i N D) n 0) from⟨g1,g2,rfl,rfl,h3,h4,h5,by rw[<- h0M];exact h1,by rw[<- h0M];exact h2⟩)
  have M1:∀ W,(Instr.makeSlice 261 (.int .i64 ((n:Int)+1)) (.int .i64 ((n:Int)+1))).run Tryz.prog W=.ok (.slice (some ⟨W.heap.size,0,none⟩) (n+1) (n+1)) (W.alloc (.cells (madeCells #[.bool false] (n+1)) 4)):=fun W=>(hM W).out
  clear hM
  go_region
  all_goals
   go_wp2_with fail
   go_meet
   first
    | exact⟨(X w1.heap.size (w1.heap.size+1) _ ((Blk.new w1 _ _).alloc _) (Blk.made _ _ _ (by simp)) (by omega) B1.out.size (by have:=B1.out.size;omega)).out,(((B1.out.alloc B1.out.size _).alloc (by have:=B1.out.size;simp;omega) _)).drew⟩
    | exact⟨(X (w1.heap.size+1) w1.heap.size _ (Blk.made _ _ _ (by simp)) ((Blk.new w1 _ _).alloc _) (by omega) (by have:=B1.out.size;omega) B1.out.size).out,(((B1.out.alloc B1.out.size _).alloc (by have:=B1.out.size;simp;omega) _)).drew⟩
 case rest=>
  obtain⟨⟨g1,g2,rfl,rfl,h3,h4,h5,hb1,hb2⟩,hB⟩:=hcut;have G1:=hid hb1;have G2:=hid hb2;have B2:=hid hB;have H3:=hid h3;have H4:=hid h4;have H5:=hid h5;have k0:wc.cell? ⟨g2,0,none⟩=some (.bool false):=by
   refine (hb2.cell 0).trans ?_;rw[J5,b0j (S4 _)];simp
  have k1:=hb2.free 0;have z1:(0:Int)<(n:Int)+1:=by omega
  obtain⟨z,hz⟩:=gn ((sN.toList == [48]));have HZ:Hid (z=decide (N=0)):=by
   show z=decide (N=0)
   rw[<- hz];by_cases h0:N=0
   .rw[<- HSN.out,h0,a0p,c0l];simp
   .rw[<- HSN.out,a0L (l:=[48]) (by rw[<- a0p];exact b0M h0)];simp[h0]
  clear hb1 hb2 hB hM h3 h4 h5;go_wp2_with fail;obtain⟨W3,hW3⟩:=gn (wc.setCell ⟨g2,0,none⟩ (.bool z));have G3:Blk W3 g1 (h0l (a0C N D) n 1).toArray 4:=by
   rw[<- hW3,j0G (f:=a0C N D) (j:=0) rfl];exact G1.out.other (fun e=>H3.out e.symm) _
  have G4:Blk W3 g2 (h0l (a0i N D) n 1).toArray 4:=by
   have h:=G2.out.set 0 (.bool z);rw[hW3,Ao,HZ.out]at h;have h2:=f0O (f:=a0i N D) (n:=n) (j:=0) (S4 _);rw[<- h2];exact h
  have B3:Below w.heap.size w W3:=by rw[<- hW3];exact B2.out.setCell H5.out _
  rw[hW3];have HG3:=hid G3;have HG4:=hid G4;have HB3:=hid B3;have e0:Hid ((!z)=(sdx N D 0).2):=by show (!z)=_;rw[HZ.out];simp[sdx]
  clear k0 k1 hz z1 G3 G4 B3 hW3 G1 G2 B2 B1
  go_loopw [9,10,11] (fun o x j wr=>∃ i:Nat,j=.int .i64 ((i+1:Nat):Int)/\i<=n/\o=.bool (sdx N D i).2/\x=.string (a0f (sdx N D i).1)/\Hid (Blk wr g1 (h0l (a0C N D) n (i+1)).toArray 4)/\Hid (Blk wr g2 (h0l (a0i N D) n (i+1)).toArray 4)/\Hid (Below w.heap.size w wr)) (fun o x j wr=>n+1-(intOf j).toNat)
  case atStart=>exact⟨0,rfl,S4 _,by rw[e0.out],by rw[HSN.out.symm];rfl,HG3.out,HG4.out,HB3.out⟩
  case round=>
   obtain⟨i,rfl,hi,rfl,rfl,hg1,hg2,hB⟩:=hrel;cases ho:(sdx N D i).2
   .have GG1:Blk wr g1 (f0F (a0C N D) n).toArray 4:=by
     rw[<- e0v (a0C N D) n (j:=n+1) (by omega),j0H (j:=i+1) (fun k hk=>g0M ho k (by omega)) (n+1) (by omega)];exact hg1.out
    have GG2:Blk wr g2 (f0F (a0i N D) n).toArray 4:=by
     rw[<- e0v (a0i N D) n (j:=n+1) (by omega),j0H (j:=i+1) (fun k hk=>e0Y ho k (by omega)) (n+1) (by omega)];exact hg2.out
    have GG1:=hid GG1;have GG2:=hid GG2;clear ho hi;go_wp2_with fail
    all_goals
     go_ret2
     exact⟨⟨_,_,rfl,⟨g1,g2,rfl,rfl,H3.out,H4.out,H5.out,GG1.out,GG2.out⟩⟩,hB.out⟩
   .by_cases hlt:i+1<=n
    .obtain⟨X,hX⟩:=gn ((sdx N D i).1);have hXD:X<D:=hX ▸ v0f HND.out i;have hs:sdx N D (i+1)=if D<=2*X then (2*X-D,decide (2*X≠D)) else (2*X,true):=by rw[sdx,J2 ho,hX]
     have h1:a0C N D (i+1)=decide (D<=2*X):=by rw[a0C,ho,hX];rfl
     have h0:a0i N D (i+1)=decide (2*X<=D):=by rw[a0i,ho,hX];rfl
     have q10:=C4.out;have d1:nDigits X<=4000:=DN.out X (by omega);have d2:nDigits (X+X)<=4000:=DN.out _ (by omega);have d3:nDigits D<=4000:=DN.out _ (by omega);have HPL:=fun V hV=>hid (f0t V X X d1 d1 d2 hV)
     have HCM:=fun V=>hid (b1B V (X+X) D d2 d3)
     rw[HSD.out]at HCM;rw[hX];have k1:wr.cell? ⟨g1,i+1,none⟩=some (.bool false):=by
      refine (hg1.out.cell (i+1)).trans ?_;rw[J5,b0j hlt];simp
     have f1:((i+1:Nat):Int)<((n+1:Nat):Int):=by omega
     have f3:((i+1:Nat):Int)<=1000:=by have:=HN.out;omega
     have HLT:=hid hlt;rcases Dd (X+X) D with hc | hc | hc
     .rw[b0H hc]at HCM;have HS:=hid (show sdx N D (i+1)=(X+X,true) from by rw[hs,U0 (by omega),Nn]);have T1:=hid (j0G (n:=n) (show a0C N D (i+1)=false from by rw[h1];simp;omega));have T0:=hid (f0O (f:=a0i N D) hlt);have HZ0:=hid (show a0i N D (i+1)=true from by rw[h0];simp;omega);clear hc hs h1 h0 q10 d1 d2 d3 hX hXD ho hi;go_wp2_with fail;refine (HPL _ (HL.out.below hB.out HLL.out)).out.mono ?_;rintro e w5 ⟨rfl,hb5⟩;have G15:=hid (hg1.out.call hb5);have G25:=hid (hg2.out.call hb5);have B5:=hid (hB.out.trans (hb5.mono hB.out.size));clear hb5;go_wp2_with fail;refine (HCM _).out.mono ?_;rintro e w6 ⟨rfl,hb6⟩;have G16:=hid (G15.out.call hb6);have G26:=hid (G25.out.call hb6);have B6:=hid (B5.out.trans (hb6.mono B5.out.size));have m1:w6.cell? ⟨g1,i+1,none⟩=some (.bool false):=by
       refine (G16.out.cell (i+1)).trans ?_;rw[J5,b0j hlt];simp
      have m2:w6.cell? ⟨g2,i+1,none⟩=some (.bool false):=by
       refine (G26.out.cell (i+1)).trans ?_;rw[J5,b0j hlt];simp
      have m4:=G26.out.free (i+1);clear hb6 hlt k1;go_wp2_with fail;go_roundw
      case rel=>
       refine⟨i+1,by go_num,HLT.out,by rw[HS.out],by rw[HS.out],?_,?_,B6.out.setCell H5.out _⟩
       .show Blk _ _ _ _
        rw[T1.out];exact G16.out.other (fun e=>H3.out e.symm) _
       .show Blk _ _ _ _
        rw[<- T0.out,HZ0.out];have h:=G26.out.set (i+1) (.bool true);rw[Ao]at h;exact h
      case measure=>simp[intOf]<;>(have:=HLT.out;omega)
     focus
      rw[show b0d (X+X) D=0 from by rw[hc,c0F]]at HCM;have hle:D<=X+X:=by omega
      have HS:=hid (show sdx N D (i+1)=(X+X-D,false) from by rw[hs,J2 (by omega),Nn];simp;omega);have HZ0:=hid (show a0i N D (i+1)=true from by rw[h0];simp;omega)
     rotate_left
     focus
      rw[c0f hc]at HCM;have hle:D<=X+X:=by omega
      have HS:=hid (show sdx N D (i+1)=(X+X-D,true) from by rw[hs,J2 (by omega),Nn];simp;omega);have HZ0:=hid (show a0i N D (i+1)=false from by rw[h0];simp;omega)
     all_goals
      have HSU:=fun V hV=>hid (w0I V (X+X) D d2 d3 hle hV)
      rw[HSD.out]at HSU;have T1:=hid (f0O (f:=a0C N D) hlt);have HZ1:=hid (show a0C N D (i+1)=true from by rw[h1];simp;omega);have T0:=hid (f0O (f:=a0i N D) hlt);clear hc hs h1 h0 q10 d1 d2 d3 hX hXD ho hi hle;go_wp2_with fail;refine (HPL _ (HL.out.below hB.out HLL.out)).out.mono ?_;rintro e w5 ⟨rfl,hb5⟩;have G15:=hid (hg1.out.call hb5);have G25:=hid (hg2.out.call hb5);have B5:=hid (hB.out.trans (hb5.mono hB.out.size));clear hb5;go_wp2_with fail;refine (HCM _).out.mono ?_;rintro e w6 ⟨rfl,hb6⟩;have G16:=hid (G15.out.call hb6);have G26:=hid (G25.out.call hb6);have B6:=hid (B5.out.trans (hb6.mono B5.out.size));have m1:w6.cell? ⟨g1,i+1,none⟩=some (.bool false):=by
       refine (G16.out.cell (i+1)).trans ?_;rw[J5,b0j hlt];simp
      have m2:w6.cell? ⟨g2,i+1,none⟩=some (.bool false):=by
       refine (G26.out.cell (i+1)).trans ?_;rw[J5,b0j hlt];simp
      have m4:=G26.out.free (i+1);clear hb6 hlt k1;go_wp2_with fail;refine (HSU _ (HL.out.below B6.out HLL.out)).out.mono ?_;rintro e w7 ⟨rfl,hb7⟩;have G17:=hid (G16.out.call hb7);have G27:=hid (G26.out.call hb7);have B7:=hid (B6.out.trans (hb7.mono B6.out.size));have n1:=(hb7.cell (a0e m1)).trans m1;have n3:=G17.out.free (i+1);have n2:(w7.setCell ⟨g1,i+1,none⟩ (.bool true)).cell? ⟨g2,i+1,none⟩=some (.bool false):=((G27.out.other (fun e=>H3.out e) (.bool true)).cell (i+1)).trans (by rw[J5,b0j HLT.out];simp);have n4:(w7.setCell ⟨g1,i+1,none⟩ (.bool true)).frozen? ⟨g2,i+1,none⟩=false:=(G27.out.other (a:=⟨g1,i+1,none⟩) (fun e=>H3.out e) (.bool true)).free (i+1);clear hb7 m1 m2 m4;go_wp2_with fail;go_roundw
      case rel=>
       refine⟨i+1,by go_num,HLT.out,by rw[HS.out],by rw[HS.out],?_,?_,((B7.out.setCell H4.out _).setCell H5.out _)⟩
       .show Blk _ _ _ _
        rw[<- T1.out,HZ1.out,<- Ao];exact (G17.out.set (i+1) (.bool true)).other (fun e=>H3.out e.symm) _
       .show Blk _ _ _ _
        rw[<- T0.out,HZ0.out,<- Ao];exact (G27.out.other (a:=⟨g1,i+1,none⟩) (fun e=>H3.out e) (.bool true)).set (i+1) _
      case measure=>simp[intOf]<;>(have:=HLT.out;omega)
    .have e1:i=n:=by omega
     subst e1;have GG1:Blk wr g1 (f0F (a0C N D) i).toArray 4:=by
      rw[<- e0v (a0C N D) i (j:=i+1) (by omega)];exact hg1.out
     have GG2:Blk wr g2 (f0F (a0i N D) i).toArray 4:=by
      rw[<- e0v (a0i N D) i (j:=i+1) (by omega)];exact hg2.out
     have GG1:=hid GG1;have GG2:=hid GG2;clear ho hi hlt;go_wp2_with fail;go_ret2
     exact⟨⟨_,_,rfl,⟨g1,g2,rfl,rfl,H3.out,H4.out,H5.out,GG1.out,GG2.out⟩⟩,hB.out⟩
end
section
open Go.RowKit
variable {P : Program} {Q : Exit -> Act -> World -> Prop}
def b1X (l:List Oper):List (Nat×Nat):=
 (List.range l.length).reverse.flatMap fun j=>match l[j]? with | some o=>o.after.toList.map fun e=>(e.on,j) | none=>[]
def z0P (l:List Oper)(k n:Nat):Bool:=g0R l [] (b1X l) k n
theorem b0a {id:Nat}{a:Act}{w:World}{l:List Oper}(n k:Nat)(is:List Nat)(g:Nat)(S:World->Prop)(hm:P.follows .mixedOrders=true)(hk:n+k=l.length)(hlast:z0P l k n=true)(hsel:Region.noSelect (l.take n).toArray=true)(hg:g+is.length=(l.take n).toArray.size)(hB:k0g .any (l.take n).toArray is (Array.replicate (l.take n).toArray.size false)=true)(hS:S w.drew)
 (h:d0T P (l.take n) S (fun a'=>wpAnyH P .any (l.take n).toArray (b0h (c0w P l.toArray Q (l.drop n))) S g (n0Z is (Array.replicate (l.take n).toArray.size false)) a' w.drew) is a):(Code.region id l.toArray true).wp P Q a w:=by
 refine wp_region_any hm ?_;have h2:=c0Q (P:=P) (md:=.any) (Q:=c0w P l.toArray Q (l.drop n)) (S:=S) hsel (g:=g) hS is (Array.replicate (l.take n).toArray.size false) a hB h;rw[hg]at h2;have h3:=f0p l [] (b1X l) k n _ _ hk hlast (by simp) (fun j o _ hj=>by simp[Array.getD]at hj) (by simp) (i0D _ _ _ _ (Ln (S:=S) _ _ _ _ h2));rw[show (l.take n).toArray.size=n by simp;omega]at h3;rw[show l.toArray.size=n+k by simp[hk]];rwa[show Array.replicate n false++Array.replicate k false=Array.replicate (n+k) false by simp]at h3
end
section
open Go.RowKit
open Go.Lib (decDigits nDigits)
def NRowT (w:World)(g:Nat)(l:List Nat):Prop:=Blk w g (s0I l).toArray 23
theorem NRowT.cell {w:World}{g:Nat}{l:List Nat}(h:NRowT w g l){i:Nat}(hi:i<l.length):w.cell? ⟨g,i,none⟩=some (.string (a0f (l.getD i 0))):=by
 refine (Blk.cell h i).trans ?_;rw[J5,t0N hi]
theorem NRowT.free {w:World}{g:Nat}{l:List Nat}(h:NRowT w g l)(i:Nat):w.frozen? ⟨g,i,none⟩=false:=Blk.free h i
theorem NRowT.set {w:World}{g:Nat}{l:List Nat}(h:NRowT w g l)(i x:Nat):NRowT (w.setCell ⟨g,i,none⟩ (.string (a0f x))) g (l.set i x):=by
 have:=Blk.set h i (.string (a0f x));rw[Ao,t0M]at this;exact this
theorem NRowT.call {w w':World}{g:Nat}{l:List Nat}(h:NRowT w g l)(hb:Below w.heap.size w w'):NRowT w' g l:=Blk.call h hb
theorem NRowT.other {w:World}{g:Nat}{l:List Nat}(h:NRowT w g l){a:Addr}(ha:a.block≠g)(v:Value):NRowT (w.setCell a v) g l:=Blk.other h ha v
theorem NRowT.zeros {w:World}{g n:Nat}(h:Blk w g (b0Q (List.replicate n ⟨#[48]⟩)).toArray 23):NRowT w g (List.replicate n 0):=by
 have e:s0I (List.replicate n 0)=b0Q (List.replicate n ⟨#[48]⟩):=by
  unfold s0I b0Q;rw[Jp,Jp,a0p]
 unfold NRowT;rw[e];exact h
def a1Z (w:World)(n N D:Nat)(e:Ending)(w':World):Prop:=∃ g,e=.returned (.slice (some ⟨g,0,none⟩) (n+1) (n+1))/\w.heap.size<=g/\NRowT w' g (b0L (a0C N D) (a0i N D) n (n+1)).2
def u0m (w:World)(a:ByteArray)(n N D:Nat)(ha:a.size<=100000)(he:gPE a=0)(hn:n<=1000)(hN:bN (cW a)=N)(hD:bN (qD a)=D)(hND:N<D)(hL:Lay w):
 Calls Tryz.prog 210 #[.string a,.int .i64 n] w fun e w'=>a1Z w n N D e w'/\Below w.heap.size w w':=by
 have HS:=hid (r0p w a n N D ha he hn hN hD hND hL);have HR:=fun V g h=>hid (e0z V g (n+1) ⟨#[48]⟩ (by omega) (by omega) h)
 have HL:=hid hL;have HLL:=hid hL.lt;have HN:=hid hn;have wn:IntKind.i64.wrap ((n:Int)+1)=((n+1:Nat):Int):=by rw[Q0 _ ⟨by omega,by omega⟩];omega
 have h00:=hid (show a0C N D 0=false from rfl);obtain⟨os,hos⟩:=gn (a0C N D);obtain⟨zs,hzs⟩:=gn (a0i N D);have HOS:=hid hos;have HZS:=hid hzs;rw[hos]at h00;clear ha he hn hN hD hND hL hos hzs;go_enter Tryz.func210,Tryz.ntmps210;go_wp2_with fail;refine HS.out.mono ?_;rintro e w1 ⟨⟨v1,v2,rfl,⟨g1,g2,rfl,rfl,h3,h4,h5,hg1,hg2⟩⟩,hb1⟩;rw[HOS.out]at hg1;rw[HZS.out]at hg2;have G1:=hid hg1;have G2:=hid hg2;have B1:=hid hb1;clear hg1 hg2 hb1 h3 h4 h5 HS;go_wp2_with fail;refine (HR _ _ ((Blk.new w1 _ _).cell 0)).out.mono ?_;rintro e w2 ⟨rfl,hg7,hb2⟩;obtain⟨g7,h7⟩:=gn ((w1.alloc (.cells #[.string ⟨#[48]⟩] 23)).heap.size);rw[h7]at hg7 |-;have R7:=hid (NRowT.zeros hg7);have a1:=(Z3 w1.heap.size w1).alloc nr0 (.cells #[.string ⟨#[48]⟩] 23);have b2:=hid (a0a a1 hb2);have K7:=hid (show w1.heap.size<g7 by rw[<- h7];simp);have B2:=hid (B1.out.trans (b2.out.mono B1.out.size));have G12:=hid (G1.out.call b2.out);have G22:=hid (G2.out.call b2.out);have L7:=hid (show g7<w2.heap.size from Blk.lt hg7);clear hg7 hb2 a1 h7;go_wp2_with fail;refine (HR _ _ ((Blk.new w2 _ _).cell 0)).out.mono ?_;rintro e w3 ⟨rfl,hg8,hb3⟩;obtain⟨g8,h8⟩:=gn ((w2.alloc (.cells #[.string ⟨#[48]⟩] 23)).heap.size);rw[h8]at hg8 |-;have R8:=hid (NRowT.zeros hg8);have a2:=(Z3 w2.heap.size w2).alloc nr0 (.cells #[.string ⟨#[48]⟩] 23);have b3:=hid (a0a a2 hb3);have K8:=hid (show w2.heap.size<g8 by rw[<- h8];simp);have B3:=hid (B2.out.trans (b3.out.mono B2.out.size));have G13:=hid (G12.out.call b3.out);have G23:=hid (G22.out.call b3.out);have R73:=hid (R7.out.call b3.out);have N1:=hid (show g1<w1.heap.size from Blk.lt G1.out);have N2:=hid (show g2<w1.heap.size from Blk.lt G2.out);have zw1:=hid B1.out.size;clear hg8 hb3 a2 h8 HR;have k0:w3.cell? ⟨g7,0,none⟩=some (.string ⟨#[48]⟩):=by
  refine (R73.out.cell (i:=0) (by simp)).trans ?_;rw[<- a0p];simp[J3]
 have k1:=R73.out.free 0;have z1:(0:Int)<(n:Int)+1:=by omega
 go_wp2_with fail;have hne:g7≠g8:=by have:=L7.out;have:=K8.out;omega
 obtain⟨W3,hW3⟩:=gn (w3.setCell ⟨g7,0,none⟩ (.string ⟨#[49]⟩));have S7:NRowT W3 g7 (b0L os zs n 0).1:=by
  rw[<- hW3,<- b0X];have h:=R73.out.set 0 1;rw[show (List.replicate (n+1) 0).set 0 1=1::List.replicate n 0 by rw[Io];rfl]at h;exact h
 have S8:NRowT W3 g8 (b0L os zs n 0).2:=by rw[<- hW3];exact R8.out.other hne _
 have S1:Blk W3 g1 (f0F os n).toArray 4:=by rw[<- hW3];exact G13.out.other (by have:=K7.out;have:=N1.out;simp;omega) _
 have S2:Blk W3 g2 (f0F zs n).toArray 4:=by rw[<- hW3];exact G23.out.other (by have:=K7.out;have:=N2.out;simp;omega) _
 have SB:Below w.heap.size w W3:=by rw[<- hW3];exact B3.out.setCell (by have:=K7.out;have:=zw1.out;simp;omega) _
 rw[hW3];have T7:=hid S7;have T8:=hid S8;have T1:=hid S1;have T2:=hid S2;have TBl:=hid SB;have NE:=hid hne;have Q7:=hid (show w.heap.size<=g7 by have:=K7.out;have:=zw1.out;omega);have Q8:=hid (show w.heap.size<=g8 by have:=K7.out;have:=K8.out;have:=L7.out;have:=zw1.out;omega);have M17:=hid (show g1≠g7 by have:=K7.out;have:=N1.out;omega);have M18:=hid (show g1≠g8 by have:=K7.out;have:=K8.out;have:=L7.out;have:=N1.out;omega);have M27:=hid (show g2≠g7 by have:=K7.out;have:=N2.out;omega);have M28:=hid (show g2≠g8 by have:=K7.out;have:=K8.out;have:=L7.out;have:=N2.out;omega);clear k0 k1 z1 S7 S8 S1 S2 SB hne hW3 R73 R8 G13 G23 B3 b3 R7 G12 G22 B2 b2 G1 G2 B1 K7 K8 L7 zw1 N1 N2
 go_loopw [29] (fun ii wr=>∃ i:Nat,ii=.int .i64 (i:Nat)/\i<=n+1/\Hid (NRowT wr g7 (b0L os zs n i).1)/\Hid (NRowT wr g8 (b0L os zs n i).2)/\Hid (Blk wr g1 (f0F os n).toArray 4)/\Hid (Blk wr g2 (f0F zs n).toArray 4)/\Hid (Below w.heap.size w wr)) (fun ii wr=>n+1-(intOf ii).toNat)
 case atStart=>exact⟨0,rfl,S4 _,T7.out,T8.out,T1.out,T2.out,TBl.out⟩
 case round=>
  obtain⟨i,rfl,hi,hg7,hg8,hg1,hg2,hB⟩:=hrel;by_cases hlt:i<n+1
  .have q0:decide ((i:Int)<((n+1:Nat):Int))=true:=by simp;omega
   have f0:(0:Int)<=(i:Int):=by omega
   have f1:(i:Int)<((n+1:Nat):Int):=by omega
   have f2:(i:Int)<=1000:=by have:=HN.out;omega
   have IL:=hid hlt;have TBI:=hid (TB.outer (os:=os) (zs:=zs) h00.out n i hi);clear hi hlt;go_wp2_with fail;obtain⟨x,hx⟩:=gn ((b0L os zs n i).1.getD i 0);obtain⟨wo,rfl⟩:∃ wo:World,wo=wr:=⟨_,rfl⟩;by_cases hx0:x=0
   focus
    have k0:wo.cell? ⟨g7,i,none⟩=some (.string (a0f x)):=by rw[<- hx];exact hg7.out.cell (by rw[TBI.out.l1];exact IL.out)
    have q1:((a0f x).toList == [48])=true:=by rw[hx0,a0p];exact c0l
    have hnext:=hid (show b0L os zs n (i+1)=b0L os zs n i from by rw[b0L,J2 (by rw[hx];exact hx0)]);obtain⟨sx,hsx⟩:=gn (a0f x);rw[hsx]at k0 q1;clear hx hx0 hsx
    go_loopw [10] (fun jj wq=>jj=.int .i64 0/\wq=wo) (fun jj wq=>0)
    case atStart=>exact⟨rfl,rfl⟩
    case' round=>
     obtain⟨rfl,rfl⟩:=hrel
   rotate_left
   focus
    have q1:((a0f x).toList == [48])=false:=a0L (l:=[48]) (by rw[<- a0p];exact b0M hx0);have hnext:=hid (show b0L os zs n (i+1)=tIn os zs i (n+1-i) (b0L os zs n i) from by rw[b0L,U0 (by rw[hx];exact hx0)]);obtain⟨s0,hs0⟩:=gn (b0L os zs n i);rw[hs0]at hx hg7 hg8 hnext TBI;have HX:=hid hx;obtain⟨sx,hsx⟩:=gn (a0f x);rw[hsx]at q1;have HSX:=hid hsx;clear hx hx0 hsx hs0;have d30:decide ((i:Int)<(n:Int)+1)=true:=by have:=IL.out;simp;omega
    rw[d30];clear d30
    go_loopw [10] (fun jj wq=>∃ j:Nat,jj=.int .i64 (j:Nat)/\i+j<=n+1/\Hid (NRowT wq g7 (tIn os zs i j s0).1)/\Hid (NRowT wq g8 (tIn os zs i j s0).2)/\Hid (Blk wq g1 (f0F os n).toArray 4)/\Hid (Blk wq g2 (f0F zs n).toArray 4)/\Hid (Below w.heap.size w wq)) (fun jj wq=>n+1-(intOf jj).toNat)
    case atStart=>exact⟨0,rfl,by have:=IL.out;omega,hg7,hg8,hg1,hg2,hB⟩
    case' round=>
     clear hg7 hg8 hg1 hg2 hB;obtain⟨j,rfl,hj,hg7,hg8,hg1,hg2,hB⟩:=hrel;have TBJ:=hid (TB.inner (os:=os) (zs:=zs) h00.out TBI.out j hj);have k0:wr.cell? ⟨g7,i,none⟩=some (.string sx):=by
      refine (hg7.out.cell (by rw[TBJ.out.1.l1];exact IL.out)).trans ?_;rw[TBJ.out.2,HX.out,HSX.out]
     by_cases hlt:i+j<=n
     .have q2:decide ((i:Int)+(j:Int)<=(n:Int))=true:=by simp;omega
      have f5:(0:Int)<=(j:Int):=by omega
      have f6:(j:Int)<((n+1:Nat):Int):=by omega
      have f7:(j:Int)<=1000:=by have:=HN.out;omega
      have f8:(i:Int)+(j:Int)<((n+1:Nat):Int):=by omega
      have f9:(i:Int)+(j:Int)<(n:Int)+1:=by omega
      have f10:(0:Int)<=(i:Int)+(j:Int):=by omega
      have c1:wr.cell? ⟨g1,j,none⟩=some (.bool (os j)):=(hg1.out.cell j).trans (by rw[J5,d0R (by omega)]);have c2:wr.cell? ⟨g2,j,none⟩=some (.bool (zs j)):=(hg2.out.cell j).trans (by rw[J5,d0R (by omega)]);have HLT:=hid hlt;obtain⟨zj,hzj⟩:=gn (zs j);obtain⟨oj,hoj⟩:=gn (os j);rw[hoj]at c1;rw[hzj]at c2;have HZJ:=hid hzj;have HOJ:=hid hoj;clear hlt hj hzj hoj;obtain⟨y1,hy1⟩:=gn ((tIn os zs i j s0).2.getD (i+j) 0);obtain⟨y2,hy2⟩:=gn ((tIn os zs i j s0).1.getD (i+j) 0);have hxb:x<=2 ^ i:=by rw[<- HX.out];exact TBI.out.src
      have hy1b:y1<=2 ^ i:=hy1 ▸ TBJ.out.1.hi2 _ nr0;have hy2b:y2<=2 ^ i:=hy2 ▸ TBJ.out.1.hi1 _ nr0;have dx:=a0b hxb (by omega);have P1:=fun V hV=>hid (f0t V y1 x (a0b hy1b (by omega)) dx (a0b (i:=i+1) (by omega) (by omega)) hV)
      have P2:=fun V hV=>hid (f0t V y2 x (a0b hy2b (by omega)) dx (a0b (i:=i+1) (by omega) (by omega)) hV)
      have t1:wr.cell? ⟨g8,i+j,none⟩=some (.string (a0f y1)):=by rw[<- hy1];exact hg8.out.cell (by rw[TBJ.out.1.l2];have:=HLT.out;omega)
      have t2:wr.cell? ⟨g7,i+j,none⟩=some (.string (a0f y2)):=by rw[<- hy2];exact hg7.out.cell (by rw[TBJ.out.1.l1];have:=HLT.out;omega)
      rw[HSX.out]at P1 P2;obtain⟨u1,hu1⟩:=gn (a0f y1);obtain⟨u2,hu2⟩:=gn (a0f y2);rw[hu1]at P1 t1;rw[hu2]at P2 t2;have HY1:=hid hy1;have HY2:=hid hy2;have HU2:=hid hu2;have hstep:=hid (show tIn os zs i (j+1) s0=(c0U oj (i+j) x (tIn os zs i j s0).1,c0U zj (i+j) x (tIn os zs i j s0).2) from by rw[tIn,n0U,HOJ.out,HZJ.out,TBJ.out.2,HX.out]);obtain⟨m1,hm1⟩:=gn (a0f (y1+x));obtain⟨m2,hm2⟩:=gn (a0f (y2+x));rw[hm1]at P1;rw[hm2]at P2;have HM1:=hid hm1;have HM2:=hid hm2;clear hm1 hm2;clear hy1 hy2 hxb hy1b hy2b dx hu1 hu2
      go_upto_if 49 with fail
      go_cut [] (fun wx=>Hid (NRowT wx g7 (tIn os zs i j s0).1)/\Hid (NRowT wx g8 (c0U zj (i+j) x (tIn os zs i j s0).2))/\Hid (Blk wx g1 (f0F os n).toArray 4)/\Hid (Blk wx g2 (f0F zs n).toArray 4)/\Hid (Below w.heap.size w wx))
      case first=>
       cases zj
       .go_wp2_with fail
        go_meet
        exact⟨hg7,by rw[d0h];exact hg8,hg1,hg2,hB⟩
       .go_wp2_with fail;have ew:IntKind.i64.wrap ((i:Int)+(j:Int))=(i:Int)+(j:Int):=by rw[Q0 _ ⟨by omega,by omega⟩]
        have et:((i:Int)+(j:Int)).toNat=i+j:=by omega
        refine b0a 15 2 [0,1,2,3,4,5,6,7,8,9,10,11,12,13] 1 (fun W'=>W'.cell? ⟨g8,i+j,none⟩=some (.string u1)/\W'.cell? ⟨g7,i,none⟩=some (.string sx)) (by kernel_rfl) rfl (by kernel_rfl) (by kernel_rfl) (by kernel_rfl) (by kernel_rfl) ⟨t1,k0⟩ ?_
        iterate 14
         refine⟨_,rfl,?_⟩;apply Exists.intro
         refine⟨.inl ⟨by rfl,?_⟩,?_⟩
         .rintro W' ⟨r1,r2⟩;go_simp;try with_reducible rfl
         go_frame
        refine a0c (i:=14) (by kernel_rfl) (by rfl) (by rfl) ?_;go_wp2_with fail;refine (P1 _ (HL.out.below hB.out.drew HLL.out)).out.mono ?_;rintro e w5 ⟨rfl,hbc⟩;have Ca:=hid (show Below wr.heap.size wr w5 from br0.drew.trans hbc);have E7a:=hid (hg7.out.call Ca.out);have E8a:=hid (hg8.out.call Ca.out);have E1a:=hid (hg1.out.call Ca.out);have E2a:=hid (hg2.out.call Ca.out);have EBa:=hid (hB.out.trans (Ca.out.mono hB.out.size));have tca:=(Ca.out.cell (a0e t1)).trans t1;have kca:=(Ca.out.cell (a0e k0)).trans k0;clear hbc;go_wp2_with fail;refine⟨⟨tca,kca⟩,?_⟩;refine H8 (by kernel_rfl) ?_ _;simp only[b0h,c0w,Ab,A9];have fza:=E8a.out.free (i+j);clear kca;go_wp2_with fail
        try simp only[b0h]
        go_meet
        refine⟨E7a.out.other (fun e=>NE.out e.symm) _,?_,E1a.out.other (fun e=>M18.out e.symm) _,E2a.out.other (fun e=>M28.out e.symm) _,EBa.out.setCell Q8.out _⟩;show NRowT _ _ _
        rw[c0T,HY1.out,<- HM1.out];exact E8a.out.set (i+j) (y1+x)
      case rest=>
       obtain⟨F7,F8,F1,F2,FB⟩:=hcut;clear hg7 hg8 hg1 hg2 hB t1 t2 k0 c1 c2;have c1:wc.cell? ⟨g1,j,none⟩=some (.bool oj):=(F1.out.cell j).trans (by rw[J5,d0R (by have:=HLT.out;omega),HOJ.out]);have k6:wc.cell? ⟨g7,i,none⟩=some (.string sx):=by
        refine (F7.out.cell (by rw[TBJ.out.1.l1];exact IL.out)).trans ?_;rw[TBJ.out.2,HX.out,HSX.out]
       have t6:wc.cell? ⟨g7,i+j,none⟩=some (.string u2):=by
        refine (F7.out.cell (by rw[TBJ.out.1.l1];have:=HLT.out;omega)).trans ?_;rw[HY2.out,HU2.out]
       cases oj
       .go_wp2_with fail;go_roundw
        case rel=>exact⟨j+1,by go_num,by have:=HLT.out;omega,by rw[hstep.out];exact F7,by rw[hstep.out];exact F8,F1,F2,FB⟩
        case measure=>simp[intOf]<;>(have:=HLT.out;omega)
       .go_wp2_with fail;have ew:IntKind.i64.wrap ((i:Int)+(j:Int))=(i:Int)+(j:Int):=by rw[Q0 _ ⟨by omega,by omega⟩]
        have et:((i:Int)+(j:Int)).toNat=i+j:=by omega
        refine b0a 15 2 [0,1,2,3,4,5,6,7,8,9,10,11,12,13] 1 (fun W'=>W'.cell? ⟨g7,i+j,none⟩=some (.string u2)/\W'.cell? ⟨g7,i,none⟩=some (.string sx)) (by kernel_rfl) rfl (by kernel_rfl) (by kernel_rfl) (by kernel_rfl) (by kernel_rfl) ⟨t6,k6⟩ ?_
        iterate 14
         refine⟨_,rfl,?_⟩;apply Exists.intro
         refine⟨.inl ⟨by rfl,?_⟩,?_⟩
         .rintro W' ⟨r1,r2⟩;go_simp;try with_reducible rfl
         go_frame
        refine a0c (i:=14) (by kernel_rfl) (by rfl) (by rfl) ?_;go_wp2_with fail;refine (P2 _ (HL.out.below FB.out.drew HLL.out)).out.mono ?_;rintro e w7 ⟨rfl,hbc⟩;have Cb:=hid (show Below wc.heap.size wc w7 from br0.drew.trans hbc);have E7b:=hid (F7.out.call Cb.out);have E8b:=hid (F8.out.call Cb.out);have E1b:=hid (F1.out.call Cb.out);have E2b:=hid (F2.out.call Cb.out);have EBb:=hid (FB.out.trans (Cb.out.mono FB.out.size));have tcb:=(Cb.out.cell (a0e t6)).trans t6;have kcb:=(Cb.out.cell (a0e k6)).trans k6;clear hbc;go_wp2_with fail;refine⟨⟨tcb,kcb⟩,?_⟩;refine H8 (by kernel_rfl) ?_ _;simp only[b0h,c0w,Ab,A9];have fzb:=E7b.out.free (i+j);clear kcb;go_wp2_with fail
        try simp only[b0h]
        go_roundw
        case rel=>
         refine⟨j+1,by go_num,by have:=HLT.out;omega,?_,?_,E1b.out.other (fun e=>M17.out e.symm) _,E2b.out.other (fun e=>M27.out e.symm) _,EBb.out.setCell Q7.out _⟩
         .show NRowT _ _ _
          rw[hstep.out,c0T,HY2.out,<- HM2.out];exact E7b.out.set (i+j) (y2+x)
         .show NRowT _ _ _
          rw[hstep.out];exact E8b.out.other (fun e=>NE.out e) _
        case measure=>simp[intOf]<;>(have:=HLT.out;omega)
     focus
      have q2:decide ((i:Int)+(j:Int)<=(n:Int))=false:=by simp;omega
      have e1:j=n+1-i:=by omega
      have f7:(j:Int)<=1001:=by have:=HN.out;omega
      have f5:(0:Int)<=(j:Int):=by omega
      subst e1;clear hj hlt
   all_goals
    go_wp2_with fail;go_roundw
    case rel=>exact⟨i+1,by go_num,by have:=IL.out;omega,by rw[hnext.out];exact hg7,by rw[hnext.out];exact hg8,hg1,hg2,hB⟩
    case measure=>simp[intOf]<;>(have:=IL.out;omega)
  .have q0:decide ((i:Int)<((n+1:Nat):Int))=false:=by simp;omega
   have e1:i=n+1:=by omega
   subst e1;go_wp2_with fail;go_ret
   exact⟨⟨g8,rfl,Q8.out,by rw[HOS.out,HZS.out];exact hg8.out⟩,hB.out⟩
open Go.Shelf
def i0T (w:World)(n:Nat)(hn:n<=1000)(hL:Lay w):
 Calls Tryz.prog 213 #[.int .i64 n] w fun e w'=>e=.returned (.string (a0f (2 ^ n)))/\Below w.heap.size w w':=by
 have HP:=hid (t0S w ⟨#[50]⟩ n u0D (by omega) (by rw[v0M];exact h0z hn) hL);rw[v0M]at HP;clear hn hL;go_enter Tryz.func213,Tryz.ntmps213;go_wp2_with fail;refine HP.out.mono ?_;rintro e w1 ⟨rfl,hb1⟩;have b1:=hid hb1;clear hb1;go_wp2_with fail;go_ret
 exact⟨rfl,b1.out⟩
end
section
open Go.RowKit
open Go.Lib (decDigits nDigits)
def c1q (w:World)(H n:Nat)(v:Value)(l:List Nat):Prop:=∃ g,v=.slice (some ⟨g,0,none⟩) (n+1) (n+1)/\H<=g/\NRowT w g l
def f0h (two:Bool)(L:List Nat)(n:Nat):List Nat:=if two=true then k0M L n (n+1) else L
def a1c (w:World)(a:ByteArray)(n N D:Nat)(two:Bool)(ha:a.size<=100000)(he:gPE a=0)(hn:n<=256)(hN:bN (cW a)=N)(hD:bN (qD a)=D)(hND:N<D)(hL:Lay w)
 (hR:∀ i,i<=n->(f0h two (b0L (a0C N D) (a0i N D) n (n+1)).2 n).getD i 0*2 ^ (n-i)<=rIn (f0h two (b0L (a0C N D) (a0i N D) n (n+1)).2 n) n i):
 Calls Tryz.prog 142 #[.string a,.int .i64 n,.bool two] w fun e w'=>e=.returned (.tuple #[.string (c0p (qmk false (rIn (f0h two (b0L (a0C N D) (a0i N D) n (n+1)).2 n) n (n+1)) (2 ^ n))),.int .i64 0])/\Below w.heap.size w w':=by
 have HA:=hid (d0u w a ha hL);rw[J2 he,J2 he,he]at HA;have HT:=fun V hV=>hid (u0m V a n N D ha he (by omega) hN hD hND hV)
 have HRep:=fun V g h=>hid (e0z V g (n+1) ⟨#[48]⟩ (by omega) (by omega) h)
 have hLb:=p0y (os:=a0C N D) (zs:=a0i N D) rfl hn;obtain⟨L,hL0⟩:=gn ((b0L (a0C N D) (a0i N D) n (n+1)).2);have HLQ:=hid hL0;rw[hL0]at hLb hR |-;have HLb:=hid hLb;have hM:(f0h two L n).length=n+1/\∀ k,(f0h two L n).getD k 0<=2 ^ e7:=by
  unfold f0h
  split
  .have h:=CB.outer hLb.2 (n+1) (J4 (n+1));exact⟨h.len,fun k=>h0U hn nr0 (h.up k)⟩
  .exact⟨hLb.1,fun k=>O0 (hLb.2 k) (H6 (by omega) (by unfold e3 e7;omega))⟩
 obtain⟨M,hM0⟩:=gn (f0h two L n);have HMQ:=hid hM0;rw[hM0]at hM hR |-;have HMb:=hid hM;have HR:=hid hR;have hmk:=v0p (a:=rIn M n (n+1)) (b:=2 ^ n) (a0b (j0V M n _) (by omega)) (a0b nr0 (by omega)) (by have:=Ff (n:=n) (show 0<2 by omega);omega);have hov:¬ ovQ (qmk false (rIn M n (n+1)) (2 ^ n)):=by
  have hd:0<2 ^ n:=Ff (by omega);unfold ovQ;rw[g0G hd,i0x hd,b0s];have h1:=a0r (Dp (rIn M n (n+1)) (Nat.gcd (rIn M n (n+1)) (2 ^ n)));have h2:=a0r (Dp (2 ^ n) (Nat.gcd (rIn M n (n+1)) (2 ^ n)));have h3:=a0b (j0V M n (n+1)) (by omega);have h4:=a0b (J4 (2 ^ n)) (by omega);omega
 have HQM:=fun V hV=>hid (v0i V (a0f (rIn M n (n+1))) (a0f (2 ^ n)) (a0N (a0b (j0V M n _) (by omega))) (a0N (a0b nr0 (by omega))) hV)
 rw[hmk.1,hmk.2,q0A hov]at HQM;obtain⟨out,hout⟩:=gn (c0p (qmk false (rIn M n (n+1)) (2 ^ n)));rw[hout]at HQM |-;have HLy:=hid hL;have HLL:=hid hL.lt;have HN:=hid hn;have wn:IntKind.i64.wrap ((n:Int)+1)=((n+1:Nat):Int):=by rw[Q0 _ ⟨by omega,by omega⟩];omega
 have q0:decide ((n:Int)<0)=false:=by simp
 have q1:decide ((256:Int)<(n:Int))=false:=by simp;omega
 have n256:(n:Int)<=256:=by omega
 clear ha he hn hN hD hND hL hR hLb hL0 hM hM0 hmk hov hout;go_enter Tryz.func142,Tryz.ntmps142;go_wp2_with fail;refine HA.out.mono ?_;rintro e w1 ⟨rfl,hb1⟩;have B1:=hid hb1;clear hb1 HA;go_wp2_with fail;refine (HT _ (HLy.out.call B1.out)).out.mono ?_;rintro e w2 ⟨⟨g11,rfl,h11,hr11⟩,hb2⟩;rw[HLQ.out]at hr11;have R11:=hid hr11;have B2:=hid (a0a B1.out hb2);have K11:=hid (show w.heap.size<=g11 from O0 B1.out.size h11);clear h11 hr11 hb2 HT
 go_upto_if 38 with fail
 go_cut [11] (fun s11 wx=>c1q wx w.heap.size n s11 M/\Below w.heap.size w wx)
 case first=>
  cases two
  .go_wp2_with fail
   go_meet
   exact⟨⟨g11,rfl,K11.out,by rw[<- HMQ.out];exact R11.out⟩,B2.out⟩
  .go_wp2_with fail;refine (HRep _ _ ((Blk.new w2 _ _).cell 0)).out.mono ?_;rintro e w3 ⟨rfl,hg8,hb3⟩;obtain⟨g12,h8⟩:=gn ((w2.alloc (.cells #[.string ⟨#[48]⟩] 23)).heap.size);rw[h8]at hg8 |-;have R12:=hid (NRowT.zeros hg8);have a2:=(Z3 w2.heap.size w2).alloc nr0 (.cells #[.string ⟨#[48]⟩] 23);have b3:=hid (a0a a2 hb3);have B3:=hid (a0a B2.out b3.out);have R113:=hid (R11.out.call b3.out);have K12:=hid (show w.heap.size<=g12 by rw[<- h8];have:=B2.out.size;simp;omega);have NE:=hid (show g11≠g12 by have:=R11.out.lt;rw[<- h8];simp;omega);clear hg8 hb3 a2 h8 HRep b3;have hc0:=hid (show NRowT w3 g12 (k0M L n 0) from R12.out);go_wp2_with fail
   go_loopw [45] (fun ii wr=>∃ i:Nat,ii=.int .i64 (i:Nat)/\i<=n+1/\Hid (NRowT wr g12 (k0M L n i))/\Hid (NRowT wr g11 L)/\Hid (Below w.heap.size w wr)) (fun ii wr=>n+1-(intOf ii).toNat)
   case atStart=>exact⟨0,rfl,S4 _,hc0,R113,B3⟩
   case round=>
    obtain⟨i,rfl,hi,hg12,hg11,hB⟩:=hrel;by_cases hlt:i<n+1
    .have q5:decide ((i:Int)<((n+1:Nat):Int))=true:=by simp;omega
     have f0:(0:Int)<=(i:Int):=by omega
     have f1:(i:Int)<((n+1:Nat):Int):=by omega
     have f2:(i:Int)<=256:=by have:=HN.out;omega
     have IL:=hid hlt;have CBI:=hid (CB.outer (n:=n) HLb.out.2 i hi);clear hi hlt;go_wp2_with fail;have d30:decide ((i:Int)<(n:Int)+1)=true:=by have:=IL.out;simp;omega
     try rw[d30]
     clear d30;obtain⟨wo,rfl⟩:∃ wo:World,wo=wr:=⟨_,rfl⟩;obtain⟨m0,hm0⟩:=gn (k0M L n i);have hnext:=hid (show k0M L n (i+1)=cIn L i (n+1-i) m0 from by rw[k0M,hm0]);rw[hm0]at hg12 CBI;clear hm0
     go_loopw [14] (fun jj wq=>∃ j:Nat,jj=.int .i64 (j:Nat)/\i+j<=n+1/\Hid (NRowT wq g12 (cIn L i j m0))/\Hid (NRowT wq g11 L)/\Hid (Below w.heap.size w wq)) (fun jj wq=>n+1-(intOf jj).toNat)
     case atStart=>exact⟨0,rfl,by have:=IL.out;omega,hg12,hg11,hB⟩
     case round=>
      clear hg12 hg11 hB;obtain⟨j,rfl,hj,hg12,hg11,hB⟩:=hrel;have CBJ:=hid (CB.inner CBI.out HLb.out.2 j hj);by_cases hlt:i+j<=n
      .have q6:decide ((i:Int)+(j:Int)<=(n:Int))=true:=by simp;omega
       have f5:(0:Int)<=(j:Int):=by omega
       have f6:(j:Int)<((n+1:Nat):Int):=by omega
       have f7:(j:Int)<=256:=by have:=HN.out;omega
       have f8:(i:Int)+(j:Int)<((n+1:Nat):Int):=by omega
       have f9:(i:Int)+(j:Int)<(n:Int)+1:=by omega
       have f10:(0:Int)<=(i:Int)+(j:Int):=by omega
       have f11:(j:Int)<(n:Int)+1:=by omega
       have HLT:=hid hlt;obtain⟨y,hy⟩:=gn ((cIn L i j m0).getD (i+j) 0);obtain⟨x1,hx1⟩:=gn (L.getD i 0);obtain⟨x2,hx2⟩:=gn (L.getD j 0);have b1:x1<=2 ^ e3:=hx1 ▸ HLb.out.2 i;have b2:x2<=2 ^ e3:=hx2 ▸ HLb.out.2 j;have tb:i*(n+1)+j+1<=(n+1)*(n+1):=by
        have h1:(i+1)*(n+1)<=(n+1)*(n+1):=C9 _ (by omega);rw[Iv]at h1;omega
       have by0:y<=2 ^ e7:=hy ▸ h0U HN.out (t:=i*(n+1)+j) (by omega) (CBJ.out.up (i+j));have bm:x1*x2<=2 ^ e7:=by
        have h1:=Bk b1 b2;rw[<- Cr]at h1;exact O0 h1 (H6 (by omega) (by unfold e3 e7;omega))
       have bs:y+x1*x2<=2 ^ (e7+1):=by rw[I8];omega
       have e37:e3<=3000/\e7+1<=3000:=by unfold e3 e7;omega
       have P1:=fun V hV=>hid (g0K V x1 x2 (a0b b1 e37.1) (a0b b2 e37.1) (a0b bm (by omega)) hV)
       have P2:=fun V hV=>hid (f0t V y (x1*x2) (a0b by0 (by omega)) (a0b bm (by omega)) (a0b bs e37.2) hV)
       have t1:wr.cell? ⟨g12,i+j,none⟩=some (.string (a0f y)):=by rw[<- hy];exact hg12.out.cell (by rw[CBJ.out.len];have:=HLT.out;omega)
       have t2:wr.cell? ⟨g11,i,none⟩=some (.string (a0f x1)):=by rw[<- hx1];exact hg11.out.cell (by rw[HLb.out.1];exact IL.out)
       have t3:wr.cell? ⟨g11,j,none⟩=some (.string (a0f x2)):=by rw[<- hx2];exact hg11.out.cell (by rw[HLb.out.1];have:=HLT.out;omega)
       obtain⟨u1,hu1⟩:=gn (a0f y);obtain⟨u2,hu2⟩:=gn (a0f x1);obtain⟨u3,hu3⟩:=gn (a0f x2);obtain⟨u4,hu4⟩:=gn (a0f (x1*x2));obtain⟨u5,hu5⟩:=gn (a0f (y+x1*x2));rw[hu2,hu3,hu4]at P1;rw[hu1,hu4,hu5]at P2;rw[hu1]at t1;rw[hu2]at t2;rw[hu3]at t3;have hstep:=hid (show cIn L i (j+1) m0=(cIn L i j m0).set (i+j) (y+x1*x2) from by rw[cIn,m0d,hy,hx1,hx2]);have HU5:=hid hu5;clear hy hx1 hx2 b1 b2 tb by0 bm bs e37 hu1 hu2 hu3 hu4 hu5 hlt hj;go_wp2_with fail;have ew:IntKind.i64.wrap ((i:Int)+(j:Int))=(i:Int)+(j:Int):=by rw[Q0 _ ⟨by omega,by omega⟩]
       have et:((i:Int)+(j:Int)).toNat=i+j:=by omega
       refine b0a 20 2 [0,1,2,3,4,5,6,7,8,9,10,11,12,13,14,15,16,17] 2 (fun W'=>W'.cell? ⟨g12,i+j,none⟩=some (.string u1)/\W'.cell? ⟨g11,i,none⟩=some (.string u2)/\W'.cell? ⟨g11,j,none⟩=some (.string u3)) (by kernel_rfl) rfl (by kernel_rfl) (by kernel_rfl) (by kernel_rfl) (by kernel_rfl) ⟨t1,t2,t3⟩ ?_
       iterate 18
        refine⟨_,rfl,?_⟩;apply Exists.intro
        refine⟨.inl ⟨by rfl,?_⟩,?_⟩
        .rintro W' ⟨r1,r2,r3⟩;go_simp;try with_reducible rfl
        go_frame
       refine a0c (i:=18) (by kernel_rfl) (by rfl) (by rfl) ?_;go_wp2_with fail;refine (P1 _ (HLy.out.below hB.out.drew HLL.out)).out.mono ?_;rintro e w5 ⟨rfl,hbc⟩;have C5:=hid (show Below wr.heap.size wr w5 from br0.drew.trans hbc);have E5:=hid (hg12.out.call C5.out);have F5:=hid (hg11.out.call C5.out);have EB5:=hid (hB.out.trans (C5.out.mono hB.out.size));have s1:=(C5.out.cell (a0e t1)).trans t1;have s2:=(C5.out.cell (a0e t2)).trans t2;have s3:=(C5.out.cell (a0e t3)).trans t3;clear hbc t1 t2 t3;go_wp2_with fail;refine⟨⟨s1,s2,s3⟩,?_⟩;refine a0c (i:=19) (by kernel_rfl) (by rfl) (by rfl) ?_;go_wp2_with fail;refine (P2 _ (HLy.out.below EB5.out HLL.out)).out.mono ?_;rintro e w6 ⟨rfl,hbc⟩;have E6:=hid (E5.out.call hbc);have F6:=hid (F5.out.call hbc);have EB6:=hid (EB5.out.trans (hbc.mono EB5.out.size));have v1:=(hbc.cell (a0e s1)).trans s1;have v2:=(hbc.cell (a0e s2)).trans s2;have v3:=(hbc.cell (a0e s3)).trans s3;clear hbc s1 s2 s3;go_wp2_with fail;refine⟨⟨v1,v2,v3⟩,?_⟩;refine H8 (by kernel_rfl) ?_ _;simp only[b0h,c0w,Ab,A9];have fz:=E6.out.free (i+j);clear v2 v3;go_wp2_with fail
       try simp only[b0h]
       go_roundw
       case rel=>
        refine⟨j+1,by go_num,by have:=HLT.out;omega,?_,F6.out.other (fun e=>NE.out e.symm) _,EB6.out.setCell K12.out _⟩;show NRowT _ _ _
        rw[hstep.out,<- HU5.out];exact E6.out.set (i+j) (y+x1*x2)
       case measure=>simp[intOf]<;>(have:=HLT.out;omega)
      .have q6:decide ((i:Int)+(j:Int)<=(n:Int))=false:=by simp;omega
       have e1:j=n+1-i:=by omega
       have f7:(j:Int)<=257:=by have:=HN.out;omega
       have f5:(0:Int)<=(j:Int):=by omega
       subst e1;clear hj hlt;go_wp2_with fail;go_roundw
       case rel=>exact⟨i+1,by go_num,by have:=IL.out;omega,by rw[hnext.out];exact hg12,hg11,hB⟩
       case measure=>simp[intOf]<;>(have:=IL.out;omega)
    .have q5:decide ((i:Int)<((n+1:Nat):Int))=false:=by simp;omega
     have e1:i=n+1:=by omega
     subst e1;go_wp2_with fail
     go_meet
     exact⟨⟨g12,rfl,K12.out,by rw[<- HMQ.out];exact hg12.out⟩,hB.out⟩
 case rest=>
  obtain⟨⟨g,rfl,hg,hrow⟩,hB⟩:=hcut;have RG:=hid hrow;have B3:=hid hB;have HPow:=fun V k (hk:k<=256) hV=>hid (i0T V k (by omega) hV)
  clear hrow hg hB;go_wp2_with fail;refine (HPow _ n HN.out (HLy.out.call B3.out)).out.mono ?_;rintro e w4 ⟨rfl,hb4⟩;have RG4:=hid (RG.out.call hb4);have B4:=hid (a0a B3.out hb4);clear hb4;go_wp2_with fail
  go_loopw [15,82] (fun rr ii wr=>∃ i:Nat,ii=.int .i64 (i:Nat)/\i<=n+1/\rr=.string (a0f (rIn M n i))/\Hid (NRowT wr g M)/\Hid (Below w.heap.size w wr)) (fun rr ii wr=>n+1-(intOf ii).toNat)
  case atStart=>exact⟨0,rfl,S4 _,rfl,RG4,B4⟩
  case round=>
   obtain⟨i,rfl,hi,rfl,hrow,hB⟩:=hrel;by_cases hlt:i<n+1
   .have q5:decide ((i:Int)<((n+1:Nat):Int))=true:=by simp;omega
    have f0:(0:Int)<=(i:Int):=by omega
    have f1:(i:Int)<((n+1:Nat):Int):=by omega
    have f2:(i:Int)<=256:=by have:=HN.out;omega
    have w1':IntKind.i64.wrap ((n:Int)-(i:Int))=((n-i:Nat):Int):=by rw[Q0 _ ⟨by omega,by omega⟩];omega
    have IL:=hid hlt;obtain⟨x,hx⟩:=gn (M.getD i 0);have t1:wr.cell? ⟨g,i,none⟩=some (.string (a0f x)):=by rw[<- hx];exact hrow.out.cell (by rw[HMb.out.1];exact IL.out)
    have bx:x<=2 ^ e7:=hx ▸ HMb.out.2 i;have hle:x*2 ^ (n-i)<=rIn M n i:=hx ▸ HR.out i (by omega);have hnx:=hid (show rIn M n (i+1)=rIn M n i-x*2 ^ (n-i) from by rw[rIn,hx]);have br:=j0V M n i;obtain⟨r,hr⟩:=gn (rIn M n i);rw[hr]at hle hnx br |-;have P1:=fun V hV=>hid (g0K V x (2 ^ (n-i)) (a0b bx (by unfold e7;omega)) (a0b nr0 (by omega)) (a0b (O0 hle br) (by have:=HN.out;omega)) hV)
    have P2:=fun V hV=>hid (w0I V r (x*2 ^ (n-i)) (a0b br (by have:=HN.out;omega)) (a0b (O0 hle br) (by have:=HN.out;omega)) hle hV)
    have P0:=fun V hV=>(HPow V (n-i) (by have:=HN.out;omega) hV)
    obtain⟨u1,hu1⟩:=gn (a0f x);obtain⟨u2,hu2⟩:=gn (a0f (2 ^ (n-i)));obtain⟨u3,hu3⟩:=gn (a0f (x*2 ^ (n-i)));obtain⟨u4,hu4⟩:=gn (a0f r);obtain⟨u5,hu5⟩:=gn (a0f (r-x*2 ^ (n-i)));rw[hu2]at P0;rw[hu1,hu2,hu3]at P1;rw[hu3,hu4,hu5]at P2;rw[hu1]at t1;rw[hu4];have HU5:=hid hu5;clear hx bx hle br hr hu1 hu2 hu3 hu4 hu5 hi hlt HPow;go_wp2_with fail;refine (P0 _ (HLy.out.below hB.out HLL.out)).out.mono ?_;rintro e w5 ⟨rfl,hb5⟩;have R5:=hid (hrow.out.call hb5);have B5:=hid (hB.out.trans (hb5.mono hB.out.size));clear hb5 t1;go_wp2_with fail;refine (P1 _ (HLy.out.below B5.out HLL.out)).out.mono ?_;rintro e w6 ⟨rfl,hb6⟩;have R6:=hid (R5.out.call hb6);have B6:=hid (B5.out.trans (hb6.mono B5.out.size));clear hb6;go_wp2_with fail;refine (P2 _ (HLy.out.below B6.out HLL.out)).out.mono ?_;rintro e w7 ⟨rfl,hb7⟩;have R7:=hid (R6.out.call hb7);have B7:=hid (B6.out.trans (hb7.mono B6.out.size));clear hb7 w1';go_wp2_with fail;go_roundw
    case rel=>exact⟨i+1,by go_num,by have:=IL.out;omega,by rw[hnx.out,HU5.out],R7,B7⟩
    case measure=>simp[intOf]<;>(have:=IL.out;omega)
   .have q5:decide ((i:Int)<((n+1:Nat):Int))=false:=by simp;omega
    have e1:i=n+1:=by omega
    subst e1;obtain⟨u1,hu1⟩:=gn (a0f (rIn M n (n+1)));obtain⟨u2,hu2⟩:=gn (a0f (2 ^ n));have P0:=fun V hV=>(HPow V n HN.out hV)
    rw[hu1,hu2]at HQM;rw[hu2]at P0;rw[hu1];clear hu1 hu2 HPow hi hlt;go_wp2_with fail;refine (P0 _ (HLy.out.below hB.out HLL.out)).out.mono ?_;rintro e w5 ⟨rfl,hb5⟩;have B5:=hid (hB.out.trans (hb5.mono hB.out.size));clear hb5;go_wp2_with fail;refine (HQM _ (HLy.out.below B5.out HLL.out)).out.mono ?_;rintro e w6 ⟨rfl,hb6⟩;have B6:=hid (B5.out.trans (hb6.mono B5.out.size));clear hb6;go_wp2_with fail;go_ret2
    exact⟨rfl,B6.out⟩
end
section
open Go.RowKit
def drT (N D:Nat)(two:Bool)(l:List UInt8):Bool×Int×Int:=if two=true then b1m N D l else y0D N D l
def a1D {N D:Nat}(h:N<D)(two:Bool)(l:List UInt8):∃ u:Nat,u<=l.length/\((h0y N D two l=none/\drT N D two l=(false,0,(u:Int)))\/(∃ v:Int,-(l.length:Int)<=v/\v<=l.length/\h0y N D two l=some v/\drT N D two l=(true,v,(u:Int)))):=by
 have hb:=fun v hv=>i0d h (two:=two) (l:=l) (v:=v) hv
 unfold h0y at hb;unfold h0y drT y0D b1m;cases hs:s1 N D l 0 0 with
 | none=>exact⟨l.length,J4 _,.inl ⟨rfl,by cases two<;>rfl⟩⟩
 | some xp=>
  obtain⟨x,p⟩:=xp;obtain⟨b1,b2⟩:=l0g h hs;rw[hs]at hb;cases two
  .exact⟨p,b1,.inr ⟨x,(hb _ rfl).1,(hb _ rfl).2,rfl,rfl⟩⟩
  .simp only[Fm]at hb |-;have hd:=p0V h (l:=l) (a:=p) b1 l.length 0 0 (by omega) (by omega);rw[Ac]at hd;rw[hd];cases hs2:s1 N D (l.drop p) 0 0 with
   | none=>exact⟨l.length,J4 _,.inl ⟨rfl,rfl⟩⟩
   | some yq=>
    obtain⟨y,q⟩:=yq;obtain⟨b3,b4⟩:=l0g h hs2;rw[Ah]at b3;rw[hs2]at hb;exact⟨p+q,by omega,.inr ⟨(x:Int)-(y:Int),(hb _ rfl).1,(hb _ rfl).2,rfl,rfl⟩⟩
def x0h {N D:Nat}(h:N<D)(two:Bool)(n:Nat):rIn (f0h two (b0L (a0C N D) (a0i N D) n (n+1)).2 n) n (n+1)=gL N D two n/\∀ i,i<=n->(f0h two (b0L (a0C N D) (a0i N D) n (n+1)).2 n).getD i 0*2 ^ (n-i)<=rIn (f0h two (b0L (a0C N D) (a0i N D) n (n+1)).2 n) n i:=by
 have hs:a0k (fun i=>(f0h two (b0L (a0C N D) (a0i N D) n (n+1)).2 n).getD i 0*2 ^ (n-i)) (n+1)=if two=true then cw n (d0y N D) else cw n (f0A N D):=by
  cases two
  .exact i0g h n (J4 n)
  .rw[J2 rfl,<- m0s h n (J4 n)];unfold f0h;rw[J2 rfl];refine a0d fun i hi=>?_
   rw[u0P (by omega)];rfl
 have hle:a0k (fun i=>(f0h two (b0L (a0C N D) (a0i N D) n (n+1)).2 n).getD i 0*2 ^ (n-i)) (n+1)<=2 ^ n:=by
  rw[hs];have h1:=k0H (d0y N D) n;have h2:=k0H (f0A N D) n
  split<;>omega
 refine⟨?_,z0i hle⟩;rw[l0i hle _ nr0,hs];cases two
 .exact (v0y N D n).symm
 .exact (r0s N D n).symm
open Go.Shelf
open Go.Lib (decDigits nDigits)
def e0s (u:Int):Bool:=decide (u < -1125899906842624) || decide (1125899906842624<u)
def v0u (p:Int->Bool)(l:List Int):Int:=if l.any p=true then (l.findIdx p:Nat) else -1
def j0R (w:World)(v:Value)(l:List Int)(F:Nat)(p:Int->Bool)(hv:Row w v (zs l))(hl:l.length<=9223372036854775807)(hen:∀ args w,(callFunc F args).run Tryz.prog w=.ok (.enter F args) w)
 (hF:∀ W x,Calls Tryz.prog F #[.int .i64 x] W fun e w'=>e=.returned (.bool (p x))/\W=w'):
 Calls Tryz.prog 203 #[v,.func (.func F) #[] #[]] w fun e w'=>e=.returned (.int .i64 (v0u p l))/\w=w':=by
 obtain⟨a,c,rfl,q1,q2,q3⟩:=hv.openZ;obtain⟨n,hn⟩:=gn (l.length);rw[hn]at q1 hl |-;have HN:=hid hn;have Q3:=hid q3;have HF:=hid hF;clear hv q3 hn hF;go_enter Tryz.func203,Tryz.ntmps203;go_wp2_with fail
 go_loop [8] (fun ii=>∃ i:Nat,ii=.int .i64 i/\i<=n/\Hid (∀ j x,j<i->l[j]?=some x->p x=false)) (fun ii=>n-(intOf ii).toNat)
 case atStart=>exact⟨0,rfl,S4 _,fun j x hj=>absurd hj (by omega)⟩
 case round=>
  obtain⟨i,rfl,hi,hI⟩:=hrel;by_cases hlt:i<n
  .obtain⟨x,hx⟩:∃ x,l[i]?=some x:=⟨_,J0 (by rw[HN.out];exact hlt)⟩;obtain⟨g,o,rfl,hg,hc⟩:=Q3.out i x hx;have HX:=hid hx;have b1:(0:Int)<=(i:Int):=by omega
   have b2:(i:Int)<(n:Int):=by omega
   have wi:IntKind.i64.wrap ((i:Int)+1)=((i+1:Nat):Int):=by rw[Q0 _ ⟨by omega,by omega⟩];omega
   obtain⟨z,hz⟩:=gn (p x);have C:=fun W=>hid (hz ▸ HF.out W x)
   have HZ:=hid hz;clear hx hz;go_wp2_with fail;refine (C _).out.mono ?_;rintro e w1 ⟨rfl,rfl⟩;cases z
   .go_wp2_with fail;go_round
    case rel=>exact⟨i+1,by go_num,by omega,fun j y hj hy=>by
     rcases Cc j i with h | h
     .exact hI.out j y h hy
     .obtain rfl:j=i:=by omega
      rw[HX.out]at hy;cases hy;exact HZ.out⟩
    case measure=>simp[intOf]<;>omega
   .have hA:l.any p=true:=Cm.2 ⟨x,C7 HX.out,HZ.out⟩;have hfi:l.findIdx p=i:=by
     have hil:i<l.length:=by rw[HN.out];exact hlt
     rw[List.findIdx_eq hil];refine⟨?_,fun j hj=>?_⟩
     .have:=HX.out;rw[J0 hil]at this;rw[J9 this];exact HZ.out
     .exact hI.out j _ hj (J0 (Ny hj hil))
    have HE:=hid (show v0u p l=(i:Int) from by rw[v0u,J2 hA,hfi]);clear hA hfi;go_wp2_with fail;go_ret
    exact⟨by rw[HE.out];rfl,rfl⟩
  .obtain rfl:i=n:=by omega
   have hA:¬ l.any p=true:=fun h=>by
    obtain⟨x,hx,hp⟩:=Cm.1 h;obtain⟨j,hj⟩:=Cp hx;have:=hI.out j x (by rw[<- HN.out];exact (O4.1 hj).1) hj;rw[this]at hp;cases hp
   have HE:=hid (show v0u p l = -1 from by rw[v0u,U0 hA]);clear hA hlt;go_wp2_with fail;go_ret
   exact⟨by rw[HE.out];rfl,rfl⟩
def g0w (w:World)(v:Value)(l:List Int)(F:Nat)(p:Int->Bool)(hv:Row w v (zs l))(hl:l.length<=9223372036854775807)(hen:∀ args w,(callFunc F args).run Tryz.prog w=.ok (.enter F args) w)
 (hF:∀ W x,Calls Tryz.prog F #[.int .i64 x] W fun e w'=>e=.returned (.bool (p x))/\W=w'):
 Calls Tryz.prog 131 #[v,.func (.func F) #[] #[]] w fun e w'=>e=.returned (.bool (l.any p))/\w=w':=by
 have HI:=hid (j0R w v l F p hv hl hen hF)
 have HB:=hid (show decide (0<=v0u p l)=l.any p from by
  unfold v0u;cases h:l.any p
  .rw[U0 (by simp)];rfl
  .rw[J2 rfl];simp)
 rw[<- HB.out];obtain⟨a,c,rfl,-⟩:=hv.openZ;generalize v0u p l=z at *
 clear hF hv;go_enter Tryz.func131,Tryz.ntmps131;go_wp2_with fail;refine HI.out.mono ?_;rintro e w1 ⟨rfl,rfl⟩;go_wp2_with fail;go_ret
 exact⟨rfl,rfl⟩
end
end Go.Proofs.YtfkpfpobmobnbaaGreatDoor
