/- Texts that the proof rests on, merged: Lr3, Lr4, Rlw, Rlx, R2u, Rb4, Rg2, Rg3, Lr2, Rg4, KoI, KoB, PkC. -/
import Derived.Test.YtfkpfpobmobnbaaGreatDoorPa13
set_option linter.defProp false
set_option linter.unusedVariables false
set_option linter.unusedSimpArgs false
set_option linter.unusedSectionVars false
set_option maxRecDepth 100000
set_option maxHeartbeats 8000000
namespace Go.Proofs.YtfkpfpobmobnbaaGreatDoor
section
open Go.RowKit Go.Shelf
open Go.Lib (decDigits nDigits)
def cF (N D n:Nat)(two:Bool)(i j:Nat):Nat:=if two=true then c3 N D n i 0 0 ((j:Int)-n) else o3 N D n i j
def y0m (N D n:Nat)(two:Bool)(j:Nat):cF N D n two 0 j=0:=by
 unfold cF
 split
 .rw[y0n]
 .exact w0S N D n j
def a1O {N D n:Nat}(h:N<D){two:Bool}{j:Nat}(hj:j<=2*n):cF N D n two (n+1) j=gV N D two n ((j:Int)-n):=by
 unfold cF;cases two
 .rw[U0 (by simp)];exact z0A h hj
 .rw[J2 rfl];exact v0I h n _
def b1A {x n:Nat}(h:x<=2 ^ n)(hn:n<=32):(limbs x).length<=1000000:=a0x (a0b h (by omega))
def r0L (w:World)(a:ByteArray)(n:Nat)(two:Bool)(ha:a.size<=100000)(he:gPE a=0)(hn:n<=32)(h0:a≠⟨#[48]⟩):
 Calls Tryz.prog 170 #[.string a,.int .i64 (n:Nat),.bool two] w fun e w'=>(∃ u,e=.returned (.tuple #[u,.int .i64 0])/\MRow w' u (a0y (glP (gV (bN (cW a)) (bN (qD a)) two n) (2 ^ n) n (gL (bN (cW a)) (bN (qD a)) two n))))/\Below w.heap.size w w':=by
 have HA:=hid (b0V w a (by omega));rw[he]at HA;obtain⟨hq,hm⟩:=i0o he;have HR:=fun V=>hid (i0s V a (by omega))
 rw[hq,b0O hm,hm]at HR;obtain⟨N,hN⟩:=gn (bN (cW a));obtain⟨D,hD⟩:=gn (bN (qD a));have hND:=(c0h he).2;have hpos:=g0C he h0;have hdg:∀ j,j<=n->nDigits (N*2 ^ j)<=4000:=fun j hj=>by rw[<- hN];exact j0U he (by omega)
 rw[hN]at HR hND hpos;rw[hD]at HR hND;rw[hN,hD];have HT:=fun V m v1 v2 k1 k2=>hid (u0F V m v1 v2 N D n hn hpos hND k1 k2 hdg)
 have HND:=hid hND;have HN:=hid hn;have n0:(decide ((n:Int)<0))=false:=by simp
 have n1:(decide ((32:Int)<(n:Int)))=false:=by simp;omega
 have ze:(a.toList == [48])=false:=a0L h0;clear ha he hq hm hN hD hND hpos hdg h0;go_enter Tryz.func170,Tryz.ntmps170;go_wp2_with fail;refine HA.out.mono ?_;rintro e w1 ⟨rfl,hb1⟩;have B1:=hid hb1;clear hb1 HA;go_wp2_with fail;refine (HR _).out.mono ?_;rintro e w2 ⟨⟨v,rfl,hv,-⟩,hb2⟩;obtain⟨vN,vD,rfl,hvN,hvD⟩:=hv rfl;obtain⟨aN,cN,rfl,-,-,-⟩:=hvN.openI;obtain⟨aD,cD,rfl,-,-,-⟩:=hvD.openI;have B2:=hid (a0a B1.out hb2);obtain⟨lN,hlN⟩:=gn ((limbs N).length);obtain⟨lD,hlD⟩:=gn ((limbs D).length);rw[hlN]at hvN |-;rw[hlD]at hvD |-;have C2:=hid ((Z3 w2.heap.size w2).alloc nr0 (.cells #[.bool false,.slice aN lN cN,.slice aD lD cD] 81));have VN:=hid (hvN.call C2.out);have VD:=hid (hvD.call C2.out);have B3:=hid (a0a B2.out C2.out);clear hv hb2 hvN hvD hlN hlD HR;go_wp2_with fail;refine (HT _ _ _ _ VN.out VD.out).out.mono ?_;rintro e WL ⟨⟨vl,rfl,hl⟩,hbl⟩;obtain⟨gs,cs,rfl,s1,s2,s3,s4⟩:=hl.open;have SL:Hid (gs<WL.heap.size):=s3;have SE:=hid s4;have BL:=hid (a0a B3.out hbl);clear hl hbl s3 s4 HT VN VD;have HZ:=fun V=>hid (e0S V (2*n) (by have:=HN.out;omega))
 obtain⟨M,hM⟩:=gn (2*n);rw[hM]at HZ;have w2n:IntKind.i64.wrap (2*(n:Int))=(M:Int):=by have:=HN.out;rw[Q0 _ ⟨by omega,by omega⟩];omega
 have HM:=hid hM;clear hM hn;go_wp2_with fail;refine (HZ _).out.mono ?_;rintro e w4 ⟨⟨g,c,rfl,ht⟩,hb4⟩;have T4:Hid (NTab WL.heap.size w4 g (M+1) c (cF N D n two 0)):=ht.fn fun j _=>(y0m N D n two j).symm
 have B4:=hid hb4;clear ht hb4 HZ;go_wp2_with fail;refine (w0v _ n (by have:=HN.out;omega)).mono ?_;rintro e w5 ⟨⟨vt,rfl,hvt,hft⟩,hb5⟩;have V5:=hid hvt;have F5:Hid (vt.ownBlock≠some g):=fun e=>by
  have h1:=hft g e;have h2:=T4.out.slot.2.1;omega
 have T5:=hid (T4.out.call hb5);have B5:=hid (a0a B4.out hb5);have GL:Hid (WL.heap.size<=g):=T4.out.slot.1;clear hvt hft hb5 T4 B4 w2n;go_wp2_with fail;have f0:(0:Int)<=(n:Int):=by omega
 have f1':(n:Int)<(n:Int)+1:=by omega
 have HDW:Hid (∀ k m,m<=n->nDigits (cvo (edn N D k) pw2 m)<=4000):=fun k m hm=>by
  rw[<- e0q HND.out];exact a0b (r0U _ _) (by have:=HN.out;omega)
 go_loopw [14,15,16,17] (fun s14 s15 s16 s17 wr=>∃ i:Nat,s14=.int .i64 (i:Nat)/\i<=n+1/\Hid (NTab WL.heap.size wr g (M+1) c (cF N D n two i))/\Hid (IsN .i64 wr vt (2 ^ n))/\Hid (Below WL.heap.size WL wr)) (fun s14 s15 s16 s17 wr=>n+1-(intOf s14).toNat)
 case atStart=>exact⟨0,rfl,S4 _,T5,V5,B5⟩
 case round=>
  clear T5 V5 B5;obtain⟨i,rfl,hi,hT,hV,hB⟩:=hrel;by_cases hlt:i<=n
  .have d0:decide (i<=n)=true:=by simp;omega
   have e0:(0:Int)<=(i:Int):=by omega
   have e1:(i:Int)<((n+1:Nat):Int):=by omega
   have e1':(i:Int)<(n:Int)+1:=by omega
   have wi:IntKind.i64.wrap ((i:Int)+1)=((i+1:Nat):Int):=by have:=HN.out;rw[Q0 _ ⟨by omega,by omega⟩];omega
   have IL:=hid hlt;obtain⟨x,hx1,hx2⟩:=SE.out i hlt;have cx:wr.cell? ⟨gs,i,none⟩=some x:=(hB.out.cell (p:=⟨gs,i,none⟩) SL.out).trans hx1;have XR:=hid (hx2.call hB.out);clear hx1 hx2 hi hlt;go_wp2_with fail;refine (k0C _ _ n (edn N D i) (by have:=HN.out;omega) XR.out (fun m hm=>HDW.out i m hm)).mono ?_;rintro e w6 ⟨⟨gd,cd,rfl,htd⟩,hb6⟩;have TD:=hid htd;have T6:=hid (hT.out.call hb6);have V6:=hid (hV.out.call hb6);have B6:=hid (hB.out.trans (hb6.mono hB.out.size));have GD:Hid (g<wr.heap.size):=hT.out.slot.2.1;obtain⟨BD,hBD⟩:=gn (wr.heap.size);rw[hBD]at TD GD;clear htd hb6 hT hV hB XR cx hBD;cases two
   .obtain⟨y,cy,hy,hy2⟩:=TD.out.at (i:=n) (by omega);obtain⟨ay,cy9,rfl,-,-,-⟩:=hy.openI;obtain⟨ly,hly⟩:=gn ((limbs (cvo (edn N D i) pw2 n)).length);rw[hly]at hy hy2 cy;obtain⟨J,hJ⟩:=gn (n+i);have HJ:Hid (n+i=J/\J<=M):=⟨hJ,by have:=HM.out;have:=IL.out;omega⟩;have ws:IntKind.i64.wrap ((n:Int)+(i:Int))=(J:Int):=by have:=HN.out;have:=IL.out;rw[Q0 _ ⟨by omega,by omega⟩];omega
    have j0:(0:Int)<=(J:Int):=by omega
    have j1:(J:Int)<((M+1:Nat):Int):=by have:=HJ.out;omega
    have j1':(J:Int)<(M:Int)+1:=by have:=HJ.out;omega
    have fr:=T6.out.slot.2.2.2.2 J;obtain⟨z,cz,-,-⟩:=T6.out.at (i:=J) (by have:=HJ.out;omega);have Z1:Hid (cvo (edn N D i) pw2 n=0\/∀ g',(Value.slice ay ly cy9).ownBlock=some g'->WL.heap.size<=g'/\g'≠g):=hy2.imp id fun k g' hg'=>by
     have h1:=(k g' hg').1;have h2:=GD.out;have h3:=GL.out;exact⟨by omega,by omega⟩
    have T7:Hid (NTab WL.heap.size (w6.setCell ⟨g,J,none⟩ (.slice ay ly cy9)) g (M+1) c (cF N D n false (i+1))):=(T6.out.put J hy Z1.out).fn fun j hj=>by
     have e:cF N D n false (i+1) j=o3 N D n (i+1) j:=rfl;have e':cF N D n false i j=o3 N D n i j:=rfl;rw[e,e',w0T HND.out];by_cases hc:j=J
     .rw[J2 hc,J2 (by have:=HJ.out;omega)]
     .rw[U0 hc,U0 (by have:=HJ.out;omega)]
    have V7:=hid (d0r V6.out (a:=⟨g,J,none⟩) (.inr F5.out) (.slice ay ly cy9));have B7:=hid (B6.out.setCell (p:=⟨g,J,none⟩) GL.out (.slice ay ly cy9));clear hy hy2 hly hJ;go_wp2_with fail
    try simp only[b0h]
    go_roundw
    case rel=>exact⟨i+1,by go_num,by have:=IL.out;omega,T7,V7,B7⟩
    case measure=>simp[intOf]<;>(have:=IL.out;omega)
   .go_wp2_with fail;have T7:Hid (NTab WL.heap.size w6 g (M+1) c (fun j=>c3 N D n i 0 0 ((j:Int)-n))):=T6.out
    go_loopw [16,17] (fun s16 s17 wr2=>∃ k:Nat,s16=.int .i64 (k:Nat)/\k<=n+1/\Hid (NTab WL.heap.size wr2 g (M+1) c (fun j=>c3 N D n i k 0 ((j:Int)-n)))/\Hid (NTab BD wr2 gd (n+1) cd (cvo (edn N D i) pw2))/\Hid (IsN .i64 wr2 vt (2 ^ n))/\Hid (Below WL.heap.size WL wr2)) (fun s16 s17 wr2=>n+1-(intOf s16).toNat)
    case atStart=>exact⟨0,rfl,S4 _,T7,TD,V6,B6⟩
    case round=>
     clear T6 T7 TD V6 B6;obtain⟨k,rfl,hk,hT,hG,hV,hB⟩:=hrel;by_cases hlt:k<=n
     .have d1:decide (k<=n)=true:=by simp;omega
      have wk:IntKind.i64.wrap ((k:Int)+1)=((k+1:Nat):Int):=by have:=HN.out;rw[Q0 _ ⟨by omega,by omega⟩];omega
      have KL:=hid hlt;clear hk hlt;go_wp2_with fail
      go_loopw [17] (fun s17 wr3=>∃ s:Nat,s17=.int .i64 (s:Nat)/\s<=n+1/\Hid (NTab WL.heap.size wr3 g (M+1) c (fun j=>c3 N D n i k s ((j:Int)-n)))/\Hid (NTab BD wr3 gd (n+1) cd (cvo (edn N D i) pw2))/\Hid (IsN .i64 wr3 vt (2 ^ n))/\Hid (Below WL.heap.size WL wr3)) (fun s17 wr3=>n+1-(intOf s17).toNat)
      case atStart=>exact⟨0,rfl,S4 _,hT,hG,hV,hB⟩
      case round=>
       clear hT hG hV hB;obtain⟨s,rfl,hs,hT,hG,hV,hB⟩:=hrel;by_cases hlt:s<=n
       .have d2:decide (s<=n)=true:=by simp;omega
        have wsx:IntKind.i64.wrap ((s:Int)+1)=((s+1:Nat):Int):=by have:=HN.out;rw[Q0 _ ⟨by omega,by omega⟩];omega
        have SLE:=hid hlt;obtain⟨T,hTT⟩:=gn (n+k);obtain⟨J,hJ⟩:=gn (T-i);obtain⟨U,hU⟩:=gn (n-s);have HJ:Hid (n+k=T/\i<=T/\T-i=J/\J<=M/\(k:Int)-(i:Int)=(J:Int)-(n:Int)):=⟨hTT,by have:=IL.out;omega,hJ,by have:=HM.out;have:=IL.out;have:=KL.out;omega,by have:=IL.out;omega⟩;have HU:Hid (n-s=U/\U<=n):=⟨hU,by omega⟩;have w1:IntKind.i64.wrap ((n:Int)+(k:Int))=(T:Int):=by have:=HN.out;have:=KL.out;rw[Q0 _ ⟨by omega,by omega⟩];omega
        have w2':IntKind.i64.wrap ((T:Int)-(i:Int))=(J:Int):=by have:=HN.out;have:=KL.out;have:=IL.out;rw[Q0 _ ⟨by omega,by omega⟩];omega
        have w3:IntKind.i64.wrap ((n:Int)-(s:Int))=(U:Int):=by have:=HN.out;rw[Q0 _ ⟨by omega,by omega⟩];omega
        have j0:(0:Int)<=(J:Int):=by omega
        have j1:(J:Int)<((M+1:Nat):Int):=by have:=HJ.out;omega
        have j1':(J:Int)<(M:Int)+1:=by have:=HJ.out;omega
        have u0:(0:Int)<=(U:Int):=by omega
        have u1:(U:Int)<((n+1:Nat):Int):=by have:=HU.out;omega
        have u1':(U:Int)<(n:Int)+1:=by have:=HU.out;omega
        have k0:(0:Int)<=(k:Int):=by omega
        have k1:(k:Int)<((n+1:Nat):Int):=by have:=KL.out;omega
        have k1':(k:Int)<(n:Int)+1:=by have:=KL.out;omega
        have s0:(0:Int)<=(s:Int):=by omega
        have s1:(s:Int)<((n+1:Nat):Int):=by omega
        have s1':(s:Int)<(n:Int)+1:=by omega
        obtain⟨x1,cx1,hx1,-⟩:=hT.out.at (i:=J) (by have:=HJ.out;omega);obtain⟨tk,htk,hrk⟩:=SE.out k KL.out;obtain⟨at',ct',rfl,p1,p2⟩:=hrk.openA;obtain⟨gt,ot,x2,rfl,hgt,hx2c,hx2⟩:=hrk.el (i:=s) (by omega);obtain⟨x3,cx3,hx3,-⟩:=hG.out.at (i:=U) (by have:=HU.out;omega);have ck:wr.cell? ⟨gs,k,none⟩=some (.slice (some ⟨gt,ot,none⟩) (n+1) ct'):=(hB.out.cell (p:=⟨gs,k,none⟩) SL.out).trans htk;have cx2:wr.cell? ⟨gt,ot+s,none⟩=some x2:=(hB.out.cell (p:=⟨gt,ot+s,none⟩) hgt).trans hx2c;have X1:=hid hx1;have X2:=hid (hx2.call hB.out);have X3:=hid hx3;have EY:cvo (edn N D i) pw2 U=cw (n-s) (h0p N D i):=by rw[<- e0q HND.out,HU.out.1]
        have STP:Hid (c3 N D n i k s ((J:Int)-n)+edn N D k s*cvo (edn N D i) pw2 U=c3 N D n i k (s+1) ((J:Int)-n)):=by
         show _=_
         rw[b1P,EY];unfold j0t;rw[J2 HJ.out.2.2.2.2.symm]
        have LE:Hid (c3 N D n i k (s+1) ((J:Int)-n)<=2 ^ n):=O0 (b1Q HND.out IL.out KL.out (by have:=SLE.out;omega) _) (k0x HND.out true n _);have L1:Hid ((limbs (c3 N D n i k s ((J:Int)-n))).length<=1000000):=b1A (O0 (by rw[<- STP.out];omega) LE.out) HN.out;have L2:Hid ((limbs (edn N D k s)).length<=1000000):=a0x (O0 (a0r (i0Z _ _)) (HDW.out k s hlt));have L3:Hid ((limbs (cvo (edn N D i) pw2 U)).length<=1000000):=a0x (HDW.out i U HU.out.2);have L4:Hid ((limbs (edn N D k s*cvo (edn N D i) pw2 U)).length<=1000000):=b1A (O0 (by rw[<- STP.out];omega) LE.out) HN.out;clear hTT hJ hU hx1 hx2 hx3 hrk htk hx2c hgt hs hlt EY;go_wp2_with fail;refine b0a 29 2 [0,1,2,3,4,5,6,7,8,9,10,11,12,13,14,15,16,17,18,19,20,21,22,23,24,25,26] 2 (fun W'=>W'.cell? ⟨g,J,none⟩=some x1/\W'.cell? ⟨gs,k,none⟩=some (.slice (some ⟨gt,ot,none⟩) (n+1) ct')/\W'.cell? ⟨gt,ot+s,none⟩=some x2/\W'.cell? ⟨gd,U,none⟩=some x3) (by kernel_rfl) rfl (by kernel_rfl) (by kernel_rfl) (by kernel_rfl) (by kernel_rfl) ⟨cx1,ck,cx2,cx3⟩ ?_
        iterate 27
         refine⟨_,rfl,?_⟩;apply Exists.intro
         refine⟨.inl ⟨by rfl,?_⟩,?_⟩
         .rintro W' ⟨r1,r2,r3,r4⟩;go_simp;try with_reducible rfl
         go_frame
        refine a0c (i:=27) (by kernel_rfl) (by rfl) (by rfl) ?_;go_wp2_with fail;refine (b0m _ _ _ _ _ (X2.out.call br0.drew) (X3.out.call br0.drew) L2.out L3.out).mono ?_;rintro e wa ⟨⟨vp,rfl,hvp⟩,hba⟩;have A1:=hid (show Below wr.heap.size wr wa from br0.drew.trans hba);have VP:=hid hvp;have m1:=(A1.out.cell (a0e cx1)).trans cx1;have m2:=(A1.out.cell (a0e ck)).trans ck;have m3:=(A1.out.cell (a0e cx2)).trans cx2;have m4:=(A1.out.cell (a0e cx3)).trans cx3;clear hba hvp cx1 ck cx2 cx3;go_wp2_with fail;refine⟨⟨m1,m2,m3,m4⟩,?_⟩;refine a0c (i:=28) (by kernel_rfl) (by rfl) (by rfl) ?_;go_wp2_with fail;refine (c0z _ _ _ _ _ (X1.out.call A1.out) VP.out L1.out L4.out).mono ?_;rintro e wb ⟨⟨vs,rfl,hvs,hfs⟩,hbb⟩;have hvs':=hvs.cast STP.out;obtain⟨as1,cs1,rfl,-,-,-⟩:=hvs'.openI;obtain⟨ls1,hls⟩:=gn ((limbs (c3 N D n i k (s+1) ((J:Int)-n))).length);rw[hls]at hvs' hfs |-;have A2:=hid (a0a A1.out hbb);have VS:=hid hvs';have FS:Hid (∀ g',(Value.slice as1 ls1 cs1).ownBlock=some g'->WL.heap.size<=g'/\g'≠g):=fun g' hg'=>by
         have h1:wa.heap.size<=g':=hfs g' hg';have h2:=hT.out.slot;have h3:=hB.out.size;have h4:=A1.out.size;exact⟨by omega,by omega⟩
        have y1:=(hbb.cell (a0e m1)).trans m1;have y2:=(hbb.cell (a0e m2)).trans m2;have y3:=(hbb.cell (a0e m3)).trans m3;have y4:=(hbb.cell (a0e m4)).trans m4;clear hbb hvs hvs' hfs hls m1 m2 m3 m4;go_wp2_with fail;refine⟨⟨y1,y2,y3,y4⟩,?_⟩;refine H8 (by kernel_rfl) ?_ _;simp only[b0h,c0w,Ab,A9];have TA:=hid (hT.out.call A2.out);have fr:=TA.out.slot.2.2.2.2 J;have TB:Hid (NTab WL.heap.size (wb.setCell ⟨g,J,none⟩ (.slice as1 ls1 cs1)) g (M+1) c (fun j=>c3 N D n i k (s+1) ((j:Int)-n))):=(TA.out.put J VS.out (.inr FS.out)).fn fun j hj=>by
         rw[b1P];unfold j0t;have hh:=HJ.out.2.2.2.2;by_cases hc:j=J
         .have:=STP.out;rw[b1P]at this;unfold j0t at this;rw[J2 hc,hc]
         .rw[U0 hc,U0 (by omega)]
        have GB:=hid ((hG.out.call A2.out).other (a:=⟨g,J,none⟩) GD.out (.slice as1 ls1 cs1));have VB:=hid (d0r (hV.out.call A2.out) (a:=⟨g,J,none⟩) (.inr F5.out) (.slice as1 ls1 cs1));have BB:=hid ((hB.out.trans (A2.out.mono hB.out.size)).setCell (p:=⟨g,J,none⟩) GL.out (.slice as1 ls1 cs1));clear y2 y3 y4;go_wp2_with fail
        try simp only[b0h]
        go_roundw
        case rel=>exact⟨s+1,by go_num,by have:=SLE.out;omega,TB,GB,VB,BB⟩
        case measure=>simp[intOf]<;>(have:=SLE.out;omega)
       .have e1:s=n+1:=by omega
        subst e1;have d2:decide ((n:Int)+1<=(n:Int))=false:=by simp;omega
        have TE:Hid (NTab WL.heap.size wr g (M+1) c (fun j=>c3 N D n i (k+1) 0 ((j:Int)-n))):=hT.out.fn fun j hj=>by rw[c1m]
        clear hs hlt;go_wp2_with fail;go_roundw
        case rel=>exact⟨k+1,by go_num,by have:=KL.out;omega,TE,hG,hV,hB⟩
        case measure=>simp[intOf]<;>(have:=KL.out;omega)
     .have e1:k=n+1:=by omega
      subst e1;have d2:decide ((n:Int)+1<=(n:Int))=false:=by simp;omega
      have TE:Hid (NTab WL.heap.size wr g (M+1) c (cF N D n true (i+1))):=hT.out.fn fun j hj=>by
       show c3 N D n i (n+1) 0 ((j:Int)-n)=c3 N D n (i+1) 0 0 ((j:Int)-n)
       rw[c1n]
      clear hk hlt;go_wp2_with fail;go_roundw
      case rel=>exact⟨i+1,by go_num,by have:=IL.out;omega,TE,hV,hB⟩
      case measure=>simp[intOf]<;>(have:=IL.out;omega)
  .have e1:i=n+1:=by omega
   have d2:decide (i<=n)=false:=by simp;omega
   rw[e1]at hT;have TE:Hid (NTab WL.heap.size wr g (M+1) c (fun j=>gV N D two n ((j:Int)-n))):=hT.out.fn fun j hj=>a1O HND.out (by have:=HM.out;omega)
   have HVD:Hid (∀ v,nDigits (gV N D two n v)<=4000):=fun v=>a1e HND.out two v (by have:=HN.out;omega)
   have HPD:Hid (nDigits (2 ^ n)<=4000):=a0b nr0 (by have:=HN.out;omega);have HLD:Hid (nDigits (gL N D two n)<=4000):=a1h HND.out two (by have:=HN.out;omega);have HV2:Hid (∀ v,gV N D two n v<=2 ^ 256):=fun v=>O0 (k0x HND.out two n v) (H6 (by omega) (by have:=HN.out;omega))
   have HL2:Hid (gL N D two n<=2 ^ 256):=O0 (a1g HND.out two n) (H6 (by omega) (by have:=HN.out;omega));have HLF:Hid (∀ i,(limbs (lfI (gV N D two n) (2 ^ n) n i)).length<=1000000):=fun i=>b1A (Ls _ _) HN.out
   have HLE:Hid (∀ i,i<M+1->gV N D two n ((i:Int)-n)<=lfI (gV N D two n) (2 ^ n) n i):=fun i hi=>z0N HND.out (by have:=HM.out;omega)
   have HEND:Hid (lfI (gV N D two n) (2 ^ n) n (M+1)=gL N D two n):=by
    show _=_
    rw[<- HM.out];exact x0e HND.out two n
   have HSh:=fun V u x hu hx=>hid (m0J V u x n hu (by have:=HN.out;omega) hx)
   have HADD:Hid (∀ i,j0p (a0y (glI (gV N D two n) (2 ^ n) n i)) (zB ((i:Int)-n)) (shB (gV N D two n ((i:Int)-n)) (2 ^ n))=a0y (glI (gV N D two n) (2 ^ n) n (i+1))):=fun i=>x0s (m0p n) (HVD.out _) HPD.out
   have HLAT:Hid (j0p (a0y (glI (gV N D two n) (2 ^ n) n (M+1))) b0o (shB (gL N D two n) (2 ^ n))=a0y (glP (gV N D two n) (2 ^ n) n (gL N D two n))):=by
    show _=_
    rw[<- HM.out];exact u0l (m0p n) HLD.out HPD.out
   have V0:Hid (IsN .i64 wr vt (lfI (gV N D two n) (2 ^ n) n 0)):=by
    show IsN _ _ _ _
    rw[u0a];exact hV.out
   have M0:Hid (MRow wr (.slice none 0 0) (a0y (glI (gV N D two n) (2 ^ n) n 0))):=by
    show MRow _ _ _
    rw[show a0y (glI (gV N D two n) (2 ^ n) n 0) = [] by simp[a0y,glI]];exact MRow.nil _
   have HMB:Hid (M<=64):=by show M<=64;have:=HM.out;have:=HN.out;omega
   clear hi hlt hV hT e1;go_wp2_with fail
   go_loopw [13,18,19] (fun s13 s18 s19 wr=>∃ i:Nat,s19=.int .i64 (i:Nat)/\i<=M+1/\Hid (IsN .i64 wr s13 (lfI (gV N D two n) (2 ^ n) n i))/\Hid (MRow wr s18 (a0y (glI (gV N D two n) (2 ^ n) n i)))/\Hid (NTab WL.heap.size wr g (M+1) c (fun j=>gV N D two n ((j:Int)-n)))/\Hid (Below WL.heap.size WL wr)) (fun s13 s18 s19 wr=>M+1-(intOf s19).toNat)
   case atStart=>exact⟨0,rfl,S4 _,V0,M0,TE,hB⟩
   case round=>
    clear V0 TE hB M0;obtain⟨i,rfl,hi,hV,hM,hT,hB⟩:=hrel;by_cases hlt:i<M+1
    .have d1:decide ((i:Int)<(M:Int)+1)=true:=by simp;omega
     have e0:(0:Int)<=(i:Int):=by omega
     have e1:(i:Int)<((M+1:Nat):Int):=by omega
     have e1':(i:Int)<(M:Int)+1:=by omega
     have wi:IntKind.i64.wrap ((i:Int)+1)=((i+1:Nat):Int):=by have:=HMB.out;rw[Q0 _ ⟨by omega,by omega⟩];omega
     have ws:IntKind.i64.wrap ((i:Int)-(n:Int))=(i:Int)-(n:Int):=by have:=HMB.out;have:=HN.out;rw[Q0 _ ⟨by omega,by omega⟩]
     have IL:=hid hlt;obtain⟨x,cx,hx,-⟩:=hT.out.at (i:=i) hlt;have XN:=hid hx;have HI:=fun V=>hid (q0e V ((i:Int)-n) (by have:=HN.out;omega) (by have:=HMB.out;omega))
     have RA:=fun V u key p hu=>hid (m0H V u (a0y (glI (gV N D two n) (2 ^ n) n i)) key p hu (by rw[c0b];have:=r0o (gV N D two n) (2 ^ n) n i;have:=HMB.out;omega))
     clear hx hi hlt;go_wp2_with fail;refine a0m [0,1,2,3,5,6,7,8,9] 4 (fun W'=>W'.cell? ⟨g,i,none⟩=some x) (by kernel_rfl) (by kernel_rfl) (by kernel_rfl) (by kernel_rfl) cx ?_
     iterate 9
      refine⟨_,rfl,?_⟩;apply Exists.intro
      refine⟨.inl ⟨by rfl,?_⟩,?_⟩
      ·(intro W' hW';obtain r1:=hW';go_simp;try (with_reducible rfl))
      go_frame
     refine a0c (i:=4) (by kernel_rfl) (by rfl) (by rfl) ?_;go_wp2_with fail;refine (HI _).out.mono ?_;rintro e wa ⟨rfl,hba⟩;have A1:=hid (show Below wr.heap.size wr wa from br0.drew.trans hba);have m1:=(A1.out.cell (a0e cx)).trans cx;clear hba HI;go_wp2_with fail;refine⟨m1,?_⟩;refine a0c (i:=10) (by kernel_rfl) (by rfl) (by rfl) ?_;go_wp2_with fail;refine (HSh _ _ _ (XN.out.call A1.out) (HV2.out _)).out.mono ?_;rintro e wb ⟨rfl,hbb⟩;have A2:=hid (a0a A1.out hbb);have m2:=(hbb.cell (a0e m1)).trans m1;clear hbb m1;go_wp2_with fail;refine⟨m2,?_⟩;refine a0c (i:=11) (by kernel_rfl) (by rfl) (by rfl) ?_;go_wp2_with fail;refine (RA _ _ _ _ (hM.out.call A2.out)).out.mono ?_;rintro e wc ⟨⟨u,rfl,hu⟩,hbc⟩;rw[HADD.out i]at hu;have A3:=hid (a0a A2.out hbc);have MU:=hid hu;have m3:=(hbc.cell (a0e m2)).trans m2;clear hbc hu m2 RA;go_wp2_with fail;refine⟨m3,?_⟩;refine a0c (i:=12) (by kernel_rfl) (by rfl) (by rfl) ?_;go_wp2_with fail;refine⟨m3,?_⟩;refine H8 (by kernel_rfl) ?_ _;simp only[b0h];go_wp2_with fail;refine (e0E _ _ _ _ _ (hV.out.call A3.out) (XN.out.call A3.out) (HLE.out i IL.out) (HLF.out i)).mono ?_;rintro e wd ⟨⟨vr,rfl,hvr⟩,hbd⟩;rw[u0b]at hvr;have A4:=hid (a0a A3.out hbd);have VR:=hid hvr;have M4:=hid (MU.out.call hbd);have T4:=hid (hT.out.call A4.out);have B4:=hid (hB.out.trans (A4.out.mono hB.out.size));clear hbd hvr m3 cx;go_wp2_with fail;go_roundw
     case rel=>exact⟨i+1,by go_num,by have:=IL.out;omega,VR,M4,T4,B4⟩
     case measure=>simp[intOf]<;>(have:=IL.out;omega)
    .have e1:i=M+1:=by omega
     subst e1;have d1:decide ((M:Int)+1<(M:Int)+1)=false:=by simp
     have RA:=fun V u key p hu=>hid (m0H V u (a0y (glI (gV N D two n) (2 ^ n) n (M+1))) key p hu (by rw[c0b];have:=r0o (gV N D two n) (2 ^ n) n (M+1);have:=HMB.out;omega))
     have VL:=hid (hV.out.cast HEND.out);clear hi hlt hV;go_wp2_with fail;refine (HSh _ _ _ VL.out HL2.out).out.mono ?_;rintro e wb ⟨rfl,hbb⟩;have M1:=hid (hM.out.call hbb);have A1:=hid (a0a hB.out hbb);clear hbb;go_wp2_with fail;refine (RA _ _ _ _ M1.out).out.mono ?_;rintro e wc ⟨⟨u,rfl,hu⟩,hbc⟩;have A2:=hid (BL.out.trans ((a0a A1.out hbc).mono BL.out.size));rw[show (⟨#[108,97,116,101]⟩:ByteArray)=b0o from rfl,HLAT.out]at hu;have MU:=hid hu;clear hbc hu RA;go_wp2_with fail;go_ret2
     exact⟨⟨_,rfl,MU.out⟩,A2.out⟩
def a1w (w:World)(a:ByteArray)(n:Int)(two:Bool)(ha:a.size<=100000):
 Calls Tryz.prog 170 #[.string a,.int .i64 n,.bool two] w fun e w'=>(∃ v,e=.returned (.tuple #[v,.int .i64 (glE a n 32)])/\MRow w' v (glR a n two))/\Below w.heap.size w w':=by
 by_cases he:gPE a=0
 focus
  by_cases hn:n<0\/32<n
  focus
   have e1:glE a n 32=2:=by unfold glE;rw[U0 (by rw[he];simp),J2 hn]
   have e2:glR a n two = []:=by unfold glR;rw[U0 (by rw[e1];decide)]
   rw[e1,e2];have HA:=hid (b0V w a (by omega));rw[he]at HA;obtain⟨b1,k1⟩:=gn (decide (n<0));obtain⟨b2,k2⟩:=gn (decide (32<n));have k3:(b1 || b2)=true:=by rw[<- k1,<- k2];simpa using hn
   clear ha he hn e1 e2;cases b1
   focus
    obtain rfl:b2=true:=by simpa using k3
    clear k3
   rotate_left
   focus
    clear k2 k3
  rotate_left 2
  .obtain⟨m,rfl⟩:∃ m:Nat,n=(m:Nat):=⟨n.toNat,by omega⟩;have e1:glE a (m:Nat) 32=0:=by unfold glE;rw[U0 (by rw[he];simp),U0 hn]
   unfold glR;rw[J2 e1,e1,Be];by_cases h0:a=⟨#[48]⟩
   .obtain⟨q1,q2⟩:=h0F h0;rw[q1,q2,u0k (by omega)];have HA:=hid (b0V w a (by omega));rw[he]at HA;have ze:(a.toList == [48])=true:=by rw[h0];exact c0l
    have n0:(decide ((m:Int)<0))=false:=by simp
    have n1:(decide ((32:Int)<(m:Int)))=false:=by simp;omega
    clear ha he hn e1 q1 q2 h0;go_enter Tryz.func170,Tryz.ntmps170;go_wp2_with fail;refine HA.out.mono ?_;rintro e w1 ⟨rfl,hb1⟩;have B1:=hid hb1;clear hb1 HA;have K1:=hid (Blk.new w1 #[.string ⟨#[48]⟩,.string ⟨#[49]⟩] 42);have B2:=hid (B1.out.alloc B1.out.size (.cells #[.string ⟨#[48]⟩,.string ⟨#[49]⟩] 42));go_wp2_with fail;go_ret2
    refine⟨⟨_,rfl,?_⟩,B2.out⟩;refine⟨some ⟨w1.heap.size,0,none⟩,1,rfl,J4 _,by omega,fun i x hx=>?_⟩
    match i,hx with
    | 0,hx=>
     simp at hx;subst hx;exact⟨_,_,rfl,K1.out.lt,K1.out.cell 0,K1.out.cell 1⟩
   .exact r0L w a m two ha he (by omega) h0
 rotate_left 2
 focus
  have e1:glE a n 32=gPE a:=by unfold glE;rw[J2 he]
  have e2:glR a n two = []:=by unfold glR;rw[U0 (by rw[e1];exact he)]
  rw[e1,e2];have HA:=hid (b0V w a (by omega));obtain⟨x,hx⟩:=gn (gPE a);rw[hx]at HA he |-;have x0:(x != 0)=true:=by simpa using he
  clear ha he hx e1 e2
 all_goals
  go_enter Tryz.func170,Tryz.ntmps170;go_wp2_with fail;refine HA.out.mono ?_;rintro e w1 ⟨rfl,hb1⟩;have B1:=hid hb1;clear hb1 HA;go_wp2_with fail;go_ret2
  exact⟨⟨_,rfl,MRow.nil _⟩,B1.out⟩
def k0E (w:World)(a:ByteArray)(n:Int)(ha:a.size<=100000):
 Calls Tryz.prog 99 #[.string a,.int .i64 n] w fun e w'=>(∃ v,e=.returned (.tuple #[v,.int .i64 (glE a n 32)])/\MRow w' v (glR a n false))/\Below w.heap.size w w':=by
 have H:=hid (a1w w a n false ha);obtain⟨o,ho⟩:=gn (glR a n false);obtain⟨x,hx⟩:=gn (glE a n 32);rw[ho,hx]at H |-;clear ha ho hx;go_enter Tryz.func99,Tryz.ntmps99;go_wp2_with fail;refine H.out.mono ?_;rintro e w1 ⟨⟨v,rfl,hv⟩,hb1⟩;have B1:=hid hb1;have V1:=hid hv;clear hb1 hv;go_wp2_with fail;go_ret2
 exact⟨⟨_,rfl,V1.out⟩,B1.out⟩
def n0C {w:World}{b:Nat}{m0:Bool}{a0 b0:Option Addr}{n0 c0 n1 c1:Nat}{t:TypeId}(hb:Blk w b #[.bool m0,.slice a0 n0 c0,.slice b0 n1 c1] t)(m:Bool)(a a':Option Addr)(n c n' c':Nat){g i:Nat}{s:ByteArray}(h:w.cell? ⟨g,i,none⟩=some (.string s)):
 (((w.setCell ⟨b,0,none⟩ (.bool m)).setCell ⟨b,1,none⟩ (.slice a n c)).setCell ⟨b,2,none⟩ (.slice a' n' c')).cell? ⟨g,i,none⟩=some (.string s):=by
 have hne:g≠b:=by
  rintro rfl;rw[hb.cell]at h
  match i,h with
  | 0,h=>simp at h
  | 1,h=>simp at h
  | 2,h=>simp at h
  | i+3,h=>simp at h
 rw[<- h];unfold World.cell?;rw[Am _ _ _ _ (by simpa using hne),Am _ _ _ _ (by simpa using hne),Am _ _ _ _ (by simpa using hne)]
def t0U {w:World}{b:Nat}{m0:Bool}{a0 b0:Option Addr}{n0 c0 n1 c1:Nat}{t:TypeId}(hb:Blk w b #[.bool m0,.slice a0 n0 c0,.slice b0 n1 c1] t)(m:Bool)(a a':Option Addr)(n c n' c':Nat){v:Value}{L:List (ByteArray×ByteArray)}(h:MRow w v L):
 MRow (((w.setCell ⟨b,0,none⟩ (.bool m)).setCell ⟨b,1,none⟩ (.slice a n c)).setCell ⟨b,2,none⟩ (.slice a' n' c')) v L:=by
 obtain⟨s,k,rfl,h1,h2,h3⟩:=h.ex;refine⟨s,k,rfl,h1,h2,fun i x hx=>?_⟩;obtain⟨g,o,rfl,hg,k1,k2⟩:=h3 i x hx;exact⟨g,o,rfl,by simpa using hg,n0C hb m a a' n c n' c' k1,n0C hb m a a' n c n' c' k2⟩
def o0h (w:World)(v:Value)(c:List Int)(a:ByteArray)(n:Nat)(hv:Row w v (zs c))(ha:a.size<=100000)(hq:qnE c a=0)(hn:n<=32)(hm:n*c.length<=256):
 Calls Tryz.prog 27 #[v,.string a,.int .i64 (n:Nat)] w fun e w'=>(∃ u,e=.returned (.tuple #[u,.int .i64 0])/\MRow w' u (a0y (fkP (gV (bN (cW a)) (bN (qD a)) false n) n c)))/\Below w.heap.size w w':=by
 obtain⟨k1,k2,k3,k4⟩:=k0f hq;have hND:=(c0h k4).2;have HQ:=hid (d0m w v c a hv (by omega));rw[hq]at HQ;have HOL:=fun V=>hid (k0E V a (n:Nat) ha)
 have hgl0:glE a (n:Nat) 32=0:=by unfold glE;rw[U0 (by simpa using k4),U0 (by omega)]
 have hglR:glR a (n:Nat) false=a0y (glP (gV (bN (cW a)) (bN (qD a)) false n) (2 ^ n) n (gL (bN (cW a)) (bN (qD a)) false n)):=by unfold glR;rw[J2 hgl0,Be]
 rw[hgl0,hglR]at HOL;have hg:∀ v:Int,v<0->gV (bN (cW a)) (bN (qD a)) false n v=0:=fun v hv=>f0i n hv
 have hz:zS n (gV (bN (cW a)) (bN (qD a)) false n)<=2 ^ n:=by have:=n0i hND false n;omega
 have hle:∀ v,gV (bN (cW a)) (bN (qD a)) false n v<=2 ^ n:=fun v=>k0x hND false n v
 have hr:gL (bN (cW a)) (bN (qD a)) false n<=2 ^ n:=by have:=n0i hND false n;omega
 obtain⟨g,hgg⟩:=gn (gV (bN (cW a)) (bN (qD a)) false n);obtain⟨r,hrr⟩:=gn (gL (bN (cW a)) (bN (qD a)) false n);rw[hgg]at HOL hg hz hle |-;rw[hrr]at HOL hr;have hd:=x0q (g:=g) (n:=n) (r:=r) (by omega) hle hr;have hdl:(a0y (glP g (2 ^ n) n r)).length<=100:=by
  rw[c0b];have:=o0G g (2 ^ n) n r;omega
 have hch:chL (a0y (glP g (2 ^ n) n r)) n (2*n+1)=chQ g n:=s0j (by omega) hle _ nr0;have HCH:=fun V v hv=>hid (l0q V v (a0y (glP g (2 ^ n) n r)) n hn hv hd hdl)
 rw[hch]at HCH;obtain⟨d,hdd⟩:=gn (a0y (glP g (2 ^ n) n r));rw[hdd]at HOL HCH;have PN0:=fun V=>hid (f0a V ⟨#[48]⟩ (by decide) c1a)
 have PN1:=fun V=>hid (f0a V t1 (by decide) b1y)
 rw[b1Y]at PN0;rw[b1l]at PN1;unfold t1 at PN1;have PLS:=fun V u most hu=>hid (t0u V u g n most hg hz hn hu)
 have hm1:n*c.length<=1000:=by omega
 have LC:=hid (fun m=>d0M (n0y hz hg m) (show n<=1000 by omega));have LP:=hid (fun (i k:Nat) (x:Int) (hx:x<=n) (hi:i<c.length) (hk:k<=c.length)=>x0F hg hz (ci:=c.getD i 0) hx hi hk hm1);have LT:=hid (fun (i z:Nat) (hi:i<c.length)=>d0M (y0W hg hz hi z) hm1);have LR:=hid (fun (i:Nat)=>d0M (a1q g n c i) hm1);have EM:=hid (fun (i k:Nat) (x:Int) (h:k≠i)=>r0w (g:=g) (n:=n) (ci:=c.getD i 0) (v:=x) (c:=c) h);have ET:=hid (fun (i z:Nat) (x:Int) (hi:i<c.length) (h:(chA g n)[z]?=some x)=>v0T hi h);have EZ:=hid (fun (i:Nat)=>s0T g n c i);have EE:=hid (fun (i:Nat)=>v0S (n:=n) hg c i);have ER:=hid (fun (i:Nat) (hi:i<c.length)=>x0E hg hz hi);have ER0:=hid (u0s g n c);have EA0:=hid (o0K g n c);have EA:=hid (fun (i:Nat) (hi:i<c.length)=>a1n g n c hi);have EAL:=hid (l0M g n c);have AL:=hid (fun i=>f0y g n c i);have HV:=hid hv;have HN:=hid hn;obtain⟨s,cp,rfl,q1,q2,q3⟩:=hv.openZ;have Q3:=hid q3;obtain⟨L,hLL⟩:=gn (c.length);have HLL:=hid hLL;have HCL:=hid k3;rw[hLL]at hm k1 k2 q1 HV HQ LP LT ET ER ER0 EA EAL LR |-;have HL:=hid k2;have hkl:=i0a g n;obtain⟨K,hK⟩:=gn ((chA g n).length);rw[hK]at hkl;rw[hK]at EE;have HK:=hid hK;have HK65:=hid (O0 hkl (show 2*n+1<=65 by omega));have wm:IntKind.i64.wrap ((n:Int)*(L:Int))=(n:Int)*(L:Int):=by rw[Q0 _ ⟨by omega,by omega⟩]
 have s3:decide (256<(n:Int)*(L:Int))=false:=M6 (by omega);obtain⟨M,hM⟩:∃ M:Int,(n:Int)*(L:Int)=M:=⟨_,rfl⟩;rw[hM]at wm s3;clear hv ha hq hND hg hz hle hr hgg hrr hd hdl hch hdd hgl0 hglR k1 k2 k3 k4 hLL q3 hm hm1 hK hkl hn q1;go_enter Tryz.func27,Tryz.ntmps27;go_wp2_with fail;refine HQ.out.mono ?_;rintro e w0 ⟨rfl,hb0⟩;have y0:=hid hb0;clear hb0 HQ;go_wp2_with fail;refine (HOL _).out.mono ?_;rintro e W1 ⟨⟨u1,rfl,hu1⟩,hb1⟩;have y1:=hid (a0a y0.out hb1);have U1:=hid hu1;obtain⟨ad,cd,rfl,-,-,-⟩:=hu1.ex;clear hb1 hu1 HOL;go_wp2_with fail;refine (HCH _ _ U1.out).out.mono ?_;rintro e w2 ⟨⟨ul,ql,rfl,hul,hql⟩,hb2⟩;obtain⟨ml,al,nl,kl,al',nl',kl',rfl⟩:=hql.qv;obtain⟨av,cv,rfl,v1,v2,v3⟩:=hul.ex;have UL:=hid hul;rw[h0Y,HK.out]at v1 UL |-;have V3:=hid v3;have A2:=hid (hb2.alloc hb2.size (.cells #[.bool ml,.slice al nl kl,.slice al' nl' kl'] 81));have y2:=hid (a0a y1.out A2.out);have S2:=hid ((Z3 w2.heap.size w2).alloc nr0 (.cells #[.bool ml,.slice al nl kl,.slice al' nl' kl'] 81));clear hb2 hul hql v3 HCH U1;go_wp2_with fail;refine (PN1 _).out.mono ?_;rintro e w3 ⟨⟨vr,rfl,hvr⟩,hb3⟩;obtain⟨mr,ar,nr,kr,ar',nr',kr',rfl⟩:=hvr.qv;have y3:=hid (a0a y2.out hb3);have S3:=hid (a0a S2.out hb3);have QR:=hid (QB.new hvr);have A3:=hid ((Z3 w3.heap.size w3).alloc nr0 (.cells #[.bool mr,.slice ar nr kr,.slice ar' nr' kr'] 81));clear hb3 hvr PN1 A2 S2;go_wp2_with fail
 go_loopw [13,15,16,17,18,19,20,21,22] (fun s13 s15 s16 s17 s18 s19 s20 s21 s22 wr=>∃ i:Nat,s15=.int .i64 (i:Nat)/\i<=L/\Hid (MRow wr s13 (a0y ((c0r g n c i).filter h0q)))/\Hid (QB wr w3.heap.size (dyQ (fkR g n c i) (n*L)))/\Hid (Below w3.heap.size w3 wr)) (fun s13 s15 s16 s17 s18 s19 s20 s21 s22 wr=>L-(intOf s15).toNat)
 case atStart=>exact⟨0,rfl,S4 _,by rw[EA0.out];exact MRow.nil _,by rw[ER0.out];exact QR,A3⟩
 case round=>
  obtain⟨i,rfl,hi,hM1,hQ,hB⟩:=hrel;have hL256:=HL.out;by_cases hlt:i<L
  .obtain⟨ci,hci⟩:∃ x,c[i]?=some x:=⟨_,J0 (by rw[HLL.out];exact hlt)⟩;have hcd:c.getD i 0=ci:=by rw[J3,hci];rfl
   obtain⟨gc,oc,rfl,hgc,hcc⟩:=Q3.out i ci hci;have HCI:=hid (HCL.out ci (C7 hci));have KC:Hid (∀ W,Below w.heap.size w W->W.cell? ⟨gc,oc+i,none⟩=some (.int .i64 ci)):=fun W hW=>(hW.cell (p:=⟨gc,oc+i,none⟩) hgc).trans hcc
   have KCk:Hid (∀ W k ck,Below w.heap.size w W->c[k]?=some ck->W.cell? ⟨gc,oc+k,none⟩=some (.int .i64 ck)):=fun W k ck hW hk=>by
    obtain⟨gc',oc',e,hgc',hcc'⟩:=Q3.out k ck hk;injection e with e
    injection e with e1 e2
    subst e1 e2;exact (hW.cell (p:=⟨gc,oc+k,none⟩) hgc').trans hcc'
   have f1:(0:Int)<=(i:Int):=by omega
   have f2:(i:Int)<(L:Int):=by omega
   have wi:IntKind.i64.wrap ((i:Int)+1)=((i+1:Nat):Int):=by rw[Q0 _ ⟨by omega,by omega⟩];omega
   have HLT:=hid hlt;have HCD:=hid hcd;have TL:=hid (show (a0y ((c0r g n c i).filter h0q)).length<=1000 from by rw[c0b];exact O0 (Gn _ _) (by rw[AL.out];omega));obtain⟨a13,c13,rfl,-,-,-⟩:=hM1.out.ex;clear hlt hci hcd hgc hcc hi hL256;go_wp2_with fail;refine (PN0 _).out.mono ?_;rintro e w5 ⟨⟨vt,rfl,hvt⟩,hb5⟩;obtain⟨mt,at',nt,kt,at2,nt2,kt2,rfl⟩:=hvt.qv;have B35:=hid (a0a hB.out hb5);have BW5:=hid (a0a (a0a y3.out hB.out) hb5);have T5:=hid (a0a (a0a S3.out hB.out) hb5);have LT35:=hid (show w3.heap.size<w5.heap.size from by obtain⟨_,_,_,_,_,_,_,h,-⟩:=hQ.out;exact U6 h.lt hb5.size);have M5:=hid (hM1.out.call hb5);have R5:=hid (hQ.out.call hb5);have QT:=hid (QB.new hvt);have A5:=hid ((Z3 w5.heap.size w5).alloc nr0 (.cells #[.bool mt,.slice at' nt kt,.slice at2 nt2 kt2] 81));clear hb5 hvt hM1 hQ hB;go_wp2_with fail
   go_loopw [17,18,19,20] (fun s17 s18 s19 s20 wz=>∃ z:Nat,s17=.int .i64 (z:Nat)/\z<=K/\Hid (QB wz w5.heap.size (dyQ (tlN g n c i z) (n*L)))/\Hid (Below w5.heap.size w5 wz)) (fun s17 s18 s19 s20 wz=>K-(intOf s17).toNat)
   case atStart=>exact⟨0,rfl,S4 _,by rw[EZ.out,n0t];exact QT,A5⟩
   case round=>
    obtain⟨wz,hwz⟩:∃ x:World,x=wr:=⟨_,rfl⟩;subst hwz;obtain⟨z,rfl,hz',hQz,hBz⟩:=hrel;have hk65:=HK65.out;by_cases hzl:z<K
    .obtain⟨x,hx,hx2⟩:=s0i (g:=g) (n:=n) (i:=z) (by rw[HK.out];exact hzl);obtain⟨gl,ol,N,D,rfl,hgl,m1',m2',m3',m4',m5',m6'⟩:=V3.out z _ hx2;have TZ:=hid (a0a T5.out hBz.out);have BZ:=hid (a0a BW5.out hBz.out);have QL:=hid (show IsQ .i64 w2 (.agg #[.bool (decide ((dyQ (g x) n).num<0)),N,D]) (dyQ (g x) n) from⟨N,D,rfl,m5',m6'⟩);have KA:Hid (∀ W,Below w2.heap.size w2 W->W.cell? ⟨gl,ol+z*4,none⟩=some (.int .i64 x)/\W.cell? ⟨gl,ol+z*4+1,none⟩=some (.bool (decide ((dyQ (g x) n).num<0)))/\W.cell? ⟨gl,ol+z*4+2,none⟩=some N/\W.cell? ⟨gl,ol+z*4+3,none⟩=some D):=fun W hW=>
      ⟨(hW.cell (p:=⟨gl,ol+z*4,none⟩) hgl).trans m1',(hW.cell (p:=⟨gl,ol+z*4+1,none⟩) hgl).trans m2',(hW.cell (p:=⟨gl,ol+z*4+2,none⟩) hgl).trans m3',(hW.cell (p:=⟨gl,ol+z*4+3,none⟩) hgl).trans m4'⟩
     obtain⟨mq,aq,nq,cq,aq',nq',cq',eq⟩:=QL.out.qv;injection eq with eq
     have eqs:[Value.bool (decide ((dyQ (g x) n).num<0)),N,D] = [.bool mq,.slice aq nq cq,.slice aq' nq' cq']:=congrArg Array.toList eq;injection eqs with e1 eqs
     injection eqs with e2 eqs
     injection eqs with e3 eqs
     subst e2 e3;rw[e1]at KA QL;have hxn:=(a1K (C7 hx));have HXN:Hid (-(n:Int)<=x/\x<=n):=⟨hxn.1,hxn.2.1⟩;have HX:=hid hx;have QP:=hid (QB.new (QL.out.call TZ.out));have AP:=hid ((Z3 wz.heap.size wz).alloc nr0 (.cells #[.bool mq,.slice aq nq cq,.slice aq' nq' cq'] 81));obtain⟨-,k1,k2,k3⟩:=KA.out _ TZ.out;have g1:(0:Int)<=(z:Int):=by omega
     have g2:(z:Int)<(K:Int):=by omega
     have wz':IntKind.i64.wrap ((z:Int)+1)=((z+1:Nat):Int):=by rw[Q0 _ ⟨by omega,by omega⟩];omega
     have HZL:=hid hzl;clear hx hx2 hgl m1' m2' m3' m4' m5' m6' eq eqs e1 hxn hzl hz' hk65;go_wp2_with fail;clear k1 k2 k3
     go_loopw [19,20] (fun s19 s20 wy=>∃ k:Nat,s19=.int .i64 (k:Nat)/\k<=L/\Hid (QB wy wz.heap.size (dyQ (fkN g n ci x i c k) (n*bI i k)))/\Hid (Below wz.heap.size wz wy)) (fun s19 s20 wy=>L-(intOf s19).toNat)
     case atStart=>exact⟨0,rfl,S4 _,by rw[r0x];exact QP,AP⟩
     case round=>
      obtain⟨wy,hwy⟩:∃ x:World,x=wr:=⟨_,rfl⟩;subst hwy;obtain⟨k,rfl,hk',hQy,hBy⟩:=hrel;have hL256:=HL.out;by_cases hkl:k<L
      .obtain⟨ck,hck⟩:∃ x,c[k]?=some x:=⟨_,J0 (by rw[HLL.out];exact hkl)⟩;have hckd:c.getD k 0=ck:=by rw[J3,hck];rfl
       have TY:=hid (a0a TZ.out hBy.out);have BY:=hid (a0a BZ.out hBy.out);have r1:=KC.out _ BY.out;have r2:=(KA.out _ TY.out).1;have r3:=KCk.out _ k ck BY.out hck;have h1:(0:Int)<=(k:Int):=by omega
       have h2:(k:Int)<(L:Int):=by omega
       have wk:IntKind.i64.wrap ((k:Int)+1)=((k+1:Nat):Int):=by rw[Q0 _ ⟨by omega,by omega⟩];omega
       have bci:=HCI.out;have bck:=HCL.out ck (C7 hck);have bx:=HXN.out;have bn:=HN.out;have w1':IntKind.i64.wrap (ci+x)=ci+x:=by rw[Q0 _ ⟨by omega,by omega⟩]
       have w2':IntKind.i64.wrap (ci+x-ck)=ci+x-ck:=by rw[Q0 _ ⟨by omega,by omega⟩]
       have w3':IntKind.i64.wrap (ci+x-ck+1)=ci+x-ck+1:=by rw[Q0 _ ⟨by omega,by omega⟩]
       have LPk:=LP.out i k x bx.2 HLT.out (by omega);rw[HCD.out]at LPk;have LPk:=hid LPk;have HKL:=hid hkl;go_wp2_with fail;refine a0m [0,1,2,3,4,5,6,7,8,9,10,11,12,13,14,15] 0 (fun w'=>w'.cell? ⟨gc,oc+i,none⟩=some (.int .i64 ci)/\w'.cell? ⟨gl,ol+z*4,none⟩=some (.int .i64 x)/\w'.cell? ⟨gc,oc+k,none⟩=some (.int .i64 ck)) (by kernel_rfl) (by kernel_rfl) (by kernel_rfl) (by kernel_rfl) ⟨r1,r2,r3⟩ ?_
       iterate 16
        refine⟨_,rfl,?_⟩;apply Exists.intro
        refine⟨.inl ⟨by rfl,?_⟩,?_⟩
        .rintro W' ⟨q7,q8,q9⟩;go_simp;try with_reducible rfl
        go_frame
       refine H8 (by kernel_rfl) ?_ _;simp only[b0h];obtain⟨wv,hwv⟩:∃ x:World,wy.drew=x:=⟨_,rfl⟩;have TV:=hid (show Below w2.heap.size w2 wv from hwv ▸ TY.out.drew);have hBv:=hid (show Below wz.heap.size wz wv from hwv ▸ hBy.out.drew);have hQv:=hid (show QB wv wz.heap.size (dyQ (fkN g n ci x i c k) (n*bI i k)) from hwv ▸ hQy.out.call br0.drew);rw[hwv];obtain⟨m18,a18,n18,c18,b18,d18,e18,hb18,hq18⟩:=hQv.out;have B18:=hid hb18;have V18:=hid hq18;have b0:=hb18.cell 0;have b1:=hb18.cell 1;have b2:=hb18.cell 2;simp at b0 b1 b2;clear hwv r1 r2 r3 w1' w2' hQy hBy TY BY;rcases Dd k i with hki | hki | hki
       focus
        have p1:(k:Int)<(i:Int):=by omega
        have HE:=EM.out i k x (by omega);rw[J2 hki,HCD.out,hckd]at HE;have HE:=hid HE;clear hck hckd hkl hk' bci bck bx bn hki hL256 hb18 hq18 hQv;go_wp2_with fail;refine a0m [1,2] 4 (fun _=>True) (by kernel_rfl) (by kernel_rfl) (by kernel_rfl) (by kernel_rfl) trivial ?_
        iterate 2
         refine⟨_,rfl,?_⟩;apply Exists.intro
         refine⟨.inl ⟨by rfl,?_⟩,?_⟩
         ·(intro W' hW';clear hW';go_simp;try (with_reducible rfl))
         go_frame
        refine c0D (i:=0) (j:=3) (by kernel_rfl) (by rfl) (by rfl) (by rfl) (by rfl) ?_ ?_
        focus
         go_wp2_with fail;refine⟨trivial,?_⟩;refine a0c (i:=3) (by kernel_rfl) (by rfl) (by rfl) ?_;go_wp2_with fail;refine (PLS _ _ (ci+x-ck) (UL.out.call TV.out.drew)).out.mono ?_;rintro e w6 ⟨⟨v6,rfl,hv6⟩,hb6⟩;obtain⟨m6,a6,n6,c6,b6,d6,e6,rfl⟩:=hv6.qv;have x6:=hid (show Below wv.heap.size wv w6 from br0.drew.trans hb6);have P6:=hid (V18.out.call x6.out);have Q6:=hid hv6;have X6:=hid (B18.out.call x6.out);clear hb6 hv6 b0 b1 b2;go_wp2_with fail;refine⟨trivial,?_⟩;refine a0c (i:=4) (by kernel_rfl) (by rfl) (by rfl) ?_;go_wp2_with fail;refine (e0D _ _ _ _ _ P6.out Q6.out LPk.out.1 LPk.out.2 (LC.out _).1 (LC.out _).2).mono ?_;rintro e w7 ⟨⟨v7,rfl,hv7⟩,hb7⟩;obtain⟨m7,a7,n7,c7,b7,d7,e7,rfl⟩:=hv7.qv;have x7:=hid (a0a hBv.out (a0a x6.out hb7));have X7:=hid (X6.out.call hb7);rw[HE.out]at hv7;have R7:=hid hv7;have t0:=X7.out.cell 0;have t1:=X7.out.cell 1;have t2:=X7.out.cell 2;have t3:=X7.out.free 0;have t4:=X7.out.free 1;have t5:=X7.out.free 2;simp at t0 t1 t2;clear hb7 hv7;go_wp2_with fail;refine⟨trivial,?_⟩;refine a0c (i:=5) (by kernel_rfl) (by rfl) (by rfl) ?_
        rotate_left
        focus
         go_wp2_with fail;refine (PLS _ _ (ci+x-ck) (UL.out.call TV.out.drew)).out.mono ?_;rintro e w6 ⟨⟨v6,rfl,hv6⟩,hb6⟩;obtain⟨m6,a6,n6,c6,b6,d6,e6,rfl⟩:=hv6.qv;have x6:=hid (show Below wv.heap.size wv w6 from br0.drew.trans hb6);have P6:=hid (V18.out.call x6.out);have Q6:=hid hv6;have X6:=hid (B18.out.call x6.out);clear hb6 hv6 b0 b1 b2;have b0:=X6.out.cell 0;have b1:=X6.out.cell 1;have b2:=X6.out.cell 2;simp at b0 b1 b2;go_wp2_with fail;refine⟨trivial,?_⟩;refine a0c (i:=0) (by kernel_rfl) (by rfl) (by rfl) ?_;go_wp2_with fail;refine⟨trivial,?_⟩;clear b0 b1 b2;refine a0c (i:=4) (by kernel_rfl) (by rfl) (by rfl) ?_;go_wp2_with fail;refine (e0D _ _ _ _ _ P6.out Q6.out LPk.out.1 LPk.out.2 (LC.out _).1 (LC.out _).2).mono ?_;rintro e w7 ⟨⟨v7,rfl,hv7⟩,hb7⟩;obtain⟨m7,a7,n7,c7,b7,d7,e7,rfl⟩:=hv7.qv;have x7:=hid (a0a hBv.out (a0a x6.out hb7));have X7:=hid (X6.out.call hb7);rw[HE.out]at hv7;have R7:=hid hv7;have t0:=X7.out.cell 0;have t1:=X7.out.cell 1;have t2:=X7.out.cell 2;have t3:=X7.out.free 0;have t4:=X7.out.free 1;have t5:=X7.out.free 2;simp at t0 t1 t2;clear hb7 hv7;go_wp2_with fail;refine⟨trivial,?_⟩;refine a0c (i:=5) (by kernel_rfl) (by rfl) (by rfl) ?_
       rotate_left 2
       .subst hki;have q1:decide ((k:Int)<(k:Int))=false:=by simp
        have HE:=hid (u0t (g:=g) (n:=n) (ci:=ci) (v:=x) (i:=k) (c:=c));clear hck hckd hkl hk' bci bck bx bn hL256 hb18 hq18 b0 b1 b2;go_wp2_with fail;go_roundw
        case rel=>exact⟨k+1,by go_num,by have:=HKL.out;omega,by rw[<- HE.out];exact hQv,hBv⟩
        case measure=>simp[intOf]<;>(have:=HKL.out;omega)
       focus
        have p1:¬ (k:Int)<(i:Int):=by omega
        have p2:(i:Int)<(k:Int):=by omega
        have HE:=EM.out i k x (by omega);rw[U0 (by omega),HCD.out,hckd]at HE;have HE:=hid HE;clear hck hckd hkl hk' bci bck bx bn hki hL256 hb18 hq18 hQv;go_wp2_with fail;refine a0m [1,2,3] 4 (fun _=>True) (by kernel_rfl) (by kernel_rfl) (by kernel_rfl) (by kernel_rfl) trivial ?_
        iterate 3
         refine⟨_,rfl,?_⟩;apply Exists.intro
         refine⟨.inl ⟨by rfl,?_⟩,?_⟩
         ·(intro W' hW';clear hW';go_simp;try (with_reducible rfl))
         go_frame
        refine c0D (i:=0) (j:=4) (by kernel_rfl) (by rfl) (by rfl) (by rfl) (by rfl) ?_ ?_
        focus
         go_wp2_with fail;refine⟨trivial,?_⟩;refine a0c (i:=4) (by kernel_rfl) (by rfl) (by rfl) ?_;go_wp2_with fail;refine (PLS _ _ (ci+x-ck+1) (UL.out.call TV.out.drew)).out.mono ?_;rintro e w6 ⟨⟨v6,rfl,hv6⟩,hb6⟩;obtain⟨m6,a6,n6,c6,b6,d6,e6,rfl⟩:=hv6.qv;have x6:=hid (show Below wv.heap.size wv w6 from br0.drew.trans hb6);have P6:=hid (V18.out.call x6.out);have Q6:=hid hv6;have X6:=hid (B18.out.call x6.out);clear hb6 hv6 b0 b1 b2;go_wp2_with fail;refine⟨trivial,?_⟩;refine a0c (i:=5) (by kernel_rfl) (by rfl) (by rfl) ?_;go_wp2_with fail;refine (e0D _ _ _ _ _ P6.out Q6.out LPk.out.1 LPk.out.2 (LC.out _).1 (LC.out _).2).mono ?_;rintro e w7 ⟨⟨v7,rfl,hv7⟩,hb7⟩;obtain⟨m7,a7,n7,c7,b7,d7,e7,rfl⟩:=hv7.qv;have x7:=hid (a0a hBv.out (a0a x6.out hb7));have X7:=hid (X6.out.call hb7);rw[HE.out]at hv7;have R7:=hid hv7;have t0:=X7.out.cell 0;have t1:=X7.out.cell 1;have t2:=X7.out.cell 2;have t3:=X7.out.free 0;have t4:=X7.out.free 1;have t5:=X7.out.free 2;simp at t0 t1 t2;clear hb7 hv7;go_wp2_with fail;refine⟨trivial,?_⟩;refine a0c (i:=6) (by kernel_rfl) (by rfl) (by rfl) ?_
        rotate_left
        focus
         go_wp2_with fail;refine (PLS _ _ (ci+x-ck+1) (UL.out.call TV.out.drew)).out.mono ?_;rintro e w6 ⟨⟨v6,rfl,hv6⟩,hb6⟩;obtain⟨m6,a6,n6,c6,b6,d6,e6,rfl⟩:=hv6.qv;have x6:=hid (show Below wv.heap.size wv w6 from br0.drew.trans hb6);have P6:=hid (V18.out.call x6.out);have Q6:=hid hv6;have X6:=hid (B18.out.call x6.out);clear hb6 hv6 b0 b1 b2;have b0:=X6.out.cell 0;have b1:=X6.out.cell 1;have b2:=X6.out.cell 2;simp at b0 b1 b2;go_wp2_with fail;refine⟨trivial,?_⟩;refine a0c (i:=0) (by kernel_rfl) (by rfl) (by rfl) ?_;go_wp2_with fail;refine⟨trivial,?_⟩;clear b0 b1 b2;refine a0c (i:=5) (by kernel_rfl) (by rfl) (by rfl) ?_;go_wp2_with fail;refine (e0D _ _ _ _ _ P6.out Q6.out LPk.out.1 LPk.out.2 (LC.out _).1 (LC.out _).2).mono ?_;rintro e w7 ⟨⟨v7,rfl,hv7⟩,hb7⟩;obtain⟨m7,a7,n7,c7,b7,d7,e7,rfl⟩:=hv7.qv;have x7:=hid (a0a hBv.out (a0a x6.out hb7));have X7:=hid (X6.out.call hb7);rw[HE.out]at hv7;have R7:=hid hv7;have t0:=X7.out.cell 0;have t1:=X7.out.cell 1;have t2:=X7.out.cell 2;have t3:=X7.out.free 0;have t4:=X7.out.free 1;have t5:=X7.out.free 2;simp at t0 t1 t2;clear hb7 hv7;go_wp2_with fail;refine⟨trivial,?_⟩;refine a0c (i:=6) (by kernel_rfl) (by rfl) (by rfl) ?_
       all_goals
        go_wp2_with fail;refine⟨trivial,?_⟩;refine H8 (by kernel_rfl) ?_ _;simp only[b0h];clear t0 t1 t2 t3 t4 t5;go_wp2_with fail;go_roundw
        case rel=>exact⟨k+1,by go_num,by have:=HKL.out;omega,QB.put X7.out R7.out,((x7.out.setCell nr0 _).setCell nr0 _).setCell nr0 _⟩
        case measure=>simp[intOf]<;>(have:=HKL.out;omega)
      .obtain rfl:k=L:=by omega
       have q1:decide ((k:Int)<(k:Int))=false:=by simp
       have Q16:=hid (hQz.out.call hBy.out);obtain⟨m16,a16,n16,c16,b16,d16,e16,hb16,hq16⟩:=Q16.out;obtain⟨m18,a18,n18,c18,b18,d18,e18,hb18,hq18⟩:=hQy.out;have B16:=hid hb16;have V16:=hid hq16;have V18:=hid hq18;have b0:=hb16.cell 0;have b1:=hb16.cell 1;have b2:=hb16.cell 2;have b3:=hb18.cell 0;have b4:=hb18.cell 1;have b5:=hb18.cell 2;simp at b0 b1 b2 b3 b4 b5;have LTi:=hid (LT.out i z HLT.out);have LPk:=LP.out i k x HXN.out.2 HLT.out nr0;rw[HCD.out]at LPk;have LPk:=hid LPk;have HE:=ET.out i z x HLT.out HX.out;rw[HCD.out]at HE;have HE:=hid HE;clear hkl hk' hL256 hb16 hq16 hb18 hq18 Q16;go_wp2_with fail;refine (i0t _ _ _ _ _ V16.out V18.out LTi.out.1 LTi.out.2 LPk.out.1 LPk.out.2).mono ?_;rintro e w8 ⟨⟨v8,rfl,hv8⟩,hb8⟩;obtain⟨m8,a8,n8,c8,b8,d8,e8,rfl⟩:=hv8.qv;have x8:=hid (a0a hBz.out (a0a hBy.out hb8));have X8:=hid (B16.out.call hb8);rw[HE.out]at hv8;have R8:=hid hv8;have t0:=X8.out.cell 0;have t1:=X8.out.cell 1;have t2:=X8.out.cell 2;have t3:=X8.out.free 0;have t4:=X8.out.free 1;have t5:=X8.out.free 2;simp at t0 t1 t2;clear hb8 hv8 b0 b1 b2 b3 b4 b5;go_wp2_with fail;go_roundw
       case rel=>exact⟨z+1,by go_num,by have:=HZL.out;omega,QB.put X8.out R8.out,((x8.out.setCell nr0 _).setCell nr0 _).setCell nr0 _⟩
       case measure=>simp[intOf]<;>(have:=HZL.out;omega)
    .obtain rfl:z=K:=by omega
     have q1:decide ((z:Int)<(z:Int))=false:=by simp
     obtain⟨m16,a16,n16,c16,b16,d16,e16,hb16,hq16⟩:=hQz.out;have B16:=hid hb16;have V16:=hid hq16;have b0:=hb16.cell 0;have b1:=hb16.cell 1;have b2:=hb16.cell 2;simp at b0 b1 b2;have LTi:=hid (LT.out i z HLT.out);have HO:Hid (c0p (dyQ (tlN g n c i z) (n*L))=dyB (fkT g n c i) (n*L)):=by
      show _=_
      rw[v0C,EE.out]
     have BZ:=hid (a0a BW5.out hBz.out);have MZ:=hid (M5.out.call hBz.out);have RZ:=hid (R5.out.call hBz.out);clear hzl hz' hk65 hb16 hq16 hQz;go_wp2_with fail;refine (d0E _ _ _ V16.out (O0 LTi.out.1 (by omega)) (O0 LTi.out.2 (by omega))).mono ?_;rintro e w6 ⟨rfl,hb6⟩;rw[HO.out];obtain⟨pt,hpt⟩:=gn (dyB (fkT g n c i) (n*L));obtain⟨pe,hpe⟩:=gn (c0G (dyQ (tlN g n c i z) (n*L)));rw[hpt,hpe];have HPT:=hid hpt;have x6:=hid hb6;clear hb6 hpt hpe b0 b1 b2;go_wp2_with fail;refine (j0Z _ i (by have:=HL.out;have:=HLT.out;omega)).mono ?_;rintro e w7 ⟨rfl,rfl⟩;go_wp2_with fail;refine (m0H _ _ _ _ _ (MZ.out.call x6.out) TL.out).mono ?_;rintro e w8 ⟨⟨u8,rfl,hu8⟩,hb8⟩;have x8:=hid (a0a x6.out hb8);have hadd:=EA.out i HLT.out;rw[HPT.out]at hadd;rw[hadd]at hu8;have M8:=hid hu8;obtain⟨a8,c8,rfl,-,-,-⟩:=hu8.ex;have X16:=hid (B16.out.call x8.out);have V8:=hid (V16.out.call x8.out);obtain⟨m14,a14,n14,c14,b14,d14,e14,hb14,hq14⟩:=RZ.out.call x8.out;have X14:=hid hb14;have V14:=hid hq14;clear hb8 hu8 hb14 hq14 hadd;go_wp2_with fail;have KK:Hid (∀ W,Below w8.heap.size w8 W->W.cell? ⟨w5.heap.size,0,none⟩=some (.bool m16)/\W.cell? ⟨w5.heap.size,1,none⟩=some (.slice a16 n16 c16)/\W.cell? ⟨w5.heap.size,2,none⟩=some (.slice b16 d16 e16)):=fun W hW=>
      ⟨(X16.out.call hW).cell 0,(X16.out.call hW).cell 1,(X16.out.call hW).cell 2⟩
     have b0:w8.drew.cell? ⟨w3.heap.size,0,none⟩=_:=X14.out.drew.cell 0;have b1:w8.drew.cell? ⟨w3.heap.size,1,none⟩=_:=X14.out.drew.cell 1;have b2:w8.drew.cell? ⟨w3.heap.size,2,none⟩=_:=X14.out.drew.cell 2;simp at b0 b1 b2;have LRi:=hid (LR.out i);have HER:=ER.out i HLT.out;rw[<- EE.out i]at HER;have HER:=hid HER;have NQ:=fun V h=>hid (g0D V (.agg #[.bool m16,.slice a16 n16 c16,.slice b16 d16 e16]) (dyQ (tlN g n c i z) (n*L)) h)
     have LNG:Hid ((limbs (-dyQ (tlN g n c i z) (n*L)).num.natAbs).length<=100000/\(limbs (-dyQ (tlN g n c i z) (n*L)).den).length<=100000):=by
      have:=LTi.out;rw[Ir,Ij,Md];exact this
     refine a0m [1] 4 (fun W=>W.cell? ⟨w5.heap.size,0,none⟩=some (.bool m16)/\W.cell? ⟨w5.heap.size,1,none⟩=some (.slice a16 n16 c16)/\W.cell? ⟨w5.heap.size,2,none⟩=some (.slice b16 d16 e16)) (by kernel_rfl) (by kernel_rfl) (by kernel_rfl) (by kernel_rfl) (KK.out _ br0.drew) ?_
     iterate 1
      refine⟨_,rfl,?_⟩;apply Exists.intro
      refine⟨.inl ⟨by rfl,?_⟩,?_⟩
      .rintro W' ⟨q7,q8,q9⟩;go_simp;try with_reducible rfl
      go_frame
     refine c0D (i:=0) (j:=2) (by kernel_rfl) (by rfl) (by rfl) (by rfl) (by rfl) ?_ ?_
     focus
      go_wp2_with fail;refine⟨KK.out _ br0.drew,?_⟩;refine a0c (i:=2) (by kernel_rfl) (by rfl) (by rfl) ?_;go_wp2_with fail;refine (NQ _ (V8.out.call br0.drew)).out.mono ?_;rintro e w9 ⟨⟨v9,rfl,hv9⟩,hb9⟩;obtain⟨m9,a9,n9,c9,b9,d9,e9,rfl⟩:=hv9.qv;have x9:=hid (show Below w8.heap.size w8 w9 from br0.drew.trans hb9);have P9:=hid (V14.out.call x9.out);have Q9:=hid hv9;have X9:=hid (X14.out.call x9.out);clear hb9 hv9 b0 b1 b2;go_wp2_with fail;refine⟨KK.out _ x9.out,?_⟩
     rotate_left
     focus
      go_wp2_with fail;refine (NQ _ (V8.out.call br0.drew)).out.mono ?_;rintro e w9 ⟨⟨v9,rfl,hv9⟩,hb9⟩;obtain⟨m9,a9,n9,c9,b9,d9,e9,rfl⟩:=hv9.qv;have x9:=hid (show Below w8.heap.size w8 w9 from br0.drew.trans hb9);have P9:=hid (V14.out.call x9.out);have Q9:=hid hv9;have X9:=hid (X14.out.call x9.out);clear hb9 hv9 b0 b1 b2;have b0:=X9.out.cell 0;have b1:=X9.out.cell 1;have b2:=X9.out.cell 2;simp at b0 b1 b2;go_wp2_with fail;refine⟨KK.out _ x9.out,?_⟩;refine a0c (i:=0) (by kernel_rfl) (by rfl) (by rfl) ?_;go_wp2_with fail;refine⟨KK.out _ x9.out,?_⟩;clear b0 b1 b2
     all_goals
      refine a0c (i:=3) (by kernel_rfl) (by rfl) (by rfl) ?_;go_wp2_with fail;refine (i0t _ _ _ _ _ P9.out Q9.out LRi.out.1 LRi.out.2 LNG.out.1 LNG.out.2).mono ?_;rintro e w10 ⟨⟨v10,rfl,hv10⟩,hb10⟩;obtain⟨ma,aa,na,ca,ba,da,ea,rfl⟩:=hv10.qv;have y10:=hid (a0a x9.out hb10);have X10:=hid (X9.out.call hb10);rw[HER.out]at hv10;have R10:=hid hv10;have M10:=hid (M8.out.call y10.out);have t0:=X10.out.cell 0;have t1:=X10.out.cell 1;have t2:=X10.out.cell 2;have t3:=X10.out.free 0;have t4:=X10.out.free 1;have t5:=X10.out.free 2;simp at t0 t1 t2;have Z16:=hid (X16.out.call y10.out);clear hb10 hv10;go_wp2_with fail;refine⟨KK.out _ y10.out,?_⟩;refine a0c (i:=4) (by kernel_rfl) (by rfl) (by rfl) ?_;go_wp2_with fail;have ne:w3.heap.size≠w5.heap.size:=by have:=LT35.out;omega
      have Y16:=((Z16.out.other (a:=⟨w3.heap.size,0,none⟩) ne (.bool ma)).other (a:=⟨w3.heap.size,1,none⟩) ne (.slice aa na ca)).other (a:=⟨w3.heap.size,2,none⟩) ne (.slice ba da ea);refine⟨⟨Y16.cell 0,Y16.cell 1,Y16.cell 2⟩,?_⟩;refine H8 (by kernel_rfl) ?_ _;simp only[b0h];clear t0 t1 t2 t3 t4 t5 ne Y16;go_wp2_with fail;have z10:=hid (a0a B35.out (a0a hBz.out (a0a x8.out y10.out)));go_roundw
      case rel=>exact⟨i+1,by go_num,by have:=HLT.out;omega,t0U X10.out _ _ _ _ _ _ _ M10.out,QB.put X10.out R10.out,((z10.out.setCell nr0 _).setCell nr0 _).setCell nr0 _⟩
      case measure=>simp[intOf]<;>(have:=HLT.out;omega)
  .obtain rfl:i=L:=by omega
   have q1:decide ((i:Int)<(i:Int))=false:=by simp
   obtain⟨m14,a14,n14,c14,b14,d14,e14,hb14,hq14⟩:=hQ.out;have V14:=hid hq14;have b0:=hb14.cell 0;have b1:=hb14.cell 1;have b2:=hb14.cell 2;simp at b0 b1 b2;have LRi:=hid (LR.out i);have HO:=hid (v0C (fkR g n c i) (n*i));have TL:=hid (show (a0y ((c0r g n c i).filter h0q)).length<=1000 from by rw[c0b];exact O0 (Gn _ _) (by rw[AL.out];omega));obtain⟨a13,c13,rfl,-,-,-⟩:=hM1.out.ex;have BW:=hid (a0a y3.out hB.out);clear hlt hi hL256 hb14 hq14 hQ;go_wp2_with fail;refine (d0E _ _ _ V14.out (O0 LRi.out.1 (by omega)) (O0 LRi.out.2 (by omega))).mono ?_;rintro e w6 ⟨rfl,hb6⟩;rw[HO.out];obtain⟨pt,hpt⟩:=gn (dyB (fkR g n c i) (n*i));obtain⟨pe,hpe⟩:=gn (c0G (dyQ (fkR g n c i) (n*i)));rw[hpt,hpe];have HPT:=hid hpt;have x6:=hid hb6;clear hb6 hpt hpe b0 b1 b2;go_wp2_with fail;refine (m0H _ _ _ b0o _ (hM1.out.call x6.out) TL.out).mono ?_;rintro e w8 ⟨⟨u8,rfl,hu8⟩,hb8⟩;have x8:=hid (a0a BW.out (a0a x6.out hb8));have hadd:=EAL.out;rw[HPT.out]at hadd;rw[hadd]at hu8;have M8:=hid hu8;obtain⟨a8,c8,rfl,-,-,-⟩:=hu8.ex;clear hb8 hu8 hadd;go_wp2_with fail;go_ret2
   exact⟨⟨_,rfl,M8.out⟩,x8.out⟩
def w0z (w:World)(v:Value)(c:List Int)(a:ByteArray)(n:Int)(hv:Row w v (zs c))(ha:a.size<=100000):
 Calls Tryz.prog 27 #[v,.string a,.int .i64 n] w fun e w'=>(∃ u,e=.returned (.tuple #[u,.int .i64 (flE c a n)])/\MRow w' u (flR c a n))/\Below w.heap.size w w':=by
 by_cases h0:flE c a n=0
 .have hE:=h0;unfold flE at h0
  split at h0
  .rename_i h1;exact absurd h0 h1
  .rename_i h1
   split at h0
   .cases h0
   .rename_i h2
    split at h0
    .cases h0
    .rename_i h3
     obtain⟨m,rfl⟩:∃ m:Nat,n=(m:Nat):=⟨n.toNat,by omega⟩;have hm:m*c.length<=256:=by
      have:((m*c.length:Nat):Int)<=256:=by rw[By];omega
      omega
     have:=o0h w v c a m hv ha (Af h1) (by omega) hm;rw[hE];unfold flR;rw[J2 hE,Be];exact this
 .have hR:flR c a n = []:=by unfold flR;rw[U0 h0]
  rw[hR];have HQ:=hid (d0m w v c a hv (by omega));have HOL:=fun V=>hid (k0E V a n ha)
  obtain⟨s,cp,rfl,q1,q2,q3⟩:=hv.openZ;by_cases h1:qnE c a=0
  .obtain⟨k1,k2,k3,k4⟩:=k0f h1;by_cases h2:n<0\/32<n
   focus
    have hE:flE c a n=2:=by unfold flE;rw[U0 (by simpa using h1),J2 h2]
    have hG:glE a n 32=2:=by unfold glE;rw[U0 (by simpa using k4),J2 h2]
    rw[h1]at HQ;rw[hG]at HOL;rw[hE];clear hv ha h0 hR h1 h2 k1 k2 k3 k4 q3 q1 q2 hE hG
   rotate_left
   focus
    have h3:256<n*(c.length:Nat):=Af fun h3=>h0 (by unfold flE;rw[U0 (by simpa using h1),U0 h2,U0 h3])
    have hE:flE c a n=5:=by unfold flE;rw[U0 (by simpa using h1),U0 h2,J2 h3]
    have hG:glE a n 32=0:=by unfold glE;rw[U0 (by simpa using k4),U0 h2]
    rw[h1]at HQ;rw[hG]at HOL;rw[hE];obtain⟨L,hLL⟩:=gn (c.length);rw[hLL]at h3 k2 HQ |-;have hM:n*(L:Int)<=32*256:=by
     have e1:n*(L:Int)<=32*(L:Int):=Int.mul_le_mul_of_nonneg_right (by omega) (by omega);omega
    have wm:IntKind.i64.wrap (n*(L:Int))=n*(L:Int):=by rw[Q0 _ ⟨by omega,by omega⟩]
    have s3:decide (256<n*(L:Int))=true:=E7 h3;obtain⟨M,hM'⟩:∃ M:Int,n*(L:Int)=M:=⟨_,rfl⟩;rw[hM']at wm s3;clear hv ha h0 hR h1 h2 k1 k2 k3 k4 q3 q1 q2 hE hG h3 hM hLL
   all_goals
    go_enter Tryz.func27,Tryz.ntmps27;go_wp2_with fail;refine HQ.out.mono ?_;rintro e w0 ⟨rfl,hb0⟩;have y0:=hid hb0;clear hb0 HQ;go_wp2_with fail;refine (HOL _).out.mono ?_;rintro e W1 ⟨⟨u1,rfl,hu1⟩,hb1⟩;have y1:=hid (a0a y0.out hb1);obtain⟨ad,cd,rfl,-,-,-⟩:=hu1.ex;clear hb1 hu1 HOL;go_wp2_with fail;go_ret2
    exact⟨⟨_,rfl,MRow.nil _⟩,y1.out⟩
  .have hE:flE c a n=qnE c a:=by unfold flE;rw[J2 h1]
   rw[hE];obtain⟨x,hx⟩:=gn (qnE c a);rw[hx]at HQ h1 |-;have t0:(x != 0)=true:=by simpa using h1
   clear hv ha h0 hR q3 q1 q2 hE HOL hx h1;go_enter Tryz.func27,Tryz.ntmps27;go_wp2_with fail;refine HQ.out.mono ?_;rintro e w0 ⟨rfl,hb0⟩;have y0:=hid hb0;clear hb0 HQ;go_wp2_with fail;go_ret2
   exact⟨⟨_,rfl,MRow.nil _⟩,y0.out⟩
end
section
open Go.RowKit
open Go.Lib (decDigits nDigits)
def v0j {q:Rat}(h:0<=q.num)(n:Nat):(q ^ n).num.natAbs=q.num.natAbs ^ n/\(q ^ n).den=q.den ^ n/\decide ((q ^ n).num<0)=false:=by
 have h1:0<=q.num ^ n:=Int.pow_nonneg h;refine⟨by rw[Rat.num_pow,Int.natAbs_pow],Rat.den_pow q n,?_⟩;rw[Rat.num_pow];simpa using h1
def o0g (w:World)(s:ByteArray)(n:Nat)(hs:s.size<=1000000)(hq:qE s=0)(h0:0<=(vQ s).num)(hn:n<=1000000000):
 Calls Tryz.prog 58 #[.string s,.int .i64 (n:Nat)] w fun e w'=>e=.returned (.tuple #[.string (c0p (vQ s ^ n)),.int .i64 (c0G (vQ s ^ n))])/\Below w.heap.size w w':=by
 have R1:=hid (c0X w s hs);obtain⟨p1,p2,p3⟩:=v0j h0 n;have fits:=e0a hq;have P1:=fun V v h=>hid (f0X V v (vQ s).num.natAbs n h (by unfold ovQ at fits;omega) (by omega))
 have P2:=fun V v h=>hid (f0X V v (vQ s).den n h (by unfold ovQ at fits;omega) (by omega))
 have PW:=fun V v h (h1:nDigits ((vQ s).num.natAbs ^ n)<=4000) (h2:nDigits ((vQ s).den ^ n)<=4000)=>hid (d0E V v (vQ s ^ n) h (by rw[p1];exact O0 (a0n h1) (by omega)) (by rw[p2];exact O0 (a0n h2) (by omega)))
 have OV:=hid (fun (h:4000<nDigits ((vQ s).num.natAbs ^ n)\/4000<nDigits ((vQ s).den ^ n))=>(show c0p (vQ s ^ n)=⟨#[]⟩/\c0G (vQ s ^ n)=5 from by
  have:ovQ (vQ s ^ n):=by unfold ovQ;rw[p1,p2];exact h
  exact⟨J2 this,J2 this⟩))
 have t1:decide ((n:Int)<0)=false:=by simp
 have t2:((n:Int) == -9223372036854775808)=false:=by rw[U4];omega
 have m0:decide ((vQ s).num<0)=false:=by simpa using h0
 have HQ:=hid hq;have HP1:=hid p1;have HP2:=hid p2;have HP3:=hid p3;have HM0:=hid m0;clear hs hq p1 p2 p3 h0 m0 fits;go_enter Tryz.func58,Tryz.ntmps58;go_wp2_with fail;refine R1.out.mono ?_;rintro e w1 ⟨⟨v,rfl,hv,-⟩,hb1⟩;obtain⟨N,D,rfl,hN,hD⟩:=(hv HQ.out).ex;have HN:=hid hN;have HD:=hid hD;obtain⟨a1,c1,rfl,-⟩:=hN.openI;obtain⟨a2,c2,rfl,-⟩:=hD.openI;rw[HM0.out,HQ.out];obtain⟨k1,hk1⟩:=gn ((limbs (vQ s).num.natAbs).length);obtain⟨k2,hk2⟩:=gn ((limbs (vQ s).den).length);rw[hk1]at HN |-;rw[hk2]at HD |-;have y1:=hid hb1;have X1:=hid (Blk.new w1 #[.bool false,.slice a1 k1 c1,.slice a2 k2 c2] 81);have A1:=hid ((Z3 w1.heap.size w1).alloc nr0 (.cells #[.bool false,.slice a1 k1 c1,.slice a2 k2 c2] 81));clear hb1 hv hN hD hk1 hk2;go_wp2_with fail;refine (P1 _ _ (HN.out.call A1.out)).out.mono ?_;rintro e w2 ⟨h,hb2⟩;have X2:=hid (X1.out.call hb2);have y2:=hid (a0a (a0a y1.out A1.out) hb2);have D2:=hid ((HD.out.call A1.out).call hb2);have r2:=X2.out.cell 2;simp at r2;rcases h with ⟨d1,v3,rfl,hv3⟩ | ⟨d1,rfl⟩
 .have N2:=hid hv3;have DD1:=hid d1;obtain⟨a3,c3,rfl,-⟩:=hv3.openI;obtain⟨k3,hk3⟩:=gn ((limbs ((vQ s).num.natAbs ^ n)).length);rw[hk3]at N2 |-;clear hb2 hv3 d1 hk3;go_wp2_with fail;refine (P2 _ _ D2.out).out.mono ?_;rintro e w3 ⟨h,hb3⟩;have y3:=hid (a0a y2.out hb3);have N3:=hid (N2.out.call hb3);rcases h with ⟨d2,v4,rfl,hv4⟩ | ⟨d2,rfl⟩
  .have D3:=hid hv4;have DD2:=hid d2;obtain⟨a4,c4,rfl,-⟩:=hv4.openI;obtain⟨k4,hk4⟩:=gn ((limbs ((vQ s).den ^ n)).length);rw[hk4]at D3 |-;have iq:IsQ .i64 w3 (.agg #[.bool false,.slice a3 k3 c3,.slice a4 k4 c4]) (vQ s ^ n):=⟨.slice a3 k3 c3,.slice a4 k4 c4,by rw[HP3.out],by rw[HP1.out];exact N3.out,by rw[HP2.out];exact D3.out⟩;have IQ:=hid iq;clear hb3 hv4 d2 hk4 iq;go_wp2_with fail;refine (PW _ _ IQ.out DD1.out DD2.out).out.mono ?_;rintro e w4 ⟨rfl,hb4⟩;have y4:=hid (a0a y3.out hb4);clear hb4;go_wp2_with fail;go_ret2
   exact⟨rfl,y4.out⟩
  .obtain⟨o1,o2⟩:=OV.out (.inr d2);have O1:=hid o1;have O2:=hid o2;clear hb3 d2 o1 o2;go_wp2_with fail;go_ret2
   exact⟨by rw[O1.out,O2.out];rfl,y3.out⟩
 .obtain⟨o1,o2⟩:=OV.out (.inl d1);have O1:=hid o1;have O2:=hid o2;clear hb2 d1 o1 o2;go_wp2_with fail;refine (P2 _ _ D2.out).out.mono ?_;rintro e w3 ⟨h,hb3⟩;have y3:=hid (a0a y2.out hb3);rcases h with ⟨-,v4,rfl,hv4⟩ | ⟨-,rfl⟩
  all_goals
   try obtain⟨a4,c4,rfl,-⟩:=hv4.openI
   try clear hv4
   clear hb3;go_wp2_with fail;go_ret2
   exact⟨by rw[O1.out,O2.out];rfl,y3.out⟩
open Go.Shelf
def z0l (w:World)(s t:ByteArray)(hs:s.size<=1000000)(ht:t.size<=1000000):
 Calls Tryz.prog 56 #[.string s,.string t] w fun e w'=>e=.returned (.tuple #[.string (mnB s t),.int .i64 (cmE s t)])/\Below w.heap.size w w':=by
 have H:=hid (z0m w s t hs ht);unfold mnB;have h3:=k0K s t;obtain⟨B,hB⟩:=gn (cmB s t);obtain⟨E,hE⟩:=gn (cmE s t);rw[hB]at h3;rw[hB,hE]at H |-;clear hB hE hs ht;by_cases he:E=0
 .subst he;rcases h3 with rfl | rfl | rfl
  .go_enter Tryz.func56,Tryz.ntmps56;go_wp2_with fail;refine H.out.mono ?_;rintro e w3 ⟨rfl,hb3⟩;have y3:=hid hb3;clear hb3;go_wp2_with fail;go_ret2
   exact⟨rfl,y3.out⟩
  .go_enter Tryz.func56,Tryz.ntmps56;go_wp2_with fail;refine H.out.mono ?_;rintro e w3 ⟨rfl,hb3⟩;have y3:=hid hb3;clear hb3;go_wp2_with fail;go_ret2
   exact⟨rfl,y3.out⟩
  .go_enter Tryz.func56,Tryz.ntmps56;go_wp2_with fail;refine H.out.mono ?_;rintro e w3 ⟨rfl,hb3⟩;have y3:=hid hb3;clear hb3;go_wp2_with fail;go_ret2
   exact⟨rfl,y3.out⟩
 .rw[U0 he];have q1:(E != 0)=true:=by simpa using he
  clear he h3;go_enter Tryz.func56,Tryz.ntmps56;go_wp2_with fail;refine H.out.mono ?_;rintro e w3 ⟨rfl,hb3⟩;have y3:=hid hb3;clear hb3;go_wp2_with fail;go_ret2
  exact⟨rfl,y3.out⟩
def w0w (w:World)(s:ByteArray)(n:Nat)(hs:s.size<=1000000)(hq:qE s=0)(h0:0<(vQ s).num)(hn1:1<=n)(hn:n<=1000000000):
 Calls Tryz.prog 58 #[.string s,.int .i64 (-(n:Int))] w fun e w'=>e=.returned (.tuple #[.string (t0D n s),.int .i64 (t0C n s)])/\Below w.heap.size w w':=by
 have e1:t0D n s=c0p ((vQ s)⁻¹ ^ n):=J2 hq;have e2:t0C n s=c0G ((vQ s)⁻¹ ^ n):=J2 hq;rw[e1,e2];clear e1 e2;have R1:=hid (c0X w s hs);have hne:vQ s≠0:=fun e=>by rw[e]at h0;exact absurd h0 (by decide)
 obtain⟨i1,i2,i3⟩:=g0U hne;have fits:=e0a hq;have m0:decide ((vQ s).num<0)=false:=M6 (by omega);have g0:0<=((vQ s)⁻¹).num:=by rw[m0]at i1;simpa using i1
 have RO:=fun V v h=>hid (w0y V v (vQ s) h hne)
 have l0:(limbs (vQ s).num.natAbs).length≠0:=fun e=>by rw[f0g]at e;omega
 obtain⟨q,hqq⟩:=gn (vQ s);obtain⟨p,hp⟩:=gn ((vQ s)⁻¹);rw[hp]at RO i2 i3 g0 |-;rw[hp]at i1;obtain⟨p1,p2,p3⟩:=v0j g0 n;have P1:=fun V v h=>hid (f0X V v p.num.natAbs n h (by rw[i2];unfold ovQ at fits;omega) (by omega))
 have P2:=fun V v h=>hid (f0X V v p.den n h (by rw[i3];unfold ovQ at fits;omega) (by omega))
 have PW:=fun V v h (h1:nDigits (p.num.natAbs ^ n)<=4000) (h2:nDigits (p.den ^ n)<=4000)=>hid (d0E V v (p ^ n) h (by rw[p1];exact O0 (a0n h1) (by omega)) (by rw[p2];exact O0 (a0n h2) (by omega)))
 have OV:=hid (fun (h:4000<nDigits (p.num.natAbs ^ n)\/4000<nDigits (p.den ^ n))=>(show c0p (p ^ n)=⟨#[]⟩/\c0G (p ^ n)=5 from by
  have:ovQ (p ^ n):=by unfold ovQ;rw[p1,p2];exact h
  exact⟨J2 this,J2 this⟩))
 obtain⟨z,hz⟩:∃ z:Int,-(n:Int)=z:=⟨_,rfl⟩;have t1:decide (z<0)=true:=E7 (by omega);have t2:(z == -9223372036854775808)=false:=by rw[U4];omega
 have wz:IntKind.i64.wrap (-z)=(n:Int):=by rw[Q0 _ ⟨by omega,by omega⟩];omega
 have m1:decide (p.num<0)=false:=M6 (by omega);rw[hz];have HQ:=hid hq;have HP1:=hid p1;have HP2:=hid p2;have HP3:=hid p3;have HM0:=hid m0;have HM1:=hid m1;have L0:=hid l0;clear hs hq p1 p2 p3 h0 m0 fits hne i1 i2 i3 g0 l0 hp hqq hz m1 hn hn1;go_enter Tryz.func58,Tryz.ntmps58;go_wp2_with fail;refine R1.out.mono ?_;rintro e w1 ⟨⟨v,rfl,hv,-⟩,hb1⟩;have HV:=hid (hv HQ.out);obtain⟨N,D,rfl,hN,hD⟩:=(hv HQ.out).ex;obtain⟨a1,c1,rfl,-⟩:=hN.openI;obtain⟨a2,c2,rfl,-⟩:=hD.openI;rw[HM0.out]at HV;rw[HM0.out,HQ.out];have hl1:=L0.out;obtain⟨k1,hk1⟩:=gn ((limbs (vQ s).num.natAbs).length);obtain⟨k2,hk2⟩:=gn ((limbs (vQ s).den).length);rw[hk1]at hl1;rw[hk1,hk2]at HV;rw[hk1,hk2];have t3:((k1:Int)==0)=false:=by rw[U4];omega
 have y1:=hid hb1;have X1:=hid (Blk.new w1 #[.bool false,.slice a1 k1 c1,.slice a2 k2 c2] 81);have A1:=hid ((Z3 w1.heap.size w1).alloc nr0 (.cells #[.bool false,.slice a1 k1 c1,.slice a2 k2 c2] 81));have HV1:=hid (HV.out.call A1.out);have f0:=X1.out.cell 0;have f1:=X1.out.cell 1;have f2:=X1.out.cell 2;simp at f0 f1 f2;clear hb1 hv hN hD hk1 hk2 hl1;go_wp2_with fail;refine (RO _ _ HV1.out).out.mono ?_;rintro e w2 ⟨⟨v2,rfl,hv2⟩,hb2⟩;obtain⟨N2,D2,rfl,hN2,hD2⟩:=hv2.ex;obtain⟨a3,c3,rfl,-⟩:=hN2.openI;obtain⟨a4,c4,rfl,-⟩:=hD2.openI;rw[HM1.out];obtain⟨k3,hk3⟩:=gn ((limbs p.num.natAbs).length);obtain⟨k4,hk4⟩:=gn ((limbs p.den).length);rw[hk3]at hN2 |-;rw[hk4]at hD2 |-;have X2:=hid (X1.out.call hb2);have y2:=hid (a0a (a0a y1.out A1.out) hb2);clear f0 f1 f2;have d0:=X2.out.cell 0;have d1:=X2.out.cell 1;have d2:=X2.out.cell 2;have e0:=X2.out.free 0;have e1:=X2.out.free 1;have e2:=X2.out.free 2;simp at d0 d1 d2;obtain⟨s1,s2⟩:=c0W X2.out false a3 a4 k3 c3 k4 c4;have g0:=s2.cell 0;have g1:=s2.cell 1;have g2:=s2.cell 2;simp at g0 g1 g2;have HN:=hid (s1 _ _ _ hN2);have HD:=hid (s1 _ _ _ hD2);have X3:=hid s2;clear hb2 hv2 hN2 hD2 hk3 hk4 s1 s2;have Y3:=hid (((y2.out.setCell (p:=⟨w1.heap.size,0,none⟩) y1.out.size (.bool false)).setCell (p:=⟨w1.heap.size,1,none⟩) y1.out.size (.slice a3 k3 c3)).setCell (p:=⟨w1.heap.size,2,none⟩) y1.out.size (.slice a4 k4 c4));go_wp2_with fail;obtain⟨gx,hgx⟩:=gn (w1.heap.size);rw[hgx]at X3 HN HD Y3 |-;obtain⟨w3,hw3⟩:=gn (((w2.setCell ⟨gx,0,none⟩ (.bool false)).setCell ⟨gx,1,none⟩ (.slice a3 k3 c3)).setCell ⟨gx,2,none⟩ (.slice a4 k4 c4));rw[hw3]at X3 HN HD Y3 |-;clear d0 d1 d2 e0 e1 e2 g0 g1 g2 hw3 hgx;refine (P1 _ _ HN.out).out.mono ?_;rintro e w4 ⟨h,hb4⟩;have X4:=hid (X3.out.call hb4);have y4:=hid (a0a Y3.out hb4);have D4:=hid (HD.out.call hb4);have r2:=X4.out.cell 2;simp at r2;rcases h with ⟨d1,v3,rfl,hv3⟩ | ⟨d1,rfl⟩
 .have N4:=hid hv3;have DD1:=hid d1;obtain⟨a5,c5,rfl,-⟩:=hv3.openI;obtain⟨k5,hk5⟩:=gn ((limbs (p.num.natAbs ^ n)).length);rw[hk5]at N4 |-;clear hb4 hv3 d1 hk5;go_wp2_with fail;refine (P2 _ _ D4.out).out.mono ?_;rintro e w5 ⟨h,hb5⟩;have y5:=hid (a0a y4.out hb5);have N5:=hid (N4.out.call hb5);rcases h with ⟨d2,v4,rfl,hv4⟩ | ⟨d2,rfl⟩
  .have D5:=hid hv4;have DD2:=hid d2;obtain⟨a6,c6,rfl,-⟩:=hv4.openI;obtain⟨k6,hk6⟩:=gn ((limbs (p.den ^ n)).length);rw[hk6]at D5 |-;have iq:IsQ .i64 w5 (.agg #[.bool false,.slice a5 k5 c5,.slice a6 k6 c6]) (p ^ n):=⟨.slice a5 k5 c5,.slice a6 k6 c6,by rw[HP3.out],by rw[HP1.out];exact N5.out,by rw[HP2.out];exact D5.out⟩;have IQ:=hid iq;clear hb5 hv4 d2 hk6 iq;go_wp2_with fail;refine (PW _ _ IQ.out DD1.out DD2.out).out.mono ?_;rintro e w6 ⟨rfl,hb6⟩;have y6:=hid (a0a y5.out hb6);clear hb6;go_wp2_with fail;go_ret2
   exact⟨rfl,y6.out⟩
  .obtain⟨o1,o2⟩:=OV.out (.inr d2);have O1:=hid o1;have O2:=hid o2;clear hb5 d2 o1 o2;go_wp2_with fail;go_ret2
   exact⟨by rw[O1.out,O2.out];rfl,y5.out⟩
 .obtain⟨o1,o2⟩:=OV.out (.inl d1);have O1:=hid o1;have O2:=hid o2;clear hb4 d1 o1 o2;go_wp2_with fail;refine (P2 _ _ D4.out).out.mono ?_;rintro e w5 ⟨h,hb5⟩;have y5:=hid (a0a y4.out hb5);rcases h with ⟨-,v4,rfl,hv4⟩ | ⟨-,rfl⟩
  all_goals
   try obtain⟨a6,c6,rfl,-⟩:=hv4.openI
   try clear hv4
   clear hb5;go_wp2_with fail;go_ret2
   exact⟨by rw[O1.out,O2.out];rfl,y5.out⟩
def w0x (w:World)(s:ByteArray)(n:Nat)(z:Int)(hs:s.size<=1000000)(hq:qE s=0)(h0:0<(vQ s).num)(hn:n<=1000000000)(hz:z = -(n:Int)):
 Calls Tryz.prog 58 #[.string s,.int .i64 z] w fun e w'=>e=.returned (.tuple #[.string (t0D n s),.int .i64 (t0C n s)])/\Below w.heap.size w w':=by
 subst hz;by_cases h:n=0
 .subst h;have e1:t0D 0 s=c0p (vQ s ^ 0):=by
   unfold t0D z0z;rw[J2 hq];show c0p ((vQ s)⁻¹ ^ 0)=_
   rw[Nc,Nc]
  have e2:t0C 0 s=c0G (vQ s ^ 0):=by
   unfold t0C z0y;rw[J2 hq];show c0G ((vQ s)⁻¹ ^ 0)=_
   rw[Nc,Nc]
  rw[e1,e2];exact o0g w s 0 hs hq (by omega) (by omega)
 .exact w0w w s n hs hq h0 (by omega) hn
def o0i (w:World)(a:ByteArray)(reach:Int)(one:Bool)(ha:a.size<=100000):
 Calls Tryz.prog 25 #[.string a,.int .i64 reach,.bool one] w fun e w'=>e=.returned (.tuple #[.string (ffB a reach one),.int .i64 (ffE a reach one)])/\Below w.heap.size w w':=by
 have HR:=hid (l0o w a (by omega));unfold ffB ffE;by_cases h0:ffX a reach=0
 .rw[U0 (by rw[h0];simp),U0 (by rw[h0];simp)];have h0':=h0;unfold ffX at h0'
  split at h0'
  .rename_i h1;exact absurd h0' h1
  rename_i h1
  have h1:n0b a=0:=Af h1
  split at h0'
  .cases h0'
  rename_i h2
  rw[h1]at HR;obtain⟨hq,hnum⟩:=r0a h1;obtain⟨r,rfl⟩:∃ r:Nat,reach=(r:Nat):=⟨reach.toNat,by omega⟩;obtain⟨M,hM'⟩:=gn (ffM (r:Nat) one);have hM:M=if one=true then r else 2*r:=by rw[<- hM'];unfold ffM;rw[Be]
  have hMb:M<=20000:=by rw[hM];split<;>omega
  rw[hM'];have HP:=fun V=>hid (w0x V a M (-(M:Int)) (by omega) hq hnum (by omega) rfl)
  obtain⟨B,hB⟩:=gn (t0D M a);obtain⟨E,hE⟩:=gn (t0C M a);rw[hB,hE]at HP |-;have t1:decide ((r:Int)<0)=false:=M6 (by omega);have t2:decide ((10000:Int)<(r:Int))=false:=M6 (by omega);have t3:decide (10000<r)=false:=M6 (by omega);have wn:IntKind.i64.wrap (-(M:Int)) = -(M:Int):=by rw[Q0 _ ⟨by omega,by omega⟩]
  cases one
  focus
   have wr2:IntKind.i64.wrap (2*(r:Int))=(M:Int):=by rw[hM,Q0 _ ⟨by omega,by omega⟩];simp
   clear ha h0 h0' h1 h2 hq hnum hM' hM hMb hB hE
  rotate_left
  focus
   obtain rfl:M=r:=hM;clear ha h0 h0' h1 h2 hq hnum hM' hMb hB hE
  all_goals
   go_enter Tryz.func25,Tryz.ntmps25;go_wp2_with fail;refine HR.out.mono ?_;rintro e w1 ⟨rfl,hb1⟩;have y1:=hid hb1;clear hb1;go_wp2_with fail;refine (HP _).out.mono ?_;rintro e w2 ⟨rfl,hb2⟩;have y2:=hid (a0a y1.out hb2);clear hb2;go_wp2_with fail;go_ret2
   exact⟨rfl,y2.out⟩
 .rw[J2 h0,J2 h0];unfold ffX at h0 |-;by_cases hiv:n0b a=0
  focus
   rw[U0 (by rw[hiv];simp)]at h0 |-;rw[hiv]at HR;by_cases c1:reach<0
   focus
    rw[J2 (.inl c1)];have t1:decide (reach<0)=true:=E7 c1;clear h0 c1 ha hiv
   rotate_left
   focus
    have t1:decide (reach<0)=false:=M6 c1;by_cases c2:10000<reach
    focus
     rw[J2 (.inr c2)];have t2:decide (10000<reach)=true:=E7 c2;clear h0 c1 c2 ha hiv
    rotate_left
    .exact absurd (U0 (by omega)) h0
  rotate_left 2
  focus
   rw[J2 hiv];obtain⟨E,hE⟩:=gn (n0b a);rw[hE]at HR hiv |-;have q1:(E != 0)=true:=by simpa using hiv
   clear h0 hiv ha hE
  all_goals
   go_enter Tryz.func25,Tryz.ntmps25;go_wp2_with fail;refine HR.out.mono ?_;rintro e w0 ⟨rfl,hb0⟩;go_wp2_with fail;go_ret2
   exact⟨rfl,hb0⟩
def x0M (w:World)(a:ByteArray)(n:Int)(two:Bool)(ha:a.size<=100000):
 Calls Tryz.prog 147 #[.string a,.int .i64 n,.bool two] w fun e w'=>e=.returned (.tuple #[.string (glB a n two),.int .i64 (glE a n 256)])/\Below w.heap.size w w':=by
 have HA:=hid (b0V w a (by omega));by_cases he:gPE a=0
 focus
  by_cases hn:n<0\/256<n
  focus
   have e1:glE a n 256=2:=by unfold glE;rw[U0 (by rw[he];simp),J2 hn]
   have e2:glB a n two=⟨#[]⟩:=by unfold glB;rw[U0 (by rw[e1];decide)]
   rw[e1,e2];rw[he]at HA;obtain⟨b1,k1⟩:=gn (decide (n<0));obtain⟨b2,k2⟩:=gn (decide (256<n));have k3:(b1 || b2)=true:=by rw[<- k1,<- k2];simpa using hn
   clear ha he hn e1 e2;cases b1
   focus
    obtain rfl:b2=true:=by simpa using k3
    clear k3
   rotate_left
   focus
    clear k2 k3
  rotate_left 2
  focus
   obtain⟨m,rfl⟩:∃ m:Nat,n=(m:Nat):=⟨n.toNat,by omega⟩;have e1:glE a (m:Nat) 256=0:=by unfold glE;rw[U0 (by rw[he];simp),U0 hn]
   unfold glB;rw[J2 e1,e1];by_cases h0:a=⟨#[48]⟩
   focus
    obtain⟨q1,q2⟩:=h0F h0;rw[q1,q2,r0r (by omega),f0T];rw[he]at HA;have ze:(a.toList == [48])=true:=by rw[h0];exact c0l
    have n0:(decide ((m:Int)<0))=false:=by simp
    have n1:(decide ((256:Int)<(m:Int)))=false:=by simp;omega
    clear ha he hn e1 q1 q2 h0
   rotate_left
   .exact o0N w a m two ha he (by omega) h0
 rotate_left 3
 focus
  have e1:glE a n 256=gPE a:=by unfold glE;rw[J2 he]
  have e2:glB a n two=⟨#[]⟩:=by unfold glB;rw[U0 (by rw[e1];exact he)]
  rw[e1,e2];obtain⟨x,hx⟩:=gn (gPE a);rw[hx]at HA he |-;have x0:(x != 0)=true:=by simpa using he
  clear ha he hx e1 e2
 all_goals
  go_enter Tryz.func147,Tryz.ntmps147;go_wp2_with fail;refine HA.out.mono ?_;rintro e w1 ⟨rfl,hb1⟩;have B1:=hid hb1;clear hb1 HA;go_wp2_with fail;go_ret2
  exact⟨rfl,B1.out⟩
def o0P (w:World)(a:ByteArray)(n:Int)(ha:a.size<=100000):
 Calls Tryz.prog 90 #[.string a,.int .i64 n] w fun e w'=>e=.returned (.tuple #[.string (glB a n false),.int .i64 (glE a n 256)])/\Below w.heap.size w w':=by
 have H:=hid (x0M w a n false ha);obtain⟨o,ho⟩:=gn (glB a n false);obtain⟨x,hx⟩:=gn (glE a n 256);rw[ho,hx]at H |-;clear ha ho hx;go_enter Tryz.func90,Tryz.ntmps90;go_wp2_with fail;refine H.out.mono ?_;rintro e w1 ⟨rfl,hb1⟩;have B1:=hid hb1;clear hb1;go_wp2_with fail;go_ret2
 exact⟨rfl,B1.out⟩
def t0w (w:World)(a:ByteArray)(n many:Int)(ha:a.size<=100000):
 Calls Tryz.prog 23 #[.string a,.int .i64 n,.int .i64 many] w fun e w'=>e=.returned (.tuple #[.string (a1m a n many),.int .i64 (a1l a n many)])/\Below w.heap.size w w':=by
 have HR:=hid (b0V w a (by omega));unfold a1m a1l;by_cases hg:gPE a=0
 focus
  rw[hg]at HR;by_cases c1:n<0
  focus
   have hx:j0r a n many=2:=by unfold j0r;rw[U0 (by simpa using hg),J2 (.inl c1)]
   rw[hx,J2 (by decide),J2 (by decide)];have t1:decide (n<0)=true:=E7 c1;clear ha hg c1 hx
  rotate_left
  have t1:decide (n<0)=false:=M6 c1;by_cases c2:256<n
  focus
   have hx:j0r a n many=2:=by unfold j0r;rw[U0 (by simpa using hg),J2 (.inr (.inl c2))]
   rw[hx,J2 (by decide),J2 (by decide)];have t2:decide (256<n)=true:=E7 c2;clear ha hg c1 c2 hx
  rotate_left
  have t2:decide (256<n)=false:=M6 c2;by_cases c3:many<1
  focus
   have hx:j0r a n many=2:=by unfold j0r;rw[U0 (by simpa using hg),J2 (.inr (.inr (.inl c3)))]
   rw[hx,J2 (by decide),J2 (by decide)];have t3:decide (many<1)=true:=E7 c3;clear ha hg c1 c2 c3 hx
  rotate_left
  have t3:decide (many<1)=false:=M6 c3;by_cases c4:256<many
  focus
   have hx:j0r a n many=2:=by unfold j0r;rw[U0 (by simpa using hg),J2 (.inr (.inr (.inr c4)))]
   rw[hx,J2 (by decide),J2 (by decide)];have t4:decide (256<many)=true:=E7 c4;clear ha hg c1 c2 c3 c4 hx
  rotate_left
  have t4:decide (256<many)=false:=M6 c4;have hx:j0r a n many=0:=by unfold j0r;rw[U0 (by simpa using hg),U0 (by omega)]
  rw[hx,U0 (by decide),U0 (by decide)];have HO:=fun V=>hid (o0P V a n ha)
  obtain⟨E0,hE0⟩:=gn (glE a n 256);rw[hE0]at HO;obtain⟨m,rfl⟩:∃ m:Nat,many=(m:Nat):=⟨many.toNat,by omega⟩;have HI:=fun V=>hid (j0Z V m (by omega))
  have HT:=fun V=>hid (z0k V (glB a n false) (a0f m) (O0 (n0e _ _ _) (by omega)) (by rw[a0t];have:=a0l (n:=m) (k:=3) (by omega) (by omega);omega))
  have HM:=fun V=>hid (z0l V (d0j (· * ·) (glB a n false) (a0f m)) ⟨#[49]⟩ (O0 (r0t _ _ _) (by omega)) (by show 1<=1000000;omega))
  unfold b1i;rw[Be];obtain⟨G,hG⟩:=gn (glB a n false);obtain⟨I,hI⟩:=gn (a0f m);rw[hG]at HO HT HM |-;rw[hI]at HI HT HM |-;obtain⟨T,hT⟩:=gn (d0j (· * ·) G I);obtain⟨ET,hET⟩:=gn (h0o (· * ·) G I);rw[hT]at HT HM |-;rw[hET]at HT;obtain⟨B,hB⟩:=gn (mnB T ⟨#[49]⟩);obtain⟨E,hE⟩:=gn (cmE T ⟨#[49]⟩);rw[hB,hE]at HM |-;obtain⟨M,hMM⟩:∃ M:Int,((m:Nat):Int)=M:=⟨_,rfl⟩;rw[hMM]at HI t3 t4 |-;clear ha hg c1 c2 c3 c4 hx hE0 hG hI hT hET hB hE hMM;go_enter Tryz.func23,Tryz.ntmps23;go_wp2_with fail;refine HR.out.mono ?_;rintro e w1 ⟨rfl,hb1⟩;have y1:=hid hb1;clear hb1;go_wp2_with fail;refine (HO _).out.mono ?_;rintro e w2 ⟨rfl,hb2⟩;have y2:=hid (a0a y1.out hb2);clear hb2;go_wp2_with fail;refine (HI _).out.mono ?_;rintro e w3 ⟨rfl,rfl⟩;go_wp2_with fail;refine (HT _).out.mono ?_;rintro e w4 ⟨rfl,hb4⟩;have y4:=hid (a0a y2.out hb4);clear hb4;go_wp2_with fail;refine (HM _).out.mono ?_;rintro e w5 ⟨rfl,hb5⟩;have y5:=hid (a0a y4.out hb5);clear hb5;go_wp2_with fail;go_ret2
  exact⟨rfl,y5.out⟩
 rotate_left 4
 focus
  have hx:j0r a n many=gPE a:=by unfold j0r;rw[J2 hg]
  rw[hx,J2 hg,J2 hg];obtain⟨E,hE⟩:=gn (gPE a);rw[hE]at HR hg |-;have q1:(E != 0)=true:=by simpa using hg
  clear ha hg hx hE
 all_goals
  go_enter Tryz.func23,Tryz.ntmps23;go_wp2_with fail;refine HR.out.mono ?_;rintro e w0 ⟨rfl,hb0⟩;go_wp2_with fail;go_ret2
  exact⟨rfl,hb0⟩
def r0f:(Tryz.prog.info? 3).map (fun i=>(i.zero,i.size,i.bytes))=some (some (.int .i64 0),1,8):=by kernel_rfl
def x0k (w:World)(v:Value)(l:List Int)(hv:Row w v (zs l))(hl:l.length<=1000000):
 Calls Tryz.prog 8 #[v] w fun e w'=>(∃ u,e=.returned u/\w'.ownsRow w.heap.size 3 1 u l.length (zs l))/\Below w.heap.size w w':=by
 obtain⟨i0,hi,hz0,hz1,hz2⟩:=Dj r0f;obtain⟨a,c,rfl,q1,q2,q3⟩:=hv.ex;rw[zs_length]at *;have SRC:Hid (∀ j u,(zs l)[j]?=some u->∃ ad,a=some ad/\(w.alloc (.cells #[] 3)).cell? (ad.add j)=some u):=fun j u hu=>by
  obtain⟨g,o,rfl,hg,hc⟩:=q3 j u hu;refine⟨_,rfl,?_⟩;rw[Addr.add_lit];exact (((Z3 w.heap.size w).alloc nr0 (.cells #[] 3)).cell (p:=⟨g,o+j,none⟩) hg).trans hc
 have HO:=hid (show (w.alloc (.cells #[] 3)).ownsRow w.heap.size 3 1 (.slice (some ⟨w.heap.size,0,none⟩) 0 0) 0 [] from Jk _ _ 0 nr0 (by unfold maxLen;omega) rfl);have HB:=hid ((Z3 w.heap.size w).alloc nr0 (.cells #[] 3));obtain⟨n,hn⟩:=gn (l.length);have HN:=hid (show (zs l).length=n*1 from by rw[zs_length,hn];omega);rw[hn]at hl q1 |-;clear hv q3 hn;go_enter Tryz.func8,Tryz.ntmps8;go_wp2_with (at_builtin;refine c0H rfl _ _ 22 rfl w.heap.size 3 i0 (.int .i64 0) 1 8 Tryz.underlying22 hi hz0 hz1 hz2 rfl (by decide) (.slice (some ⟨w.heap.size,0,none⟩) 0 0) 0 [] rfl HO.out (by intro e;cases e) a n c (zs l) rfl HN.out SRC.out (y0E l) (by unfold maxLen;omega) (by omega) (by simp) ?_;intro v1 w1 hown1 hg1 hne1;have O1:=hid hown1;have G1:=hid hg1;clear hown1 hg1 hne1)
 go_ret
 refine⟨⟨_,rfl,?_⟩,e0e HO.out HB.out G1.out⟩;have:=O1.out;simpa using this
def z0V (w:World)(v:Value)(l:List Int)(hv:Row w v (zs l))(hl:l.length<=1000000):
 Calls Tryz.prog 8 #[v] w fun e w'=>(∃ u,e=.returned u/\Row w' u (zs l))/\Below w.heap.size w w':=
 (x0k w v l hv hl).mono fun e w' h=>by
  obtain⟨⟨u,h1,h2⟩,h3⟩:=h;exact⟨⟨u,h1,Row.of_owns h2⟩,h3⟩
def r0h:(Tryz.prog.info? 26).map (fun i=>(i.zero,i.size,i.bytes))=some (some (.string ⟨#[]⟩),1,16):=by kernel_rfl
def p0G (l:List ByteArray):∀ u∈d0k l,u.oneCell'=true:=by
 intro u hu;obtain⟨x,_,rfl⟩:=Fr.1 hu
 rfl
def z0W (w:World)(v:Value)(l:List ByteArray)(hv:Row w v (d0k l))(hl:l.length<=1000000):
 Calls Tryz.prog 9 #[v] w fun e w'=>(∃ u,e=.returned u/\Row w' u (d0k l))/\Below w.heap.size w w':=by
 obtain⟨i0,hi,hz0,hz1,hz2⟩:=Dj r0h;obtain⟨a,c,rfl,q1,q2,q3⟩:=hv.ex;rw[strs_length]at *;have SRC:Hid (∀ j u,(d0k l)[j]?=some u->∃ ad,a=some ad/\(w.alloc (.cells #[] 26)).cell? (ad.add j)=some u):=fun j u hu=>by
  obtain⟨g,o,rfl,hg,hc⟩:=q3 j u hu;refine⟨_,rfl,?_⟩;rw[Addr.add_lit];exact (((Z3 w.heap.size w).alloc nr0 (.cells #[] 26)).cell (p:=⟨g,o+j,none⟩) hg).trans hc
 have HO:=hid (show (w.alloc (.cells #[] 26)).ownsRow w.heap.size 26 1 (.slice (some ⟨w.heap.size,0,none⟩) 0 0) 0 [] from Jk _ _ 0 nr0 (by unfold maxLen;omega) rfl);have HB:=hid ((Z3 w.heap.size w).alloc nr0 (.cells #[] 26));obtain⟨n,hn⟩:=gn (l.length);have HN:=hid (show (d0k l).length=n*1 from by rw[strs_length,hn];omega);rw[hn]at hl q1 |-;clear hv q3 hn;go_enter Tryz.func9,Tryz.ntmps9;go_wp2_with (at_builtin;refine c0H rfl _ _ 24 rfl w.heap.size 26 i0 (.string ⟨#[]⟩) 1 16 Tryz.underlying24 hi hz0 hz1 hz2 rfl (by decide) (.slice (some ⟨w.heap.size,0,none⟩) 0 0) 0 [] rfl HO.out (by intro e;cases e) a n c (d0k l) rfl HN.out SRC.out (p0G l) (by unfold maxLen;omega) (by omega) (by simp) ?_;intro v1 w1 hown1 hg1 hne1;have O1:=hid hown1;have G1:=hid hg1;clear hown1 hg1 hne1)
 go_ret
 exact⟨⟨_,rfl,Row.of_owns O1.out⟩,e0e HO.out HB.out G1.out⟩
def Kh:=@Go.Proofs.Tryz.func4
def k0Y (w:World)(v u:Value)(c:List Int)(a:ByteArray)(b:List ByteArray)(n many reach:Int)(one:Bool)(hv:Row w v (zs c))(hu:Row w u (d0k b))(hc:c.length<=maxLen)(ha:a.size<=maxLen)(hb:∀ x∈b,x.size<=maxLen)(hL:LayB w):
 Calls Tryz.prog 4 #[v,.string a,u,.int .i64 n,.int .i64 many,.int .i64 reach,.bool one] w fun e w'=>e=.returned (.bool true)/\Below w.heap.size w w':=by
 have HLV:=hid (p0o w hL);unfold maxLen at hc ha hb;obtain⟨s,cp,rfl,q1,q2,q3⟩:=hv.openZ;obtain⟨t,cq,rfl,p1,p2,p3⟩:=hu.openS;obtain⟨L,hLL⟩:=gn (c.length);obtain⟨N,hN⟩:=gn (b.length);have HV:=hid hv;have HU:=hid hu;have P3:=hid p3;have HLL:=hid hLL;have HNN:=hid hN;have HL:=hid hL;rw[hLL]at HV q1 hc |-;rw[hN]at HU p1 |-;clear hv hu q3 p3 hLL hN hL hb;by_cases c1:40<L
 .have t1:decide ((40:Int)<(L:Int))=true:=E7 (by omega);clear c1 hc ha;go_enter Kh,Tryz.ntmps4;go_wp2_with fail;refine HLV.out.mono ?_;rintro e w1 ⟨rfl,hb1⟩;go_wp2_with fail;go_ret
  exact⟨rfl,hb1⟩
 have t1:decide ((40:Int)<(L:Int))=false:=M6 (by omega);by_cases c2:40<a.size
 .have t2:decide ((40:Int)<(a.size:Int))=true:=E7 (by omega);clear c1 c2 hc ha;go_enter Kh,Tryz.ntmps4;go_wp2_with fail;refine HLV.out.mono ?_;rintro e w1 ⟨rfl,hb1⟩;go_wp2_with fail;go_ret
  exact⟨rfl,hb1⟩
 have t2:decide ((40:Int)<(a.size:Int))=false:=M6 (by omega);by_cases c3:50<N
 .have t3:decide ((50:Int)<(N:Int))=true:=E7 (by omega);clear c1 c2 c3 hc ha;go_enter Kh,Tryz.ntmps4;go_wp2_with fail;refine HLV.out.mono ?_;rintro e w1 ⟨rfl,hb1⟩;go_wp2_with fail;go_ret
  exact⟨rfl,hb1⟩
 have t3:decide ((50:Int)<(N:Int))=false:=M6 (by omega);by_cases c4:60<n/\n<=256
 .have t4:decide ((60:Int)<n)=true:=E7 c4.1;have t5:decide (n<=(256:Int))=true:=E7 c4.2;clear c1 c2 c3 c4 hc ha;go_enter Kh,Tryz.ntmps4;go_wp2_with fail;refine HLV.out.mono ?_;rintro e w1 ⟨rfl,hb1⟩;go_wp2_with fail;go_ret
  exact⟨rfl,hb1⟩
 have key:(decide ((60:Int)<n)=false)\/(decide ((60:Int)<n)=true/\decide (n<=(256:Int))=false):=by
  by_cases h:60<n
  .exact .inr ⟨E7 h,M6 (fun e=>c4 ⟨h,e⟩)⟩
  .exact .inl (M6 h)
 have HA:=hid (show a.size<=100000 by omega);have HN50:=hid (show N<=50 by omega);have HL40:=hid (show L<=40 by omega);have P1:=fun V v u hv hu hb hV=>hid (r0B V v u c a b hv hu HA.out hb hV)
 have P2:=fun V hv hu hb=>hid (t0v V (.slice s L cp) (.slice t N cq) c a b hv hu HA.out hb)
 have P3':=fun V hV=>hid (x0K V a n many HA.out hV)
 have P4:=fun V=>hid (t0w V a n many HA.out)
 have P5:=fun V hV=>hid (r0D V a reach one HA.out hV)
 have P6:=fun V=>hid (o0i V a reach one HA.out)
 have P7:=fun V hv hV=>hid (v0B V (.slice s L cp) c a n hv HA.out hV)
 have P8:=fun V hv=>hid (w0z V (.slice s L cp) c a n hv HA.out)
 have PO:=fun V hV=>hid (z0V V (.slice s L cp) c hV (by rw[HLL.out];have:=HL40.out;omega))
 have PB:=fun V hV=>hid (z0W V (.slice t N cq) b hV (by rw[HNN.out];have:=HN50.out;omega))
 have PM:=fun V u v hu hv=>hid (q0Y V u v (flR c a n) (flR c a n) hu hv)
 rw[E7 rfl]at PM;obtain⟨X1,hX1⟩:=gn ((pkA c a b).1);obtain⟨X2,hX2⟩:=gn ((pkA c a b).2);obtain⟨X3,hX3⟩:=gn (pkE c a b);obtain⟨X4,hX4⟩:=gn (a1m a n many);obtain⟨X5,hX5⟩:=gn (a1l a n many);obtain⟨X6,hX6⟩:=gn (ffB a reach one);obtain⟨X7,hX7⟩:=gn (ffE a reach one);obtain⟨X8,hX8⟩:=gn (flE c a n);obtain⟨X9,hX9⟩:=gn (flR c a n);rw[hX1,hX2,hX3]at P1 P2;rw[hX4,hX5]at P3' P4;rw[hX6,hX7]at P5 P6;rw[hX8,hX9]at P7 P8;rw[hX9]at PM;have W1:∃ x,IntKind.i64.wrap (n*(L:Int))=x:=⟨_,rfl⟩;obtain⟨NL,hNL⟩:=W1;have kA:(decide ((6:Int)<n)=false)\/(decide ((6:Int)<n)=true/\decide (n<=(32:Int))=false)\/(decide ((6:Int)<n)=true/\decide (n<=(32:Int))=true):=by
  by_cases h:6<n
  .by_cases h2:n<=32
   .exact .inr (.inr ⟨E7 h,E7 h2⟩)
   .exact .inr (.inl ⟨E7 h,M6 h2⟩)
  .exact .inl (M6 h)
 have kB:(decide ((4:Int)<(L:Int))=false)\/(decide ((4:Int)<(L:Int))=true/\decide ((0:Int)<n)=false)\/(decide ((4:Int)<(L:Int))=true/\decide ((0:Int)<n)=true/\decide (NL<=(256:Int))=false)\/(decide ((4:Int)<(L:Int))=true/\decide ((0:Int)<n)=true/\decide (NL<=(256:Int))=true):=by
  by_cases h:(4:Int)<(L:Int)
  .by_cases h2:0<n
   .by_cases h3:NL<=256
    .exact .inr (.inr (.inr ⟨E7 h,E7 h2,E7 h3⟩))
    .exact .inr (.inr (.inl ⟨E7 h,E7 h2,M6 h3⟩))
   .exact .inr (.inl ⟨E7 h,M6 h2⟩)
  .exact .inl (M6 h)
 have KA:=hid kA;have KB:=hid kB;have HNL:=hid hNL;clear c1 c2 c3 c4 hc ha hX1 hX2 hX3 hX4 hX5 hX6 hX7 hX8 hX9 kA kB hNL;rcases key with t4 | ⟨t4,t5⟩
 all_goals
  go_enter Kh,Tryz.ntmps4;go_wp2_with fail;refine HLV.out.mono ?_;rintro e w1 ⟨rfl,hb1⟩;have y1:=hid hb1;clear hb1;go_wp2_with fail;obtain⟨w1',hw1'⟩:∃ x:World,x=w1:=⟨_,rfl⟩
  go_loop [15] (fun s15=>∃ i:Nat,s15=.int .i64 (i:Nat)/\i<=N/\Hid (∀ (j:Nat) (x:ByteArray),j<i->b[j]?=some x->x.size<=300)) (fun s15=>N-(intOf s15).toNat)
  case atStart=>exact⟨0,rfl,S4 _,fun j x hj=>absurd hj (by omega)⟩
  case round=>
   clear hw1';obtain⟨i,rfl,hi',hI⟩:=hrel;by_cases hlt:i<N
   .obtain⟨x,hx⟩:∃ x,b[i]?=some x:=⟨_,J0 (by rw[HNN.out];exact hlt)⟩;obtain⟨g,o,rfl,hg,hc⟩:=P3.out i x hx;have c1:=(y1.out.cell (p:=⟨g,o+i,none⟩) hg).trans hc;have HX:=hid hx;have f0:(0:Int)<=(i:Int):=by omega
    have f1:(i:Int)<(N:Int):=by omega
    have wi:IntKind.i64.wrap ((i:Int)+1)=((i+1:Nat):Int):=by have:=HN50.out;rw[Q0 _ ⟨by omega,by omega⟩];omega
    by_cases h6:300<x.size
    .have q1:decide ((300:Int)<(x.size:Int))=true:=E7 (by omega);clear hx hc hg h6 hi';go_wp2_with fail;go_ret
     exact⟨rfl,y1.out⟩
    .have q1:decide ((300:Int)<(x.size:Int))=false:=M6 (by omega);have HLE:=hid (show x.size<=300 by omega);have IL:=hid hlt;clear hx hc hg h6 hi' hlt;go_wp2_with fail;go_round
     case rel=>exact⟨i+1,by go_num,IL.out,fun j y hj hy=>by
      rcases Cc j i with h | h
      .exact hI.out j y h hy
      .obtain rfl:j=i:=by omega
       rw[HX.out]at hy;cases hy;exact HLE.out⟩
     case measure=>simp[intOf]<;>(have:=IL.out;omega)
   .obtain rfl:i=N:=by omega
    have q1:decide ((i:Int)<(i:Int))=false:=by simp
    have hB300:∀ x∈b,x.size<=100000000:=fun x hx=>by
     obtain⟨j,hj⟩:=Cp hx;have:=hI.out j x (by rw[<- HNN.out];exact (O4.1 hj).1) hj;omega
    have HB300:=hid hB300;clear hlt hi' hI hB300;go_wp2_with fail;refine (PO _ (HV.out.call y1.out)).out.mono ?_;rintro e w2 ⟨⟨u2,rfl,hu2⟩,hb2⟩;have y2:=hid (a0a y1.out hb2);have U2:=hid hu2;obtain⟨a2,d2,rfl,-,-,-⟩:=hu2.openZ;rw[HLL.out]at U2 |-;clear hb2 hu2;go_wp2_with fail;refine (PB _ (HU.out.call y2.out)).out.mono ?_;rintro e w3 ⟨⟨u3,rfl,hu3⟩,hb3⟩;have y3:=hid (a0a y2.out hb3);have U3:=hid (U2.out.call hb3);have V3:=hid hu3;obtain⟨a3,d3,rfl,-,-,-⟩:=hu3.openS;rw[HNN.out]at V3 |-;clear hb3 hu3;go_wp2_with fail;refine (P1 _ _ _ U3.out V3.out HB300.out (HL.out.call y3.out).l).out.mono ?_;rintro e w4 ⟨rfl,hb4⟩;have y4:=hid (a0a y3.out hb4);clear hb4 U2 U3 V3;go_wp2_with fail;refine (P2 _ (HV.out.call y4.out) (HU.out.call y4.out) HB300.out).out.mono ?_;rintro e w5 ⟨rfl,hb5⟩;have y5:=hid (a0a y4.out hb5);clear hb5;go_wp2_with fail;refine (P3' _ (HL.out.call y5.out).l).out.mono ?_;rintro e w6 ⟨rfl,hb6⟩;have y6:=hid (a0a y5.out hb6);clear hb6;go_wp2_with fail;refine (P4 _).out.mono ?_;rintro e w7 ⟨rfl,hb7⟩;have y7:=hid (a0a y6.out hb7);clear hb7;go_wp2_with fail;refine (P5 _ (HL.out.call y7.out).l).out.mono ?_;rintro e w8 ⟨rfl,hb8⟩;have y8:=hid (a0a y7.out hb8);clear hb8;go_wp2_with fail;refine (P6 _).out.mono ?_;rintro e w9 ⟨rfl,hb9⟩;have y9:=hid (a0a y8.out hb9);clear hb9;have kA:=KA.out;have kB:=KB.out;have wNL:=HNL.out;rcases kA with z1 | ⟨z1,z2⟩ | ⟨z1,z2⟩
    all_goals
     rcases kB with r1 | ⟨r1,r2⟩ | ⟨r1,r2,r3⟩ | ⟨r1,r2,r3⟩
    all_goals
     go_wp2_with fail
     first
      | (go_ret
         exact⟨rfl,y9.out⟩)
      | (refine (P7 _ (HV.out.call y9.out) (HL.out.call y9.out)).out.mono ?_;rintro e wa ⟨⟨ua,rfl,hua⟩,hba⟩
         have ya:=hid (a0a y9.out hba);have Ma:=hid hua;obtain⟨aa,ca,rfl,-,-,-⟩:=hua.ex;clear hba hua;go_wp2_with fail;refine (P8 _ (HV.out.call ya.out)).out.mono ?_;rintro e wb ⟨⟨ub,rfl,hub⟩,hbb⟩;have yb:=hid (a0a ya.out hbb);have Mb:=hid (Ma.out.call hbb);have Nb:=hid hub;obtain⟨ab,cb,rfl,-,-,-⟩:=hub.ex;clear hbb hub;go_wp2_with fail;refine (PM _ _ _ Mb.out Nb.out).out.mono ?_;rintro e wc ⟨rfl,hbc⟩;have yc:=hid (a0a yb.out hbc);clear hbc;go_wp2_with fail;go_ret
         exact⟨rfl,yc.out⟩)
end
end Go.Proofs.YtfkpfpobmobnbaaGreatDoor
