/- Texts that the proof rests on, merged: Lr3, Lr4, Iw, Nr3, Nr4, Na1, AtZ, Sa6, Fd9, Na6, Nx1. -/
import Derived.Test.YtfkpfpobmobnbaaGreatDoorPc12
import Derived.WalkLawsBesides
import Derived.Maps.AppendAt
import Derived.IntWalk
set_option linter.defProp false
set_option linter.unusedVariables false
set_option linter.unusedSimpArgs false
set_option linter.unusedSectionVars false
set_option maxRecDepth 100000
set_option maxHeartbeats 8000000
namespace Go.Proofs.YtfkpfpobmobnbaaGreatDoor
open Go.RowKit Go.Shelf
open Go.Lib (decDigits nDigits)
def cF (N D n:Nat)(two:Bool)(i j:Nat):Nat:=if two=true then c3 N D n i 0 0 ((j:Int)-n) else o3 N D n i j
def y0I (N D n:Nat)(two:Bool)(j:Nat):cF N D n two 0 j=0:=by
 unfold cF
 split
 .rw[y0J]
 .exact x0q N D n j
def a1V {N D n:Nat}(h:N<D){two:Bool}{j:Nat}(hj:j<=2*n):cF N D n two (n+1) j=gV N D two n ((j:Int)-n):=by
 unfold cF;cases two
 .rw[Q0 (by simp)];exact z0U h hj
 .rw[U0 rfl];exact v0Y h n _
def b1D {x n:Nat}(h:x<=2 ^ n)(hn:n<=32):(limbs x).length<=1000000:=a0w (a0b h (by omega))
def r0R (w:World)(a:ByteArray)(n:Nat)(two:Bool)(ha:a.size<=100000)(he:gPE a=0)(hn:n<=32)(h0:a≠⟨#[48]⟩):
 Calls Tryz.prog 170 #[.string a,.int .i64 (n:Nat),.bool two] w fun e w'=>(∃ u,e=.returned (.tuple #[u,.int .i64 0])/\MRow w' u (a0B (glP (gV (bN (cW a)) (bN (qD a)) two n) (2 ^ n) n (gL (bN (cW a)) (bN (qD a)) two n))))/\Below w.heap.size w w':=by
 have HA:=hid (c0o w a (by omega));rw[he]at HA;obtain⟨hq,hm⟩:=i0D he;have HR:=fun V=>hid (i0G V a (by omega))
 rw[hq,b0P hm,hm]at HR;obtain⟨N,hN⟩:=gn (bN (cW a));obtain⟨D,hD⟩:=gn (bN (qD a));have hND:=(b0S he).2;have hpos:=g0K he h0;have hdg:∀ j,j<=n->nDigits (N*2 ^ j)<=4000:=fun j hj=>by rw[<- hN];exact k0d he (by omega)
 rw[hN]at HR hND hpos;rw[hD]at HR hND;rw[hN,hD];have HT:=fun V m v1 v2 k1 k2=>hid (u0H V m v1 v2 N D n hn hpos hND k1 k2 hdg)
 obtain⟨HND,HN⟩:=zg hND hn;have n0:(decide ((n:Int)<0))=false:=by simp
 have n1:(decide ((32:Int)<(n:Int)))=false:=by simp;omega
 have ze:(a.toList == [48])=false:=a0I h0;clear ha he hq hm hN hD hND hpos hdg h0;go_enter Tryz.func170,Tryz.ntmps170;go_wp2_with fail;refine HA.out.mono ?_;rintro e w1 ⟨rfl,hb1⟩;have B1:=hid hb1;clear hb1 HA;go_wp2_with fail;refine (HR _).out.mono ?_;rintro e w2 ⟨⟨v,rfl,hv,-⟩,hb2⟩;obtain⟨vN,vD,rfl,hvN,hvD⟩:=hv rfl;obtain⟨aN,cN,rfl,-,-,-⟩:=hvN.openI;obtain⟨aD,cD,rfl,-,-,-⟩:=hvD.openI;have B2:=hid (a0a B1.out hb2);obtain⟨lN,hlN⟩:=gn ((limbs N).length);obtain⟨lD,hlD⟩:=gn ((limbs D).length);rw[hlN]at hvN |-;rw[hlD]at hvD |-;have C2:=hid ((J3 w2.heap.size w2).alloc nr (.cells #[.bool false,.slice aN lN cN,.slice aD lD cD] 81));obtain⟨VN,VD,B3⟩:=zc (hvN.call C2.out) (hvD.call C2.out) (a0a B2.out C2.out);clear hv hb2 hvN hvD hlN hlD HR;go_wp2_with fail;refine (HT _ _ _ _ VN.out VD.out).out.mono ?_;rintro e WL ⟨⟨vl,rfl,hl⟩,hbl⟩;obtain⟨gs,cs,rfl,s1,s2,s3,s4⟩:=hl.open;have SL:Hid (gs<WL.heap.size):=s3;obtain⟨SE,BL⟩:=zg s4 (a0a B3.out hbl);clear hl hbl s3 s4 HT VN VD;have HZ:=fun V=>hid (e0R V (2*n) (by have:=HN.out;omega))
 obtain⟨M,hM⟩:=gn (2*n);rw[hM]at HZ;have w2n:IntKind.i64.wrap (2*(n:Int))=(M:Int):=by have:=HN.out;rw[O0 _ ⟨by omega,by omega⟩];omega
 have HM:=hid hM;clear hM hn;go_wp2_with fail;refine (HZ _).out.mono ?_;rintro e w4 ⟨⟨g,c,rfl,ht⟩,hb4⟩;have T4:Hid (NTab WL.heap.size w4 g (M+1) c (cF N D n two 0)):=ht.fn fun j _=>(y0I N D n two j).symm
 have B4:=hid hb4;clear ht hb4 HZ;go_wp2_with fail;refine (w0R _ n (by have:=HN.out;omega)).mono ?_;rintro e w5 ⟨⟨vt,rfl,hvt,hft⟩,hb5⟩;have V5:=hid hvt;have F5:Hid (vt.ownBlock≠some g):=fun e=>by
  have h1:=hft g e;have h2:=T4.out.slot.2.1;omega
 obtain⟨T5,B5⟩:=zg (T4.out.call hb5) (a0a B4.out hb5);have GL:Hid (WL.heap.size<=g):=T4.out.slot.1;clear hvt hft hb5 T4 B4 w2n;go_wp2_with fail;have f0:(0:Int)<=(n:Int):=by omega
 have f1':(n:Int)<(n:Int)+1:=by omega
 have HDW:Hid (∀ k m,m<=n->nDigits (cvo (edn N D k) pw2 m)<=4000):=fun k m hm=>by
  rw[<- e0n HND.out];exact a0b (s0a _ _) (by have:=HN.out;omega)
 go_loopw [14,15,16,17] (fun s14 s15 s16 s17 wr=>∃ i:Nat,s14=.int .i64 (i:Nat)/\i<=n+1/\Hid (NTab WL.heap.size wr g (M+1) c (cF N D n two i))/\Hid (IsN .i64 wr vt (2 ^ n))/\Hid (Below WL.heap.size WL wr)) (fun s14 s15 s16 s17 wr=>n+1-(intOf s14).toNat)
 case atStart=>exact⟨0,rfl,J5 _,T5,V5,B5⟩
 case round=>
  clear T5 V5 B5;obtain⟨i,rfl,hi,hT,hV,hB⟩:=hrel;by_cases hlt:i<=n
  .have d0:decide (i<=n)=true:=by simp;omega
   have e0:(0:Int)<=(i:Int):=by omega
   have e1:(i:Int)<((n+1:Nat):Int):=by omega
   have e1':(i:Int)<(n:Int)+1:=by omega
   have wi:IntKind.i64.wrap ((i:Int)+1)=((i+1:Nat):Int):=by have:=HN.out;rw[O0 _ ⟨by omega,by omega⟩];omega
   have IL:=hid hlt;obtain⟨x,hx1,hx2⟩:=SE.out i hlt;have cx:wr.cell? ⟨gs,i,none⟩=some x:=(hB.out.cell (p:=⟨gs,i,none⟩) SL.out).trans hx1;have XR:=hid (hx2.call hB.out);clear hx1 hx2 hi hlt;go_wp2_with fail;refine (k0F _ _ n (edn N D i) (by have:=HN.out;omega) XR.out (fun m hm=>HDW.out i m hm)).mono ?_;rintro e w6 ⟨⟨gd,cd,rfl,htd⟩,hb6⟩;obtain⟨TD,T6,V6,B6⟩:=zd htd (hT.out.call hb6) (hV.out.call hb6) (hB.out.trans (hb6.mono hB.out.size));have GD:Hid (g<wr.heap.size):=hT.out.slot.2.1;obtain⟨BD,hBD⟩:=gn (wr.heap.size);rw[hBD]at TD GD;clear htd hb6 hT hV hB XR cx hBD;cases two
   .obtain⟨y,cy,hy,hy2⟩:=TD.out.at (i:=n) (by omega);obtain⟨ay,cy9,rfl,-,-,-⟩:=hy.openI;obtain⟨ly,hly⟩:=gn ((limbs (cvo (edn N D i) pw2 n)).length);rw[hly]at hy hy2 cy;obtain⟨J,hJ⟩:=gn (n+i);have HJ:Hid (n+i=J/\J<=M):=⟨hJ,by have:=HM.out;have:=IL.out;omega⟩;have ws:IntKind.i64.wrap ((n:Int)+(i:Int))=(J:Int):=by have:=HN.out;have:=IL.out;rw[O0 _ ⟨by omega,by omega⟩];omega
    have j0:(0:Int)<=(J:Int):=by omega
    have j1:(J:Int)<((M+1:Nat):Int):=by have:=HJ.out;omega
    have j1':(J:Int)<(M:Int)+1:=by have:=HJ.out;omega
    have fr:=T6.out.slot.2.2.2.2 J;obtain⟨z,cz,-,-⟩:=T6.out.at (i:=J) (by have:=HJ.out;omega);have Z1:Hid (cvo (edn N D i) pw2 n=0\/∀ g',(Value.slice ay ly cy9).ownBlock=some g'->WL.heap.size<=g'/\g'≠g):=hy2.imp id fun k g' hg'=>by
     have h1:=(k g' hg').1;have h2:=GD.out;have h3:=GL.out;exact⟨by omega,by omega⟩
    have T7:Hid (NTab WL.heap.size (w6.setCell ⟨g,J,none⟩ (.slice ay ly cy9)) g (M+1) c (cF N D n false (i+1))):=(T6.out.put J hy Z1.out).fn fun j hj=>by
     have e:cF N D n false (i+1) j=o3 N D n (i+1) j:=rfl;have e':cF N D n false i j=o3 N D n i j:=rfl;rw[e,e',x0r HND.out];by_cases hc:j=J
     .rw[U0 hc,U0 (by have:=HJ.out;omega)]
     .rw[Q0 hc,Q0 (by have:=HJ.out;omega)]
    obtain⟨V7,B7⟩:=zg (d0s V6.out (a:=⟨g,J,none⟩) (.inr F5.out) (.slice ay ly cy9)) (B6.out.setCell (p:=⟨g,J,none⟩) GL.out (.slice ay ly cy9));clear hy hy2 hly hJ;go_wp2_with fail
    try simp only[a0Z]
    go_roundw
    case rel=>exact⟨i+1,by go_num,by have:=IL.out;omega,T7,V7,B7⟩
    case measure=>simp[intOf]<;>(have:=IL.out;omega)
   .go_wp2_with fail;have T7:Hid (NTab WL.heap.size w6 g (M+1) c (fun j=>c3 N D n i 0 0 ((j:Int)-n))):=T6.out
    go_loopw [16,17] (fun s16 s17 wr2=>∃ k:Nat,s16=.int .i64 (k:Nat)/\k<=n+1/\Hid (NTab WL.heap.size wr2 g (M+1) c (fun j=>c3 N D n i k 0 ((j:Int)-n)))/\Hid (NTab BD wr2 gd (n+1) cd (cvo (edn N D i) pw2))/\Hid (IsN .i64 wr2 vt (2 ^ n))/\Hid (Below WL.heap.size WL wr2)) (fun s16 s17 wr2=>n+1-(intOf s16).toNat)
    case atStart=>exact⟨0,rfl,J5 _,T7,TD,V6,B6⟩
    case round=>
     clear T6 T7 TD V6 B6;obtain⟨k,rfl,hk,hT,hG,hV,hB⟩:=hrel;by_cases hlt:k<=n
     .have d1:decide (k<=n)=true:=by simp;omega
      have wk:IntKind.i64.wrap ((k:Int)+1)=((k+1:Nat):Int):=by have:=HN.out;rw[O0 _ ⟨by omega,by omega⟩];omega
      have KL:=hid hlt;clear hk hlt;go_wp2_with fail
      go_loopw [17] (fun s17 wr3=>∃ s:Nat,s17=.int .i64 (s:Nat)/\s<=n+1/\Hid (NTab WL.heap.size wr3 g (M+1) c (fun j=>c3 N D n i k s ((j:Int)-n)))/\Hid (NTab BD wr3 gd (n+1) cd (cvo (edn N D i) pw2))/\Hid (IsN .i64 wr3 vt (2 ^ n))/\Hid (Below WL.heap.size WL wr3)) (fun s17 wr3=>n+1-(intOf s17).toNat)
      case atStart=>exact⟨0,rfl,J5 _,hT,hG,hV,hB⟩
      case round=>
       clear hT hG hV hB;obtain⟨s,rfl,hs,hT,hG,hV,hB⟩:=hrel;by_cases hlt:s<=n
       .have d2:decide (s<=n)=true:=by simp;omega
        have wsx:IntKind.i64.wrap ((s:Int)+1)=((s+1:Nat):Int):=by have:=HN.out;rw[O0 _ ⟨by omega,by omega⟩];omega
        have SLE:=hid hlt;obtain⟨T,hTT⟩:=gn (n+k);obtain⟨J,hJ⟩:=gn (T-i);obtain⟨U,hU⟩:=gn (n-s);have HJ:Hid (n+k=T/\i<=T/\T-i=J/\J<=M/\(k:Int)-(i:Int)=(J:Int)-(n:Int)):=⟨hTT,by have:=IL.out;omega,hJ,by have:=HM.out;have:=IL.out;have:=KL.out;omega,by have:=IL.out;omega⟩;have HU:Hid (n-s=U/\U<=n):=⟨hU,by omega⟩;have w1:IntKind.i64.wrap ((n:Int)+(k:Int))=(T:Int):=by have:=HN.out;have:=KL.out;rw[O0 _ ⟨by omega,by omega⟩];omega
        have w2':IntKind.i64.wrap ((T:Int)-(i:Int))=(J:Int):=by have:=HN.out;have:=KL.out;have:=IL.out;rw[O0 _ ⟨by omega,by omega⟩];omega
        have w3:IntKind.i64.wrap ((n:Int)-(s:Int))=(U:Int):=by have:=HN.out;rw[O0 _ ⟨by omega,by omega⟩];omega
        have j0:(0:Int)<=(J:Int):=by omega
        have j1:(J:Int)<((M+1:Nat):Int):=by have:=HJ.out;omega
        have j1':(J:Int)<(M:Int)+1:=by have:=HJ.out;omega
        have u0:(0:Int)<=(U:Int):=by omega
        have u1:(U:Int)<((n+1:Nat):Int):=by have:=HU.out;omega
        have u1':(U:Int)<(n:Int)+1:=by have:=HU.out;omega
        have k0:(0:Int)<=(k:Int):=by omega
        have k1:(k:Int)<((n+1:Nat):Int):=by have:=KL.out;omega
        have k1':(k:Int)<(n:Int)+1:=by have:=KL.out;omega
        have s0:(0:Int)<=(s:Int):=by omega
        have s1:(s:Int)<((n+1:Nat):Int):=by omega
        have s1':(s:Int)<(n:Int)+1:=by omega
        obtain⟨x1,cx1,hx1,-⟩:=hT.out.at (i:=J) (by have:=HJ.out;omega);obtain⟨tk,htk,hrk⟩:=SE.out k KL.out;obtain⟨at',ct',rfl,p1,p2⟩:=hrk.openA;obtain⟨gt,ot,x2,rfl,hgt,hx2c,hx2⟩:=hrk.el (i:=s) (by omega);obtain⟨x3,cx3,hx3,-⟩:=hG.out.at (i:=U) (by have:=HU.out;omega);have ck:wr.cell? ⟨gs,k,none⟩=some (.slice (some ⟨gt,ot,none⟩) (n+1) ct'):=(hB.out.cell (p:=⟨gs,k,none⟩) SL.out).trans htk;have cx2:wr.cell? ⟨gt,ot+s,none⟩=some x2:=(hB.out.cell (p:=⟨gt,ot+s,none⟩) hgt).trans hx2c;obtain⟨X1,X2,X3⟩:=zc hx1 (hx2.call hB.out) hx3;have EY:cvo (edn N D i) pw2 U=cw (n-s) (h0A N D i):=by rw[<- e0n HND.out,HU.out.1]
        have STP:Hid (c3 N D n i k s ((J:Int)-n)+edn N D k s*cvo (edn N D i) pw2 U=c3 N D n i k (s+1) ((J:Int)-n)):=by
         show _=_
         rw[b1Z,EY];unfold j0F;rw[U0 HJ.out.2.2.2.2.symm]
        have LE:Hid (c3 N D n i k (s+1) ((J:Int)-n)<=2 ^ n):=E0 (c1a HND.out IL.out KL.out (by have:=SLE.out;omega) _) (l0J HND.out true n _);have L1:Hid ((limbs (c3 N D n i k s ((J:Int)-n))).length<=1000000):=b1D (E0 (by rw[<- STP.out];omega) LE.out) HN.out;have L2:Hid ((limbs (edn N D k s)).length<=1000000):=a0w (E0 (a0r (j0o _ _)) (HDW.out k s hlt));have L3:Hid ((limbs (cvo (edn N D i) pw2 U)).length<=1000000):=a0w (HDW.out i U HU.out.2);have L4:Hid ((limbs (edn N D k s*cvo (edn N D i) pw2 U)).length<=1000000):=b1D (E0 (by rw[<- STP.out];omega) LE.out) HN.out;clear hTT hJ hU hx1 hx2 hx3 hrk htk hx2c hgt hs hlt EY;go_wp2_with fail;refine b0b 29 2 [0,1,2,3,4,5,6,7,8,9,10,11,12,13,14,15,16,17,18,19,20,21,22,23,24,25,26] 2 (fun W'=>W'.cell? ⟨g,J,none⟩=some x1/\W'.cell? ⟨gs,k,none⟩=some (.slice (some ⟨gt,ot,none⟩) (n+1) ct')/\W'.cell? ⟨gt,ot+s,none⟩=some x2/\W'.cell? ⟨gd,U,none⟩=some x3) (by kernel_rfl) rfl (by kernel_rfl) (by kernel_rfl) (by kernel_rfl) (by kernel_rfl) ⟨cx1,ck,cx2,cx3⟩ ?_
        iterate 27
         refine⟨_,rfl,?_⟩;apply Exists.intro
         refine⟨.inl ⟨by rfl,?_⟩,?_⟩
         .rintro W' ⟨r1,r2,r3,r4⟩;go_simp;try with_reducible rfl
         go_frame
        refine a0c (i:=27) (by kernel_rfl) rfl rfl ?_;go_wp2_with fail;refine (b0n _ _ _ _ _ (X2.out.call br0.drew) (X3.out.call br0.drew) L2.out L3.out).mono ?_;rintro e wa ⟨⟨vp,rfl,hvp⟩,hba⟩;obtain⟨A1,VP⟩:=zg (show Below wr.heap.size wr wa from br0.drew.trans hba) hvp;have m1:=(A1.out.cell (a0e cx1)).trans cx1;have m2:=(A1.out.cell (a0e ck)).trans ck;have m3:=(A1.out.cell (a0e cx2)).trans cx2;have m4:=(A1.out.cell (a0e cx3)).trans cx3;clear hba hvp cx1 ck cx2 cx3;go_wp2_with fail;refine⟨⟨m1,m2,m3,m4⟩,?_⟩;refine a0c (i:=28) (by kernel_rfl) rfl rfl ?_;go_wp2_with fail;refine (c0C _ _ _ _ _ (X1.out.call A1.out) VP.out L1.out L4.out).mono ?_;rintro e wb ⟨⟨vs,rfl,hvs,hfs⟩,hbb⟩;have hvs':=hvs.cast STP.out;obtain⟨as1,cs1,rfl,-,-,-⟩:=hvs'.openI;obtain⟨ls1,hls⟩:=gn ((limbs (c3 N D n i k (s+1) ((J:Int)-n))).length);rw[hls]at hvs' hfs |-;obtain⟨A2,VS⟩:=zg (a0a A1.out hbb) hvs';have FS:Hid (∀ g',(Value.slice as1 ls1 cs1).ownBlock=some g'->WL.heap.size<=g'/\g'≠g):=fun g' hg'=>by
         have h1:wa.heap.size<=g':=hfs g' hg';have h2:=hT.out.slot;have h3:=hB.out.size;have h4:=A1.out.size;exact⟨by omega,by omega⟩
        have y1:=(hbb.cell (a0e m1)).trans m1;have y2:=(hbb.cell (a0e m2)).trans m2;have y3:=(hbb.cell (a0e m3)).trans m3;have y4:=(hbb.cell (a0e m4)).trans m4;clear hbb hvs hvs' hfs hls m1 m2 m3 m4;go_wp2_with fail;refine⟨⟨y1,y2,y3,y4⟩,?_⟩;refine Z7 (by kernel_rfl) ?_ _;simp only[a0Z,b0K,Ab,A9];have TA:=hid (hT.out.call A2.out);have fr:=TA.out.slot.2.2.2.2 J;have TB:Hid (NTab WL.heap.size (wb.setCell ⟨g,J,none⟩ (.slice as1 ls1 cs1)) g (M+1) c (fun j=>c3 N D n i k (s+1) ((j:Int)-n))):=(TA.out.put J VS.out (.inr FS.out)).fn fun j hj=>by
         rw[b1Z];unfold j0F;have hh:=HJ.out.2.2.2.2;by_cases hc:j=J
         .have:=STP.out;rw[b1Z]at this;unfold j0F at this;rw[U0 hc,hc]
         .rw[Q0 hc,Q0 (by omega)]
        obtain⟨GB,VB,BB⟩:=zc ((hG.out.call A2.out).other (a:=⟨g,J,none⟩) GD.out (.slice as1 ls1 cs1)) (d0s (hV.out.call A2.out) (a:=⟨g,J,none⟩) (.inr F5.out) (.slice as1 ls1 cs1)) ((hB.out.trans (A2.out.mono hB.out.size)).setCell (p:=⟨g,J,none⟩) GL.out (.slice as1 ls1 cs1));clear y2 y3 y4;go_wp2_with fail
        try simp only[a0Z]
        go_roundw
        case rel=>exact⟨s+1,by go_num,by have:=SLE.out;omega,TB,GB,VB,BB⟩
        case measure=>simp[intOf]<;>(have:=SLE.out;omega)
       .have e1:s=n+1:=by omega
        subst e1;have d2:decide ((n:Int)+1<=(n:Int))=false:=by simp;omega
        have TE:Hid (NTab WL.heap.size wr g (M+1) c (fun j=>c3 N D n i (k+1) 0 ((j:Int)-n))):=hT.out.fn fun j hj=>by rw[c1w]
        clear hs hlt;go_wp2_with fail;go_roundw
        case rel=>exact⟨k+1,by go_num,by have:=KL.out;omega,TE,hG,hV,hB⟩
        case measure=>simp[intOf]<;>(have:=KL.out;omega)
     .have e1:k=n+1:=by omega
      subst e1;have d2:decide ((n:Int)+1<=(n:Int))=false:=by simp;omega
      have TE:Hid (NTab WL.heap.size wr g (M+1) c (cF N D n true (i+1))):=hT.out.fn fun j hj=>by
       show c3 N D n i (n+1) 0 ((j:Int)-n)=c3 N D n (i+1) 0 0 ((j:Int)-n)
       rw[c1x]
      clear hk hlt;go_wp2_with fail;go_roundw
      case rel=>exact⟨i+1,by go_num,by have:=IL.out;omega,TE,hV,hB⟩
      case measure=>simp[intOf]<;>(have:=IL.out;omega)
  .have e1:i=n+1:=by omega
   have d2:decide (i<=n)=false:=by simp;omega
   rw[e1]at hT;have TE:Hid (NTab WL.heap.size wr g (M+1) c (fun j=>gV N D two n ((j:Int)-n))):=hT.out.fn fun j hj=>a1V HND.out (by have:=HM.out;omega)
   have HVD:Hid (∀ v,nDigits (gV N D two n v)<=4000):=fun v=>a1y HND.out two v (by have:=HN.out;omega)
   have HPD:Hid (nDigits (2 ^ n)<=4000):=a0b nr (by have:=HN.out;omega);have HLD:Hid (nDigits (gL N D two n)<=4000):=a1A HND.out two (by have:=HN.out;omega);have HV2:Hid (∀ v,gV N D two n v<=2 ^ 256):=fun v=>E0 (l0J HND.out two n v) (Z4 (by omega) (by have:=HN.out;omega))
   have HL2:Hid (gL N D two n<=2 ^ 256):=E0 (a1z HND.out two n) (Z4 (by omega) (by have:=HN.out;omega));have HLF:Hid (∀ i,(limbs (lfI (gV N D two n) (2 ^ n) n i)).length<=1000000):=fun i=>b1D (Ki _ _) HN.out
   have HLE:Hid (∀ i,i<M+1->gV N D two n ((i:Int)-n)<=lfI (gV N D two n) (2 ^ n) n i):=fun i hi=>a1j HND.out (by have:=HM.out;omega)
   have HEND:Hid (lfI (gV N D two n) (2 ^ n) n (M+1)=gL N D two n):=by
    show _=_
    rw[<- HM.out];exact x0E HND.out two n
   have HSh:=fun V u x hu hx=>hid (m0F V u x n hu (by have:=HN.out;omega) hx)
   have HADD:Hid (∀ i,h0G (a0B (glI (gV N D two n) (2 ^ n) n i)) (zB ((i:Int)-n)) (shB (gV N D two n ((i:Int)-n)) (2 ^ n))=a0B (glI (gV N D two n) (2 ^ n) n (i+1))):=fun i=>x0S (m0j n) (HVD.out _) HPD.out
   have HLAT:Hid (h0G (a0B (glI (gV N D two n) (2 ^ n) n (M+1))) b0h (shB (gL N D two n) (2 ^ n))=a0B (glP (gV N D two n) (2 ^ n) n (gL N D two n))):=by
    show _=_
    rw[<- HM.out];exact u0t (m0j n) HLD.out HPD.out
   have V0:Hid (IsN .i64 wr vt (lfI (gV N D two n) (2 ^ n) n 0)):=by
    show IsN _ _ _ _
    rw[u0h];exact hV.out
   have M0:Hid (MRow wr (.slice none 0 0) (a0B (glI (gV N D two n) (2 ^ n) n 0))):=by
    show MRow _ _ _
    rw[show a0B (glI (gV N D two n) (2 ^ n) n 0) = [] by simp[a0B,glI]];exact MRow.nil _
   have HMB:Hid (M<=64):=by show M<=64;have:=HM.out;have:=HN.out;omega
   clear hi hlt hV hT e1;go_wp2_with fail
   go_loopw [13,18,19] (fun s13 s18 s19 wr=>∃ i:Nat,s19=.int .i64 (i:Nat)/\i<=M+1/\Hid (IsN .i64 wr s13 (lfI (gV N D two n) (2 ^ n) n i))/\Hid (MRow wr s18 (a0B (glI (gV N D two n) (2 ^ n) n i)))/\Hid (NTab WL.heap.size wr g (M+1) c (fun j=>gV N D two n ((j:Int)-n)))/\Hid (Below WL.heap.size WL wr)) (fun s13 s18 s19 wr=>M+1-(intOf s19).toNat)
   case atStart=>exact⟨0,rfl,J5 _,V0,M0,TE,hB⟩
   case round=>
    clear V0 TE hB M0;obtain⟨i,rfl,hi,hV,hM,hT,hB⟩:=hrel;by_cases hlt:i<M+1
    .have d1:decide ((i:Int)<(M:Int)+1)=true:=by simp;omega
     have e0:(0:Int)<=(i:Int):=by omega
     have e1:(i:Int)<((M+1:Nat):Int):=by omega
     have e1':(i:Int)<(M:Int)+1:=by omega
     have wi:IntKind.i64.wrap ((i:Int)+1)=((i+1:Nat):Int):=by have:=HMB.out;rw[O0 _ ⟨by omega,by omega⟩];omega
     have ws:IntKind.i64.wrap ((i:Int)-(n:Int))=(i:Int)-(n:Int):=by have:=HMB.out;have:=HN.out;rw[O0 _ ⟨by omega,by omega⟩]
     have IL:=hid hlt;obtain⟨x,cx,hx,-⟩:=hT.out.at (i:=i) hlt;have XN:=hid hx;have HI:=fun V=>hid (p0Y V ((i:Int)-n) (by have:=HN.out;omega) (by have:=HMB.out;omega))
     have RA:=fun V u key p hu=>hid (m0D V u (a0B (glI (gV N D two n) (2 ^ n) n i)) key p hu (by rw[c0f];have:=r0C (gV N D two n) (2 ^ n) n i;have:=HMB.out;omega))
     clear hx hi hlt;go_wp2_with fail;refine a0k [0,1,2,3,5,6,7,8,9] 4 (fun W'=>W'.cell? ⟨g,i,none⟩=some x) (by kernel_rfl) (by kernel_rfl) (by kernel_rfl) (by kernel_rfl) cx ?_
     iterate 9
      refine⟨_,rfl,?_⟩;apply Exists.intro
      refine⟨.inl ⟨by rfl,?_⟩,?_⟩
      ·(intro W' hW';obtain r1:=hW';go_simp;try (with_reducible rfl))
      go_frame
     refine a0c (i:=4) (by kernel_rfl) rfl rfl ?_;go_wp2_with fail;refine (HI _).out.mono ?_;rintro e wa ⟨rfl,hba⟩;have A1:=hid (show Below wr.heap.size wr wa from br0.drew.trans hba);have m1:=(A1.out.cell (a0e cx)).trans cx;clear hba HI;go_wp2_with fail;refine⟨m1,?_⟩;refine a0c (i:=10) (by kernel_rfl) rfl rfl ?_;go_wp2_with fail;refine (HSh _ _ _ (XN.out.call A1.out) (HV2.out _)).out.mono ?_;rintro e wb ⟨rfl,hbb⟩;have A2:=hid (a0a A1.out hbb);have m2:=(hbb.cell (a0e m1)).trans m1;clear hbb m1;go_wp2_with fail;refine⟨m2,?_⟩;refine a0c (i:=11) (by kernel_rfl) rfl rfl ?_;go_wp2_with fail;refine (RA _ _ _ _ (hM.out.call A2.out)).out.mono ?_;rintro e wc ⟨⟨u,rfl,hu⟩,hbc⟩;rw[HADD.out i]at hu;obtain⟨A3,MU⟩:=zg (a0a A2.out hbc) hu;have m3:=(hbc.cell (a0e m2)).trans m2;clear hbc hu m2 RA;go_wp2_with fail;refine⟨m3,?_⟩;refine a0c (i:=12) (by kernel_rfl) rfl rfl ?_;go_wp2_with fail;refine⟨m3,?_⟩;refine Z7 (by kernel_rfl) ?_ _;simp only[a0Z];go_wp2_with fail;refine (e0B _ _ _ _ _ (hV.out.call A3.out) (XN.out.call A3.out) (HLE.out i IL.out) (HLF.out i)).mono ?_;rintro e wd ⟨⟨vr,rfl,hvr⟩,hbd⟩;rw[u0i]at hvr;obtain⟨A4,VR,M4⟩:=zc (a0a A3.out hbd) hvr (MU.out.call hbd);obtain⟨T4,B4⟩:=zg (hT.out.call A4.out) (hB.out.trans (A4.out.mono hB.out.size));clear hbd hvr m3 cx;go_wp2_with fail;go_roundw
     case rel=>exact⟨i+1,by go_num,by have:=IL.out;omega,VR,M4,T4,B4⟩
     case measure=>simp[intOf]<;>(have:=IL.out;omega)
    .have e1:i=M+1:=by omega
     subst e1;have d1:decide ((M:Int)+1<(M:Int)+1)=false:=by simp
     have RA:=fun V u key p hu=>hid (m0D V u (a0B (glI (gV N D two n) (2 ^ n) n (M+1))) key p hu (by rw[c0f];have:=r0C (gV N D two n) (2 ^ n) n (M+1);have:=HMB.out;omega))
     have VL:=hid (hV.out.cast HEND.out);clear hi hlt hV;go_wp2_with fail;refine (HSh _ _ _ VL.out HL2.out).out.mono ?_;rintro e wb ⟨rfl,hbb⟩;obtain⟨M1,A1⟩:=zg (hM.out.call hbb) (a0a hB.out hbb);clear hbb;go_wp2_with fail;refine (RA _ _ _ _ M1.out).out.mono ?_;rintro e wc ⟨⟨u,rfl,hu⟩,hbc⟩;have A2:=hid (BL.out.trans ((a0a A1.out hbc).mono BL.out.size));rw[show (⟨#[108,97,116,101]⟩:ByteArray)=b0h from rfl,HLAT.out]at hu;have MU:=hid hu;clear hbc hu RA;go_wp2_with fail;go_ret2
     exact⟨⟨_,rfl,MU.out⟩,A2.out⟩
def a1G (w:World)(a:ByteArray)(n:Int)(two:Bool)(ha:a.size<=100000):
 Calls Tryz.prog 170 #[.string a,.int .i64 n,.bool two] w fun e w'=>(∃ v,e=.returned (.tuple #[v,.int .i64 (glE a n 32)])/\MRow w' v (glR a n two))/\Below w.heap.size w w':=by
 by_cases he:gPE a=0
 focus
  by_cases hn:n<0\/32<n
  focus
   have e1:glE a n 32=2:=by unfold glE;rw[Q0 (by rw[he];simp),U0 hn]
   have e2:glR a n two = []:=by unfold glR;rw[Q0 (by rw[e1];decide)]
   rw[e1,e2];have HA:=hid (c0o w a (by omega));rw[he]at HA;obtain⟨b1,k1⟩:=gn (decide (n<0));obtain⟨b2,k2⟩:=gn (decide (32<n));have k3:(b1 || b2)=true:=by rw[<- k1,<- k2];simpa using hn
   clear ha he hn e1 e2;cases b1
   focus
    obtain rfl:b2=true:=by simpa using k3
    clear k3
   rotate_left
   focus
    clear k2 k3
  rotate_left 2
  .obtain⟨m,rfl⟩:∃ m:Nat,n=(m:Nat):=⟨n.toNat,by omega⟩;have e1:glE a (m:Nat) 32=0:=by unfold glE;rw[Q0 (by rw[he];simp),Q0 hn]
   unfold glR;rw[U0 e1,e1,An];by_cases h0:a=⟨#[48]⟩
   .obtain⟨q1,q2⟩:=h0R h0;rw[q1,q2,u0s (by omega)];have HA:=hid (c0o w a (by omega));rw[he]at HA;have ze:(a.toList == [48])=true:=by rw[h0];exact c0q
    have n0:(decide ((m:Int)<0))=false:=by simp
    have n1:(decide ((32:Int)<(m:Int)))=false:=by simp;omega
    clear ha he hn e1 q1 q2 h0;go_enter Tryz.func170,Tryz.ntmps170;go_wp2_with fail;refine HA.out.mono ?_;rintro e w1 ⟨rfl,hb1⟩;have B1:=hid hb1;clear hb1 HA;obtain⟨K1,B2⟩:=zg (Blk.new w1 #[.string ⟨#[48]⟩,.string ⟨#[49]⟩] 42) (B1.out.alloc B1.out.size (.cells #[.string ⟨#[48]⟩,.string ⟨#[49]⟩] 42));go_wp2_with fail;go_ret2
    refine⟨⟨_,rfl,?_⟩,B2.out⟩;refine⟨some ⟨w1.heap.size,0,none⟩,1,rfl,Z3 _,by omega,fun i x hx=>?_⟩
    match i,hx with
    | 0,hx=>
     simp at hx;subst hx;exact⟨_,_,rfl,K1.out.lt,K1.out.cell 0,K1.out.cell 1⟩
   .exact r0R w a m two ha he (by omega) h0
 rotate_left 2
 focus
  have e1:glE a n 32=gPE a:=by unfold glE;rw[U0 he]
  have e2:glR a n two = []:=by unfold glR;rw[Q0 (by rw[e1];exact he)]
  rw[e1,e2];have HA:=hid (c0o w a (by omega));obtain⟨x,hx⟩:=gn (gPE a);rw[hx]at HA he |-;have x0:(x != 0)=true:=by simpa using he
  clear ha he hx e1 e2
 all_goals
  go_enter Tryz.func170,Tryz.ntmps170;go_wp2_with fail;refine HA.out.mono ?_;rintro e w1 ⟨rfl,hb1⟩;have B1:=hid hb1;clear hb1 HA;go_wp2_with fail;go_ret2
  exact⟨⟨_,rfl,MRow.nil _⟩,B1.out⟩
def k0H (w:World)(a:ByteArray)(n:Int)(ha:a.size<=100000):
 Calls Tryz.prog 68 #[.string a,.int .i64 n] w fun e w'=>(∃ v,e=.returned (.tuple #[v,.int .i64 (glE a n 32)])/\MRow w' v (glR a n true))/\Below w.heap.size w w':=by
 have H:=hid (a1G w a n true ha);obtain⟨o,ho⟩:=gn (glR a n true);obtain⟨x,hx⟩:=gn (glE a n 32);rw[ho,hx]at H |-;clear ha ho hx;go_enter Tryz.func68,Tryz.ntmps68;go_wp2_with fail;refine H.out.mono ?_;rintro e w1 ⟨⟨v,rfl,hv⟩,hb1⟩;obtain⟨B1,V1⟩:=zg hb1 hv;clear hb1 hv;go_wp2_with fail;go_ret2
 exact⟨⟨_,rfl,V1.out⟩,B1.out⟩
def o0a (w:World)(m:Nat)(h:m<=1000000000000000000):Calls Tryz.prog 55 #[.int .i64 (-((m:Int)+1))] w fun e w'=>e=.returned (.string (zB (-((m:Int)+1))))/\Below w.heap.size w w':=by
 have q0:decide ((0:Int) <= -((m:Int)+1))=false:=by simp<;>omega
 have q1:IntKind.i64.wrap (-((m:Int)+1)+1) = -(m:Int):=by rw[O0 _ ⟨by omega,by omega⟩];omega
 have q2:IntKind.i64.wrap (-(-(m:Int)))=(m:Int):=by rw[O0 _ ⟨by omega,by omega⟩];omega
 have q3:IntKind.i64.wrap (-(-((m:Int)+1)+1))=(m:Int):=by rw[O0 _ ⟨by omega,by omega⟩];omega
 have q4:IntKind.i64.wrap (m:Int)=(m:Int):=by rw[O0 _ ⟨by omega,by omega⟩]
 have hz:=v0h m;obtain⟨Z,hZ⟩:=gn (zB (-((m:Int)+1)));rw[hZ]at hz |-;have HS:=fun V=>hid (m0H V m (by omega))
 have HR:=fun V=>hid (b0U V m (g0f (by omega)))
 have HO:=fun V=>hid (m0I V)
 have HP:=fun V v u hv hu=>hid (d0a V v u m 1 hv hu (f0j (by omega)) (f0j (by omega)))
 have HW:=fun V v hv=>hid (a0P V v (m+1) hv (f0j (by omega)))
 obtain⟨M,hM⟩:=gn (a0g m);have hsz:=a0t (m+1);have hnd:=g0f (n:=m+1) (by omega);obtain⟨M1,hM1⟩:=gn (a0g (m+1));rw[hM1]at hsz;have hcat:¬ 9223372036854775807<1+M1.size:=by omega
 simp only[b0o]at HS HW;rw[hM]at HS HR;rw[hM1]at HW hz;clear hM hM1 hZ h hsz hnd;go_enter Tryz.func55,Tryz.ntmps55;go_wp2_with fail;refine zx (HS _) ?_;go_wp2_with fail;refine (HR _).out.mono ?_;rintro e w2 ⟨⟨v2,rfl,h2⟩,hb2⟩;obtain⟨B2,V2⟩:=zg hb2 h2;clear hb2 h2;go_wp2_with fail;refine (HO _).out.mono ?_;rintro e w3 ⟨⟨v3,rfl,h3⟩,hb3⟩;obtain⟨B3,V3,U3⟩:=zc (a0a B2.out hb3) (V2.out.call hb3) h3;clear hb3 h3;go_wp2_with fail;refine (HP _ _ _ V3.out U3.out).out.mono ?_;rintro e w4 ⟨⟨v4,rfl,h4⟩,hb4⟩;obtain⟨B4,V4⟩:=zg (a0a B3.out hb4) h4;clear hb4 h4;go_wp2_with fail;refine (HW _ _ V4.out).out.mono ?_;rintro e w5 ⟨rfl,hb5⟩;have B5:=hid (a0a B4.out hb5);clear hb5;go_wp2_with fail;go_ret
 exact⟨rfl,B5.out⟩
def w0V (w:World)(k:Int)(h1 : -1000000000000000000<=k)(h2:k<=1000000000000000000):Calls Tryz.prog 55 #[.int .i64 k] w fun e w'=>e=.returned (.string (zB k))/\Below w.heap.size w w':=by
 by_cases hk:0<=k
 .obtain⟨n,rfl⟩:∃ n:Nat,k=(n:Nat):=⟨k.toNat,by omega⟩;refine zv (k0h w n (by omega)) ?_;exact⟨by rw[p0h],J3 _ _⟩
 .obtain⟨m,rfl⟩:∃ m:Nat,k = -((m:Int)+1):=⟨(-k-1).toNat,by omega⟩;exact o0a w m (by omega)
def b0Q {w:World}{b g i:Nat}(hne:g≠b)(m:Bool)(a a':Option Addr)(n c n' c':Nat):(((w.setCell ⟨b,0,none⟩ (.bool m)).setCell ⟨b,1,none⟩ (.slice a n c)).setCell ⟨b,2,none⟩ (.slice a' n' c')).cell? ⟨g,i,none⟩=w.cell? ⟨g,i,none⟩:=by
 unfold World.cell?;rw[Ac _ _ _ _ (by simpa using hne),Ac _ _ _ _ (by simpa using hne),Ac _ _ _ _ (by simpa using hne)]
def l0b {w:World}{b:Nat}{m0:Bool}{a0 b0:Option Addr}{n0 c0 n1 c1:Nat}{t:TypeId}(hb:Blk w b #[.bool m0,.slice a0 n0 c0,.slice b0 n1 c1] t){g i:Nat}{s:ByteArray}(h:w.cell? ⟨g,i,none⟩=some (.string s)):g≠b:=by
 rintro rfl;rw[hb.cell]at h
 match i,h with
 | 0,h=>simp at h
 | 1,h=>simp at h
 | 2,h=>simp at h
 | i+3,h=>simp at h
def q0W {w:World}{b:Nat}{m0:Bool}{a0 b0:Option Addr}{n0 c0 n1 c1:Nat}{t:TypeId}(hb:Blk w b #[.bool m0,.slice a0 n0 c0,.slice b0 n1 c1] t)(m:Bool)(a a':Option Addr)(n c n' c':Nat){v:Value}{L:List (ByteArray×ByteArray)}(h:MRow w v L):MRow (((w.setCell ⟨b,0,none⟩ (.bool m)).setCell ⟨b,1,none⟩ (.slice a n c)).setCell ⟨b,2,none⟩ (.slice a' n' c')) v L:=by
 obtain⟨s,k,rfl,h1,h2,h3⟩:=h.ex;refine⟨s,k,rfl,h1,h2,fun i x hx=>?_⟩;obtain⟨g,o,rfl,hg,k1,k2⟩:=h3 i x hx;exact⟨g,o,rfl,by simpa using hg,(b0Q (l0b hb k1) ..).trans k1,(b0Q (l0b hb k1) ..).trans k2⟩
def p0A {w:World}{b:Nat}{m0:Bool}{a0 b0:Option Addr}{n0 c0 n1 c1:Nat}{t:TypeId}(hb:Blk w b #[.bool m0,.slice a0 n0 c0,.slice b0 n1 c1] t)(m:Bool)(a a':Option Addr)(n c n' c':Nat){v:Value}{L:List ByteArray}(h:Row w v (e0p L)):Row (((w.setCell ⟨b,0,none⟩ (.bool m)).setCell ⟨b,1,none⟩ (.slice a n c)).setCell ⟨b,2,none⟩ (.slice a' n' c')) v (e0p L):=by
 obtain⟨s,k,rfl,h1,h2,h3⟩:=h.openS;refine⟨s,k,by rw[strs_length],by rw[strs_length];exact h1,by unfold maxLen;omega,fun i x hx=>?_⟩;unfold e0p at hx;rw[Ck]at hx;obtain⟨y,hy,rfl⟩:=Option.map_eq_some_iff.1 hx;obtain⟨g,o,rfl,hg,k1⟩:=h3 i y hy;exact⟨g,o,rfl,by simpa using hg,(b0Q (l0b hb k1) ..).trans k1⟩
def p0P {w:World}{b:Nat}{m0:Bool}{a0 b0:Option Addr}{n0 c0 n1 c1:Nat}{t:TypeId}(hb:Blk w b #[.bool m0,.slice a0 n0 c0,.slice b0 n1 c1] t)(m:Bool)(a a':Option Addr)(n c n' c':Nat){v:Value}{L:List Rat}(hv:∀ g,v.ownBlock=some g->g≠b)(h:RRow w v L):RRow (((w.setCell ⟨b,0,none⟩ (.bool m)).setCell ⟨b,1,none⟩ (.slice a n c)).setCell ⟨b,2,none⟩ (.slice a' n' c')) v L:=by
 obtain⟨s,k,rfl,h1,h2,h3⟩:=h.ex;refine⟨s,k,rfl,h1,h2,fun i x hx=>?_⟩;obtain⟨g,o,m1,a1,n1,c1,a2,n2,c2,rfl,hg,k1,k2,k3,hQ⟩:=h3 i x hx;have hne:=hv g rfl;exact⟨g,o,m1,a1,n1,c1,a2,n2,c2,rfl,by simpa using hg,(b0Q hne ..).trans k1,(b0Q hne ..).trans k2,(b0Q hne ..).trans k3,l0F hb m a a' n c n' c' hQ⟩
def m0s {W:World}{g:Nat}{s:ByteArray}{t:TypeId}(h:Blk W g #[.string s] t):Row W (.slice (some ⟨g,0,none⟩) 1 1) (e0p [s]):=by
 refine⟨some ⟨g,0,none⟩,1,by rw[strs_length];rfl,by rw[strs_length];exact Z3 _,by unfold maxLen;omega,fun i x hx=>?_⟩
 match i,hx with
 | 0,hx=>
  cases hx
  exact⟨g,0,rfl,h.lt,by rw[h.cell];rfl⟩
 | i+1,hx=>cases hx
def m0z {W:World}{g:Nat}{m:Bool}{a a':Option Addr}{n c n' c':Nat}{q:Rat}{t:TypeId}(h:Blk W g #[.bool m,.slice a n c,.slice a' n' c'] t)(hq:IsQ .i64 W (.agg #[.bool m,.slice a n c,.slice a' n' c']) q):RRow W (.slice (some ⟨g,0,none⟩) 1 1) [q]:=by
 refine⟨some ⟨g,0,none⟩,1,rfl,Z3 _,by omega,fun i x hx=>?_⟩
 match i,hx with
 | 0,hx=>
  cases hx
  exact⟨g,0,m,a,n,c,a',n',c',rfl,h.lt,h.cell 0,h.cell 1,h.cell 2,hq⟩
 | i+1,hx=>cases hx
theorem SQ.off {B:Nat}{W:World}{v u:Value}{ts:List ByteArray}{qs:List Rat}(h:SQ B W v u ts qs):∀ g,u.ownBlock=some g->B<=g:=fun g e=>by
 obtain⟨cs,h1,-⟩:=h.q.ex;exact (h1.own.lt g e).1
def t0v (V:World):Calls Tryz.prog 71 #[.string ⟨#[49]⟩] V fun e w'=>(∃ v,e=.returned (.tuple #[v,.int .i64 0])/\IsQ .i64 w' v 1)/\Below V.heap.size V w':=
 (c0I V ⟨#[49]⟩ (by show 1<=1000000;omega)).mono fun e w' h=>by
  obtain⟨⟨v,rfl,h1,-⟩,hb⟩:=h;have e1:=b1B;have e2:=b1q;unfold t1 at e1 e2;rw[e1,e2]at h1;rw[e1];exact⟨⟨v,rfl,h1 rfl⟩,hb⟩
structure NyD (a:ByteArray)(n:Nat)(g:Int->Nat)(d:List (ByteArray×ByteArray)):Prop where
 z:zS n g<=2 ^ n
 x:∀ v,g v<=2 ^ n
 num:∀ p∈d,qE p.2=0/\p.2.size<=10000
 len:d.length<=100
 e:glE a (n:Nat) 32=0
 r:glR a (n:Nat) true=d
 l:chL d n (2*n+1)=chQ g n
def z0W {a:ByteArray}{n:Nat}(hg:gPE a=0)(hn:n<=32):∃ d,NyD a n (gV (bN (cW a)) (bN (qD a)) true n) d:=by
 have hND:=(b0S hg).2;have hall:=v0P hND true n;have hx:∀ v,gV (bN (cW a)) (bN (qD a)) true n v<=2 ^ n:=fun v=>l0J hND true n v
 have e0:glE a (n:Nat) 32=0:=by unfold glE;rw[Q0 (by simpa using hg),Q0 (by omega)]
 have e1:glR a (n:Nat) true=a0B (glP (gV (bN (cW a)) (bN (qD a)) true n) (2 ^ n) n (gL (bN (cW a)) (bN (qD a)) true n)):=by unfold glR;rw[U0 e0,An]
 have hr:gL (bN (cW a)) (bN (qD a)) true n<=2 ^ n:=by omega
 refine⟨_,by omega,hx,x0Q (by omega) hx hr,?_,e0,e1,s0p (by omega) hx _ nr⟩;rw[c0f];have:=o0E (gV (bN (cW a)) (bN (qD a)) true n) (2 ^ n) n (gL (bN (cW a)) (bN (qD a)) true n);omega
def o0b (w:World)(v:Value)(c:List Int)(a:ByteArray)(n:Nat)(hv:Row w v (zs c))(ha:a.size<=100000)(h0:nlE c a (n:Nat)=0)(h9:(2*n+1) ^ c.length<=2300):
 Calls Tryz.prog 17 #[v,.string a,.int .i64 (n:Nat)] w fun e w'=>(∃ u,e=.returned (.tuple #[u,.int .i64 0])/\MRow w' u (nlR c a (n:Nat)))/\Below w.heap.size w w':=by
 obtain⟨hzE,hg,-,hn32,-⟩:=h0W h0;have hn:n<=32:=by omega
 obtain⟨hcl,hcr⟩:=d0Y hzE;obtain⟨d,DA⟩:=z0W (a:=a) hg hn;have hR:=q0J h0;have hO:=q0K hg (n:Nat);rw[An]at hR hO;have hGG:nlG a (n:Nat)=gV (bN (cW a)) (bN (qD a)) true n:=rfl;rw[hGG]at hR hO;rw[hR];obtain⟨i0,hi,hz0,hz1,hz2⟩:=Cl r0t;obtain⟨iQ,hiQ,hQ0,hQ1,hQ2⟩:=Cl x0M;obtain⟨g,hgg⟩:=gn (gV (bN (cW a)) (bN (qD a)) true n);rw[hgg]at DA hO |-;have HCK:=hid (g0O w v c hv);rw[hzE]at HCK;have HTL:=fun V=>hid (k0H V a (n:Nat) ha)
 rw[DA.e,DA.r]at HTL;have HMY:=fun V=>hid (m0L V (2*n+1) c.length (by omega) (by omega) (by omega))
 rw[I7 (show ¬ 5000<(2*n+1) ^ c.length by omega)]at HMY;have HCH:=fun V v hv=>hid (l0p V v d n hn hv DA.num DA.len)
 rw[DA.l]at HCH;have hmem:=l0X hO;have hnd:=n0x g n;have rv:=t0j g n;have hkl:=i0o g n;have HCG:=hid (fun (j:Nat) (h:j<(chA g n).length)=>y0C (g:=g) h);have hCL:=p0a g n;have hvb:∀ x∈chA g n,-(n:Int)<=x/\x<=n:=fun x hx=>⟨(u0V hx).1,(u0V hx).2.1⟩
 obtain⟨vs,hvs⟩:=gn (chA g n);rw[hvs]at hmem hnd rv hkl HCG hCL hvb |-;have hM5:n*c.length<=900:=by
  by_cases h00:n=0
  .rw[h00,Fi];omega
  .have hK:c.length<=7:=by
    refine J8 fun hc=>?_
    have h1:3 ^ 8<=(2*n+1) ^ c.length:=E0 (Dn (show 3<=2*n+1 by omega) 8) (Z4 (by omega) (by omega));have h2:(3:Nat) ^ 8=6561:=by decide
    omega
   have h3:n*c.length<=32*7:=Aw (by omega) hK;omega
 have hlen:∀ i,(lvX g vs c i).length<=2300:=fun i=>E0 (a1i (by omega) hkl i) h9
 have hout:∀ i,i<=c.length->∀ p∈lvX g vs c i,OutX n i 2000000000000000 p:=q0X (fun v _=>DA.x v) (fun x hx v hv=>by have:=hcr x hx;have:=hvb v hv;omega);have hnM:∀ i,i<=c.length->n*i<=1000:=fun i hi=>E0 (Af n hi) (by omega)
 have hql:∀ i,i<=c.length->∀ p∈lvX g vs c i,(limbs (qX (n*i) p).num.natAbs).length<=100000/\(limbs (qX (n*i) p).den).length<=100000:=fun i hi p hp=>j0q (hout i hi p hp).le (hnM i hi)
 have hgl:∀ x,(limbs (dyQ (g x) n).num.natAbs).length<=100000/\(limbs (dyQ (g x) n).den).length<=100000:=fun x=>j0q (DA.x x) (by omega)
 have hTZ:=DA.z;have hsum:smX (lvX g vs c c.length) (lvX g vs c c.length).length<=2 ^ (n*c.length):=by rw[i0U,p0E rv];exact v0f hTZ _
 have hLQ2:=fun k=>j0q (show 2 ^ (n*c.length)-smX (lvX g vs c c.length) k<=2 ^ (n*c.length) from Ki _ _) (show n*c.length<=1000 by omega)
 have hdn:∀ (k:Nat) (p:List Int×Nat),(lvX g vs c c.length)[k]?=some p->h0G (dlX (lvX g vs c c.length) (n*c.length) k) (tX p) (dyB p.2 (n*c.length))=dlX (lvX g vs c c.length) (n*c.length) (k+1):=fun k p hp=>by
  rw[i0U]at hp |-;exact u0M hnd _ hp
 have hde:h0G (dlX (lvX g vs c c.length) (n*c.length) (lvX g vs c c.length).length) b0h (dyB (2 ^ (n*c.length)-smX (lvX g vs c c.length) (lvX g vs c c.length).length) (n*c.length))=a0B (nyP g vs n c):=by
  have h:=y0h (g:=g) (n:=n) (c:=c) hnd hmem (fun p hp=>(hout c.length nr p (by rw[i0U];exact hp)).le) (by omega);rw[i0U,p0E rv];exact h
 have hrs:∀ (k:Nat) (p:List Int×Nat),(lvX g vs c c.length)[k]?=some p->dyQ (2 ^ (n*c.length)-smX (lvX g vs c c.length) k) (n*c.length) + -qX (n*c.length) p=dyQ (2 ^ (n*c.length)-smX (lvX g vs c c.length) (k+1)) (n*c.length):=fun k p hp=>t0b hsum hp
 obtain⟨HNX,HLE,HOU,HQL,HGL,HL2,HDN,HDE,HRS,HCR,HVB,HV⟩:=kg (fun (i:Nat) (x:Int) (h:c[i]?=some x)=>n0b (g:=g) (vs:=vs) h) hlen hout hql hgl hLQ2 hdn hde hrs hcr hvb hv;obtain⟨HN,HGX⟩:=zg hn DA.x;obtain⟨s,cp,rfl,q1,q2,q3⟩:=hv.openZ;have Q3:=hid q3;obtain⟨S,hS⟩:=gn (a0B (nyP g vs n c));rw[hS]at HDE |-;obtain⟨L,hLL⟩:=gn (c.length);rw[hLL]at HV HMY HCK HOU HQL HL2 HDN HDE HRS hM5 hcl q1 |-;have HLL:=hid hLL;obtain⟨K,hK⟩:=gn (vs.length);rw[hK]at hkl HCG hCL;obtain⟨HK,HK65,HL256,HCL⟩:=zd hK (show K<=65 by omega) hcl hCL;obtain⟨M,hM⟩:=gn (n*L);rw[hM]at HL2 HDN HDE HRS hM5;have HM:=hid hM;have wm1:IntKind.i64.wrap (2*(n:Int))=2*(n:Int):=by rw[O0 _ ⟨by omega,by omega⟩]
 have wm2:IntKind.i64.wrap (2*(n:Int)+1)=((2*n+1:Nat):Int):=by rw[O0 _ ⟨by omega,by omega⟩];omega
 obtain⟨N2,hN2⟩:=gn (2*n+1);rw[hN2]at HMY wm2;clear hv ha h0 h9 hzE hg hn32 hn hcl hcr DA hR hO hGG hgg hmem hnd rv hkl hCL hvb hvs hM5 hlen hout hnM hql hgl hTZ hsum hLQ2 hdn hde hrs q3 hS hLL hK hM hN2;go_enter Tryz.func17,Tryz.ntmps17;go_wp2_with fail;refine HCK.out.mono ?_;rintro e w0 ⟨rfl,hb0⟩;have y0:=hid hb0;clear hb0 HCK;go_wp2_with fail;refine (HTL _).out.mono ?_;rintro e w1 ⟨⟨u1,rfl,hu1⟩,hb1⟩;obtain⟨y1,U1⟩:=zg (a0a y0.out hb1) hu1;obtain⟨ad,cd,rfl,-,-,-⟩:=hu1.ex;clear hb1 hu1 HTL;go_wp2_with fail;refine zx (HMY _) ?_;go_wp2_with fail;clear wm1 wm2;refine (HCH _ _ U1.out).out.mono ?_;rintro e w3 ⟨⟨ul,ql,rfl,hul,hql⟩,hb3⟩;obtain⟨ml,al,nl,kl,al',nl',kl',rfl⟩:=hql.qv;have UL:=hid hul;obtain⟨av,cv,rfl,v1,v2,v3⟩:=hul.ex;rw[HCL.out]at v1 UL |-;obtain⟨V3,y3⟩:=zg v3 (a0a y1.out hb3);clear hb3 hul hql v3 HCH U1;go_wp2_with fail;obtain⟨B3,hB3,A3,-⟩:=zu w3 #[.bool ml,.slice al nl kl,.slice al' nl' kl'] 81;rw[hB3];clear hB3;refine (hid (t0v _)).out.mono ?_;rintro e w4 ⟨⟨v4,rfl,hv4⟩,hb4⟩;obtain⟨m4,a4,n4,c4,b4,d4,e4,rfl⟩:=hv4.qv;obtain⟨y4,T4,Q4⟩:=zc (a0a (a0a y3.out A3.out) hb4) (a0a A3.out hb4) hv4;clear hb4 hv4 A3
 go_upto_region 11 with fail
 obtain⟨B4,hB4,A4,X4⟩:=zu w4 #[.bool m4,.slice a4 n4 c4,.slice b4 d4 e4] 81;rw[hB4];clear hB4;obtain⟨T5,y5,QQ4⟩:=zc (a0a T4.out A4.out) (a0a y4.out A4.out) (Q4.out.call A4.out);obtain⟨QB4,LT4,DR⟩:=zc (show QB B4 w4.heap.size 1 from⟨m4,a4,n4,c4,b4,d4,e4,X4.out,QQ4.out⟩) (show w4.heap.size<B4.heap.size from X4.out.lt) (show Below B4.heap.size B4 B4.drew from br0.drew);have KK:Hid (∀ W,Below B4.heap.size B4 W->W.cell? ⟨w4.heap.size,0,none⟩=some (.bool m4)/\W.cell? ⟨w4.heap.size,1,none⟩=some (.slice a4 n4 c4)/\W.cell? ⟨w4.heap.size,2,none⟩=some (.slice b4 d4 e4)):=fun W hW=>
  ⟨(X4.out.call hW).cell 0,(X4.out.call hW).cell 1,(X4.out.call hW).cell 2⟩
 go_cut [15,16] (fun s15 s16 wx=>Hid (Row wx s15 (e0p [⟨#[]⟩]))/\Hid (RRow wx s16 [1])/\Hid (∀ g,s16.ownBlock=some g->B4.heap.size<=g)/\Hid (Below B4.heap.size B4 wx))
 case first=>
  refine a0k [1] 4 (fun W=>W.cell? ⟨w4.heap.size,0,none⟩=some (.bool m4)/\W.cell? ⟨w4.heap.size,1,none⟩=some (.slice a4 n4 c4)/\W.cell? ⟨w4.heap.size,2,none⟩=some (.slice b4 d4 e4)) (by kernel_rfl) (by kernel_rfl) (by kernel_rfl) (by kernel_rfl) (KK.out _ DR.out) ?_
  iterate 1
   refine⟨_,rfl,?_⟩;apply Exists.intro
   refine⟨.inl ⟨by rfl,?_⟩,?_⟩
   .rintro W' ⟨q7,q8,q9⟩;go_simp;try with_reducible rfl
   go_frame
  refine d0N (i:=0) (j:=2) (by kernel_rfl) (by rfl) (by rfl) (by rfl) (by rfl) ?_ ?_
  .go_wp2_with fail;have D1:=hid (DR.out.alloc DR.out.size (.cells #[.string ⟨#[]⟩] 9));obtain⟨D2,Z1,Z2⟩:=zc (D1.out.alloc D1.out.size (.cells #[.bool m4,.slice a4 n4 c4,.slice b4 d4 e4] 81)) ((Blk.new B4.drew #[.string ⟨#[]⟩] 9).alloc (.cells #[.bool m4,.slice a4 n4 c4,.slice b4 d4 e4] 81)) (Blk.made (B4.drew.alloc (.cells #[.string ⟨#[]⟩] 9)) #[.bool m4,.slice a4 n4 c4,.slice b4 d4 e4] 81 (n:=B4.heap.size+1) (by simp));refine⟨KK.out _ D1.out,?_⟩;refine b0d (is:=[3]) (g:=2) (by kernel_rfl) rfl (KK.out _ D1.out) (by kernel_rfl) ?_
   iterate 1
    refine⟨_,rfl,?_⟩;apply Exists.intro
    refine⟨.inl ⟨by rfl,?_⟩,?_⟩
    .rintro W' ⟨q7,q8,q9⟩;go_simp;try with_reducible rfl
    go_frame
   refine a0c (i:=2) (by kernel_rfl) rfl rfl ?_;go_wp2_with fail;refine⟨KK.out _ D2.out,?_⟩;refine a0c (i:=4) (by kernel_rfl) rfl rfl ?_;go_wp2_with fail;refine⟨KK.out _ D2.out,?_⟩;refine Z7 (by kernel_rfl) ?_ _;simp only[a0Z];go_wp2_with fail
   go_meet
   exact⟨m0s Z1.out,m0z Z2.out (Q4.out.call (a0a A4.out D2.out)),fun g e=>by cases e;simp,D2.out⟩
  .go_wp2_with fail;have D1:=hid (DR.out.alloc DR.out.size (.cells #[.bool m4,.slice a4 n4 c4,.slice b4 d4 e4] 81));obtain⟨D2,Z1,Z2⟩:=zc (D1.out.alloc D1.out.size (.cells #[.string ⟨#[]⟩] 9)) ((Blk.new B4.drew #[.bool m4,.slice a4 n4 c4,.slice b4 d4 e4] 81).alloc (.cells #[.string ⟨#[]⟩] 9)) (Blk.made (B4.drew.alloc (.cells #[.bool m4,.slice a4 n4 c4,.slice b4 d4 e4] 81)) #[.string ⟨#[]⟩] 9 (n:=B4.heap.size+1) (by simp));refine⟨KK.out _ D1.out,?_⟩;refine a0c (i:=0) (by kernel_rfl) rfl rfl ?_;go_wp2_with fail;refine⟨KK.out _ D2.out,?_⟩;refine a0c (i:=3) (by kernel_rfl) rfl rfl ?_;go_wp2_with fail;refine⟨KK.out _ D2.out,?_⟩;refine a0c (i:=4) (by kernel_rfl) rfl rfl ?_;go_wp2_with fail;refine⟨KK.out _ D2.out,?_⟩;refine Z7 (by kernel_rfl) ?_ _;simp only[a0Z];go_wp2_with fail
   go_meet
   exact⟨m0s Z2.out,m0z Z1.out (Q4.out.call (a0a A4.out D2.out)),fun g e=>by cases e;simp,D2.out⟩
 case rest=>
 obtain⟨hT0,hP0,hF0,hB0⟩:=hcut;clear KK DR Q4 QQ4 X4;go_wp2_with fail
 go_loopw [15,16,17,18,19,20,21,22] (fun s15 s16 s17 s18 s19 s20 s21 s22 wr=>∃ i:Nat,s17=.int .i64 (i:Nat)/\i<=L/\Hid (Row wr s15 (e0p ((lvX g vs c i).map tX)))/\Hid (RRow wr s16 ((lvX g vs c i).map (qX (n*i))))/\Hid (∀ g,s16.ownBlock=some g->B4.heap.size<=g)/\Hid (Below B4.heap.size B4 wr)) (fun s15 s16 s17 s18 s19 s20 s21 s22 wr=>L-(intOf s17).toNat)
 case atStart=>exact⟨0,rfl,J5 _,by rw[i0T];exact hT0,by rw[i0T,Eu,show List.map (qX 0) [([],1)] = [1] from by rw[List.map_singleton,show qX 0 ([],1)=dyQ (2 ^ 0) 0 from rfl,n0q]];exact hP0,hF0,hB0⟩
 case round=>
  clear hT0 hP0 hF0 hB0;obtain⟨wi,hwi⟩:∃ x:World,x=wr:=⟨_,rfl⟩;subst hwi;obtain⟨i,rfl,hi',hT,hP,hF,hB⟩:=hrel;have hl256:=HL256.out;obtain⟨X,hX⟩:=gn (lvX g vs c i);rw[hX]at hT hP;obtain⟨N,hN⟩:=gn (X.length);have hN23:N<=2300:=by rw[<- hN,<- hX];exact HLE.out i
  obtain⟨at1,ct,rfl,t1,t2,t3⟩:=hT.out.openS;obtain⟨ap1,cq,rfl,p1,p2⟩:=hP.out.slice;rw[Aa,hN]at hT t1;rw[Aa,hN]at hP p1 hF;rw[Aa,Aa,hN];obtain⟨HT3,HT,HP,HX,HNN,HN23⟩:=kx t3 hT.out hP.out hX hN hN23;clear t3 hX hN;by_cases hlt:i<L
  .obtain⟨ci,hci⟩:∃ x,c[i]?=some x:=⟨_,J0 (by rw[HLL.out];exact hlt)⟩;obtain⟨gc,oc,rfl,hgc,hcc⟩:=Q3.out i ci hci;have TWI:=hid (a0a y5.out hB.out);have KC:Hid (∀ W,Below wi.heap.size wi W->W.cell? ⟨gc,oc+i,none⟩=some (.int .i64 ci)):=fun W hW=>((a0a TWI.out hW).cell (p:=⟨gc,oc+i,none⟩) hgc).trans hcc
   obtain⟨HCI,HLT,HBI,HCB⟩:=zd hci hlt hB.out (HCR.out ci (E7 hci));have f1:(0:Int)<=(i:Int):=by omega
   have f2:(i:Int)<(L:Int):=by omega
   have wi':IntKind.i64.wrap ((i:Int)+1)=((i+1:Nat):Int):=by rw[O0 _ ⟨by omega,by omega⟩];omega
   have XN:Hid (nxX g vs X ci N=lvX g vs c (i+1)):=by
    show _=_
    have h:=HNX.out i ci HCI.out;rw[HX.out,HNN.out]at h;exact h
   have XO:Hid (∀ p∈X,OutX n i 2000000000000000 p):=by have:=HOU.out i (Dc HLT.out);rw[HX.out]at this;exact this
   have XQ:Hid (∀ p∈X,(limbs (qX (n*i) p).num.natAbs).length<=100000/\(limbs (qX (n*i) p).den).length<=100000):=by have:=HQL.out i (Dc HLT.out);rw[HX.out]at this;exact this
   clear hci hgc hcc hT hP hB hi' hlt hl256 hN23;go_wp2_with fail
   go_loopw [18,19,20,21,22] (fun s18 s19 s20 s21 s22 wk=>∃ k:Nat,s20=.int .i64 (k:Nat)/\k<=N/\Hid (SQ wi.heap.size wk s18 s19 ((nxX g vs X ci k).map tX) ((nxX g vs X ci k).map (qX (n*(i+1)))))/\Hid (Below wi.heap.size wi wk)) (fun s18 s19 s20 s21 s22 wk=>N-(intOf s20).toNat)
   case atStart=>exact⟨0,rfl,J5 _,SQ.nil _ _,J3 _ _⟩
   case round=>
    obtain⟨wk,hwk⟩:∃ x:World,x=wr:=⟨_,rfl⟩;subst hwk;obtain⟨k,rfl,hk',hS,hBk⟩:=hrel;have hn23:=HN23.out;by_cases hkl:k<N
    .obtain⟨p,hp⟩:∃ p,X[k]?=some p:=⟨_,J0 (by rw[HNN.out];exact hkl)⟩;obtain⟨gt,ot,rfl,hgt,hct⟩:=HT3.out k (tX p) (by rw[Ck,hp];rfl);obtain⟨gp,op,mp,a5,n5,c5,b5,d5,e5,rfl,hgp,k1,k2,k3,hQp⟩:=HP.out.at (i:=k) (q:=qX (n*i) p) (by rw[Ck,hp];rfl);obtain⟨HPX,HPO,HPQ,QP⟩:=zd hp (XO.out p (E7 hp)) (XQ.out p (E7 hp)) hQp;have KP:Hid (∀ W,Below wi.heap.size wi W->W.cell? ⟨gp,op+k*3,none⟩=some (.bool mp)/\W.cell? ⟨gp,op+k*3+1,none⟩=some (.slice a5 n5 c5)/\W.cell? ⟨gp,op+k*3+2,none⟩=some (.slice b5 d5 e5)):=fun W hW=>
      ⟨(hW.cell (p:=⟨gp,op+k*3,none⟩) hgp).trans k1,(hW.cell (p:=⟨gp,op+k*3+1,none⟩) hgp).trans k2,(hW.cell (p:=⟨gp,op+k*3+2,none⟩) hgp).trans k3⟩
     have KX:Hid (∀ W,Below wi.heap.size wi W->W.cell? ⟨gt,ot+k,none⟩=some (.string (tX p))):=fun W hW=>(hW.cell (p:=⟨gt,ot+k,none⟩) hgt).trans hct
     have h1:(0:Int)<=(k:Int):=by omega
     have h2:(k:Int)<(N:Int):=by omega
     have wk':IntKind.i64.wrap ((k:Int)+1)=((k+1:Nat):Int):=by rw[O0 _ ⟨by omega,by omega⟩];omega
     have HKL:=hid hkl;clear hp hgt hct hgp k1 k2 k3 hQp hkl hk' hn23;go_wp2_with fail
     go_loopw [18,19,21,22] (fun s18 s19 s21 s22 wj=>∃ j:Nat,s21=.int .i64 (j:Nat)/\j<=K/\Hid (SQ wi.heap.size wj s18 s19 ((nyA g vs X ci p k j).map tX) ((nyA g vs X ci p k j).map (qX (n*(i+1)))))/\Hid (Below wi.heap.size wi wj)) (fun s18 s19 s21 s22 wj=>K-(intOf s21).toNat)
     case atStart=>exact⟨0,rfl,J5 _,by rw[<- t0P];exact hS,hBk⟩
     case round=>
      clear hS hBk;obtain⟨wj,hwj⟩:∃ x:World,x=wr:=⟨_,rfl⟩;subst hwj;obtain⟨j,rfl,hj',hS,hBj⟩:=hrel;have hk65:=HK65.out;by_cases hjl:j<K
      .obtain⟨x,hx,hx2⟩:=HCG.out j hjl;obtain⟨gl,ol,N',D',rfl,hgl,m1',m2',m3',m4',m5',m6'⟩:=V3.out j _ hx2;obtain⟨TZ,QL⟩:=zg (a0a T5.out (a0a HBI.out hBj.out)) (show IsQ .i64 w3 (.agg #[.bool (decide ((dyQ (g x) n).num<0)),N',D']) (dyQ (g x) n) from⟨N',D',rfl,m5',m6'⟩);have KA:Hid (∀ W,Below w3.heap.size w3 W->W.cell? ⟨gl,ol+j*4,none⟩=some (.int .i64 x)/\W.cell? ⟨gl,ol+j*4+1,none⟩=some (.bool (decide ((dyQ (g x) n).num<0)))/\W.cell? ⟨gl,ol+j*4+2,none⟩=some N'/\W.cell? ⟨gl,ol+j*4+3,none⟩=some D'):=fun W hW=>
        ⟨(hW.cell (p:=⟨gl,ol+j*4,none⟩) hgl).trans m1',(hW.cell (p:=⟨gl,ol+j*4+1,none⟩) hgl).trans m2',(hW.cell (p:=⟨gl,ol+j*4+2,none⟩) hgl).trans m3',(hW.cell (p:=⟨gl,ol+j*4+3,none⟩) hgl).trans m4'⟩
       obtain⟨mq,aq,nq,cq',aq',nq',cq2,eq⟩:=QL.out.qv;injection eq with eq
       have eqs:[Value.bool (decide ((dyQ (g x) n).num<0)),N',D'] = [.bool mq,.slice aq nq cq',.slice aq' nq' cq2]:=congrArg Array.toList eq;injection eqs with e1 eqs
       injection eqs with e2 eqs
       injection eqs with e3 eqs
       subst e2 e3;rw[e1]at KA QL;have HX':=hid hx;have hxb:=HVB.out x (E7 hx);have hcb:=HCB.out;have hnn:=HN.out;have g1:(0:Int)<=(j:Int):=by omega
       have g2:(j:Int)<(K:Int):=by omega
       have wj':IntKind.i64.wrap ((j:Int)+1)=((j+1:Nat):Int):=by rw[O0 _ ⟨by omega,by omega⟩];omega
       have wcx:IntKind.i64.wrap (ci+x)=ci+x:=by rw[O0 _ ⟨by omega,by omega⟩]
       have PI:=fun V=>hid (w0V V (ci+x) (by omega) (by omega))
       obtain⟨HSM,HJL⟩:=zg (show (ci+x).natAbs<=2000000000000000 by omega) hjl;have HON:=hid (HPO.out.next (g:=g) (ci:=ci) (v:=x) (HGX.out x) HSM.out);have KS:Hid (∀ W,Below wj.heap.size wj W->W.cell? ⟨gl,ol+j*4,none⟩=some (.int .i64 x)/\W.cell? ⟨gl,ol+j*4+1,none⟩=some (.bool mq)/\W.cell? ⟨gl,ol+j*4+2,none⟩=some (.slice aq nq cq')/\W.cell? ⟨gl,ol+j*4+3,none⟩=some (.slice aq' nq' cq2)/\W.cell? ⟨gc,oc+i,none⟩=some (.int .i64 ci)):=fun W hW=>
        have h:=KA.out W (a0a TZ.out hW)
        ⟨h.1,h.2.1,h.2.2.1,h.2.2.2,KC.out W (a0a hBj.out hW)⟩
       clear hx hx2 hgl m1' m2' m3' m4' m5' m6' eq eqs e1 hxb hcb hnn hjl hj' hk65;go_wp2_with fail;refine a0k [0,1,2,3,4,5,6,7,8,9] 2 (fun W=>W.cell? ⟨gl,ol+j*4,none⟩=some (.int .i64 x)/\W.cell? ⟨gl,ol+j*4+1,none⟩=some (.bool mq)/\W.cell? ⟨gl,ol+j*4+2,none⟩=some (.slice aq nq cq')/\W.cell? ⟨gl,ol+j*4+3,none⟩=some (.slice aq' nq' cq2)/\W.cell? ⟨gc,oc+i,none⟩=some (.int .i64 ci)) (by kernel_rfl) (by kernel_rfl) (by kernel_rfl) (by kernel_rfl) (KS.out _ br0.drew) ?_
       iterate 10
        refine⟨_,rfl,?_⟩;apply Exists.intro
        refine⟨.inl ⟨by rfl,?_⟩,?_⟩
        .rintro W' ⟨q5,q6,q7,q8,q9⟩;go_simp;try with_reducible rfl
        go_frame
       refine a0c (i:=10) (by kernel_rfl) rfl rfl ?_;go_wp2_with fail;refine (PI _).out.mono ?_;rintro e wA ⟨rfl,hbA⟩;have xA:=hid (show Below wj.heap.size wj wA from br0.drew.trans hbA);clear hbA;go_wp2_with fail;refine⟨KS.out _ xA.out,?_⟩;refine a0c (i:=11) (by kernel_rfl) rfl rfl ?_;go_wp2_with fail;refine⟨KS.out _ xA.out,?_⟩;refine Z7 (by kernel_rfl) ?_ _;simp only[a0Z];clear wcx;obtain⟨TT,hTT⟩:=gn (tX (stX g ci p x));obtain⟨HTT,TS⟩:=zg hTT (d0L HPO.out.len (fun v hv=>Cn (HPO.out.sm v hv) (by decide)));obtain⟨ZB,hZB⟩:=gn (zB (ci+x));have HZB:=hid hZB;rw[hZB];clear hTT hZB
       go_upto_if 92 with fail
       go_cut [22] (fun s22 wx=>s22=.string TT/\Hid (wA=wx))
       case first=>
        by_cases hi0:i=0
        .subst hi0;have e1:Hid (ZB=TT):=by
          show _=_
          rw[<- HZB.out,<- HTT.out];exact s0T HPO.out ci x
         go_wp2_with fail
         go_meet
         exact⟨by rw[<- e1.out],rfl⟩
        .have tq:(0:Int)<(i:Int):=by omega
         have e1:Hid ((tX p++(⟨#[32]⟩:ByteArray))++ZB=TT):=by
          show _=_
          rw[<- HZB.out,<- HTT.out];exact w0m HPO.out hi0 ci x
         have r1:=KX.out _ (a0a hBj.out xA.out);have z1:(tX p).size<=22*i:=TS.out;have z2:ZB.size<=30:=by
          rw[<- HZB.out];have h:=d0L (l:=[ci+x]) (k:=1) rfl (fun v hv=>by rw[Co.1 hv];exact Cn HSM.out (by decide));exact E0 h (by omega)
         have z3:=HL256.out;have z5:(tX p++(⟨#[32]⟩:ByteArray)).size<=10000:=by rw[Hs];show (tX p).size+1<=_;omega
         have z6:(tX p).size<=10000:=by omega
         clear z1 z3;go_wp2_with fail
         go_meet
         exact⟨by rw[<- e1.out],rfl⟩
       case rest=>
       obtain⟨rfl,hW⟩:=hcut;obtain rfl:=hW.out;clear hW;have KR:Hid (∀ W,Below wi.heap.size wi W->(W.cell? ⟨gp,op+k*3,none⟩=some (.bool mp)/\W.cell? ⟨gp,op+k*3+1,none⟩=some (.slice a5 n5 c5)/\W.cell? ⟨gp,op+k*3+2,none⟩=some (.slice b5 d5 e5))/\W.cell? ⟨gl,ol+j*4+1,none⟩=some (.bool mq)/\W.cell? ⟨gl,ol+j*4+2,none⟩=some (.slice aq nq cq')/\W.cell? ⟨gl,ol+j*4+3,none⟩=some (.slice aq' nq' cq2)):=fun W hW=>
        have h:=KA.out W (a0a T5.out (a0a HBI.out hW))
        ⟨KP.out W hW,h.2.1,h.2.2.1,h.2.2.2⟩
       obtain⟨BA,DA⟩:=zg (show Below wi.heap.size wi wA from a0a hBj.out xA.out) (show Below wA.heap.size wA wA.drew from br0.drew);obtain⟨A1,Z1⟩:=zg (DA.out.alloc DA.out.size (.cells #[.string TT] 9)) (Blk.new wA.drew #[.string TT] 9);obtain⟨B1,SA⟩:=zg (a0a BA.out A1.out) (hS.out.call (a0a xA.out A1.out))
       have HCS:=hid (show (sL ((nyA g vs X ci p k j).map tX)).length<=200000 from by
        rw[g0D,Aa];have h1:=o0l (g:=g) (vs:=vs) X ci p k j;rw[HK.out]at h1;have h2:=HKL.out;have h3:=HN23.out;have h4:=HK65.out;have h6:k*K<=2300*65:=Aw (by omega) h4;omega)
       have BS1:=hid (show wi.heap.size<=(wA.drew.alloc (.cells #[.string TT] 9)).heap.size from B1.out.size);clear hS hBj KX TS;go_wp2_with fail;refine a0k [0,1,4,5,6,7,8,9,10,11,12,13] 7 (fun W=>(W.cell? ⟨gp,op+k*3,none⟩=some (.bool mp)/\W.cell? ⟨gp,op+k*3+1,none⟩=some (.slice a5 n5 c5)/\W.cell? ⟨gp,op+k*3+2,none⟩=some (.slice b5 d5 e5))/\W.cell? ⟨gl,ol+j*4+1,none⟩=some (.bool mq)/\W.cell? ⟨gl,ol+j*4+2,none⟩=some (.slice aq nq cq')/\W.cell? ⟨gl,ol+j*4+3,none⟩=some (.slice aq' nq' cq2)) (by kernel_rfl) (by kernel_rfl) (by kernel_rfl) (by kernel_rfl) (KR.out _ (a0a BA.out DA.out)) ?_
       iterate 12
        refine⟨_,rfl,?_⟩;apply Exists.intro
        refine⟨.inl ⟨by rfl,?_⟩,?_⟩
        ·(intro W' hW';obtain⟨⟨q4,q5,q6⟩,q7,q8,q9⟩:=hW';go_simp;try (with_reducible rfl))
        go_frame
       refine a0c (i:=2) (by kernel_rfl) rfl rfl ?_;go_wp2_with fail;refine⟨KR.out _ B1.out,?_⟩;refine a0c (i:=3) (by kernel_rfl) rfl rfl ?_;show wpList _ _ _ [⟨some 103,_,_,_,_,_⟩] _ _
       refine c0z _ .i64 rfl _ _ 86 rfl wi.heap.size 9 i0 (.string ⟨#[]⟩) 1 16 Tryz.underlying86 hi hz0 hz1 hz2 rfl (by decide) c1q u18 (sL ((nyA g vs X ci p k j).map tX)) rfl SA.out.s ⟨wA.heap.size,0,none⟩ 1 1 [[.string TT]] rfl rfl (c1t _) (b1J Z1.out) (b1F _) (c1r _) (by have:=HCS.out;unfold maxLen;omega) (by have:=HCS.out;omega) BS1.out ?_;intro v' wB hown hgrow hkeep hat;obtain⟨SB,BB⟩:=zg (SA.out.appS br0 hown hgrow hkeep) (i0c SA.out.s rfl B1.out br0 hgrow);clear hown hgrow hkeep hat SA
       go_frame
       go_wp2_with fail;refine⟨KR.out _ BB.out,?_⟩;refine a0c (i:=14) (by kernel_rfl) rfl rfl ?_;go_wp2_with fail;refine (m0J _ _ _ _ _ (QP.out.call BB.out) (QL.out.call (a0a T5.out (a0a HBI.out BB.out))) HPQ.out.1 HPQ.out.2 (HGL.out x).1 (HGL.out x).2).mono ?_;rintro e wC ⟨⟨vC,rfl,hvC⟩,hbC⟩;obtain⟨m6,a6,n6,c6,b6,d6,e6,rfl⟩:=hvC.qv;rw[x0f (g:=g) n i p ci x]at hvC;obtain⟨xC,AC,ZC⟩:=zc hbC ((J3 wC.heap.size wC).alloc nr (.cells #[.bool m6,.slice a6 n6 c6,.slice b6 d6 e6] 81)) (Blk.new wC #[.bool m6,.slice a6 n6 c6,.slice b6 d6 e6] 81);have BC:=hid (a0a BB.out xC.out);obtain⟨BD,SD,VC⟩:=zc (a0a BC.out AC.out) (SB.out.call (a0a xC.out AC.out)) hvC;have QC2:=hid (QC.ofI (VC.out.call AC.out));obtain⟨cs,hk,hQL⟩:=SD.out.q.ex;obtain⟨HKR,HQQ⟩:=zg hk hQL
       have HCL2:=hid (show cs.length<=200000 from by
        have h:=HCS.out;rw[g0D,Aa]at h;rw[hQL.len,Aa];exact h)
       have BS2:=hid (show wi.heap.size<=(wC.alloc (.cells #[.bool m6,.slice a6 n6 c6,.slice b6 d6 e6] 81)).heap.size from BD.out.size);clear hbC hvC hk hQL SB;go_wp2_with fail;refine⟨KR.out _ BC.out,?_⟩;refine a0c (i:=15) (by kernel_rfl) rfl rfl ?_;go_wp2_with fail;refine⟨KR.out _ BD.out,?_⟩;refine a0c (i:=16) (by kernel_rfl) rfl rfl ?_;show wpList _ _ _ [⟨some 116,_,_,_,_,_⟩] _ _
       refine c0z _ .i64 rfl _ _ 87 rfl wi.heap.size 81 iQ (.agg #[.bool false,.slice none 0 0,.slice none 0 0]) 3 56 Tryz.underlying87 hiQ hQ0 hQ1 hQ2 rfl (by decide) z0X u19 cs rfl HKR.out ⟨wC.heap.size,0,none⟩ 1 1 [[.bool m6,.slice a6 n6 c6,.slice b6 d6 e6]] rfl rfl (c1s _ _ _) (b1I ZC.out) (c1p _ _ _ _ _ _ _) (b1G _ _ _ _ _ _ _) (by have:=HCL2.out;unfold maxLen;omega) (by have:=HCL2.out;omega) BS2.out ?_;intro v9 wD hown hgrow hkeep hat;obtain⟨SE,BE⟩:=zg (SD.out.appQ HKR.out HQQ.out br0 hown hgrow hkeep QC2.out) (i0c HKR.out rfl BD.out br0 hgrow);clear hown hgrow hkeep hat SD
       go_frame
       go_wp2_with fail;refine⟨KR.out _ BE.out,?_⟩;refine a0c (i:=17) (by kernel_rfl) rfl rfl ?_;go_wp2_with fail;refine⟨KR.out _ BE.out,?_⟩;refine a0c (i:=18) (by kernel_rfl) rfl rfl ?_;go_wp2_with fail;refine⟨KR.out _ BE.out,?_⟩;refine Z7 (by kernel_rfl) ?_ _;simp only[a0Z];go_wp2_with fail;go_roundw
       case rel=>exact⟨j+1,by go_num,by have:=HJL.out;omega,by
        have h:=SE.out;rw[<- HTT.out,show (nyA g vs X ci p k j).map tX ++ [tX (stX g ci p x)]=(nyA g vs X ci p k (j+1)).map tX from by rw[<- m0W X ci p k HX'.out,Ak];rfl,show (nyA g vs X ci p k j).map (qX (n*(i+1))) ++ [qX (n*(i+1)) (stX g ci p x)]=(nyA g vs X ci p k (j+1)).map (qX (n*(i+1))) from by rw[<- m0W X ci p k HX'.out,Ak];rfl]at h;exact h,BE.out⟩
       case measure=>simp[intOf]<;>(have:=HJL.out;omega)
      .obtain rfl:j=K:=by omega
       rw[<- HK.out,x0w ci HPX.out]at hS;clear hjl hj' hk65;go_wp2_with fail;go_roundw
       case rel=>exact⟨k+1,by go_num,by have:=HKL.out;omega,hS,hBj⟩
       case measure=>simp[intOf]<;>(have:=HKL.out;omega)
    .obtain rfl:k=N:=by omega
     rw[XN.out]at hS;clear hkl hk' hn23;go_wp2_with fail;go_roundw
     case rel=>exact⟨i+1,by go_num,by have:=HLT.out;omega,hS.out.row,hS.out.rd,fun g e=>E0 HBI.out.size (hS.out.off g e),a0a HBI.out hBk.out⟩
     case measure=>simp[intOf]<;>(have:=HLT.out;omega)
  .obtain rfl:i=L:=by omega
   have F0:=hid hF.out;rw[HX.out]at HL2 HDN HDE HRS;rw[HNN.out]at HDE;have XM:Hid (∀ p∈X,(limbs (qX M p).num.natAbs).length<=100000/\(limbs (qX M p).den).length<=100000):=by have:=HQL.out i nr;rw[HX.out,HM.out]at this;exact this
   rw[HM.out]at HP hP;have HDL:=hid (fun k=>o0N X M k);rw[HNN.out]at HDL;obtain⟨QS,BL⟩:=zg (show QB wi w4.heap.size (dyQ (2 ^ M-smX X 0) M) from by rw[t0a];exact QB4.out.call hB.out) (show Below w4.heap.size w4 wi from a0a A4.out hB.out);clear hT hP hB hF hi' hlt hl256 hN23 t1 t2 p1 p2 QB4;go_wp2_with fail
   go_loopw [23,24,25,26] (fun s23 s24 s25 s26 wr=>∃ k:Nat,s24=.int .i64 (k:Nat)/\k<=N/\Hid (MRow wr s23 (dlX X M k))/\Hid (Row wr (.slice at1 N ct) (e0p (X.map tX)))/\Hid (RRow wr (.slice ap1 N cq) (X.map (qX M)))/\Hid (QB wr w4.heap.size (dyQ (2 ^ M-smX X k) M))/\Hid (Below w4.heap.size w4 wr)) (fun s23 s24 s25 s26 wr=>N-(intOf s24).toNat)
   case atStart=>exact⟨0,rfl,J5 _,by rw[u0L];exact MRow.nil _,HT,HP,QS,BL⟩
   case round=>
    clear HT HP HT3 QS BL;obtain⟨wk,hwk⟩:∃ x:World,x=wr:=⟨_,rfl⟩;subst hwk;obtain⟨k,rfl,hk',hM,hT,hP,hQ,hB⟩:=hrel;have hn23:=HN23.out;obtain⟨m14,a14,n14,c14,b14,d14,e14,hb14,hq14⟩:=hQ.out;obtain⟨X14,V14,LQk⟩:=zc hb14 hq14 (HL2.out k);by_cases hkl:k<N
    .obtain⟨p,hp⟩:∃ p,X[k]?=some p:=⟨_,J0 (by rw[HNN.out];exact hkl)⟩;obtain⟨at2,ct2,e0,-,-,ht3⟩:=hT.out.openS;injection e0 with e0 e0' e0''
     subst e0 e0'';clear e0';obtain⟨gt,ot,rfl,hgt,hct⟩:=ht3 k (tX p) (by rw[Ck,hp];rfl);obtain⟨gp,op,mp,a5,n5,c5,b5,d5,e5,rfl,hgp,k1,k2,k3,hQp⟩:=hP.out.at (i:=k) (q:=qX M p) (by rw[Ck,hp];rfl);have hne:gp≠w4.heap.size:=fun e=>by have:=F0.out gp rfl;have:=LT4.out;omega
     obtain⟨HNE,HPX,HPQ,QP,HDNk,HRSk⟩:=kx hne hp (XM.out p (E7 hp)) hQp (HDN.out k p hp) (HRS.out k p hp);have KP:Hid (∀ W,Below wk.heap.size wk W->W.cell? ⟨gp,op+k*3,none⟩=some (.bool mp)/\W.cell? ⟨gp,op+k*3+1,none⟩=some (.slice a5 n5 c5)/\W.cell? ⟨gp,op+k*3+2,none⟩=some (.slice b5 d5 e5)):=fun W hW=>
      ⟨(hW.cell (p:=⟨gp,op+k*3,none⟩) hgp).trans k1,(hW.cell (p:=⟨gp,op+k*3+1,none⟩) hgp).trans k2,(hW.cell (p:=⟨gp,op+k*3+2,none⟩) hgp).trans k3⟩
     have KX:Hid (∀ W,Below wk.heap.size wk W->W.cell? ⟨gt,ot+k,none⟩=some (.string (tX p))):=fun W hW=>(hW.cell (p:=⟨gt,ot+k,none⟩) hgt).trans hct
     have h1:(0:Int)<=(k:Int):=by omega
     have h2:(k:Int)<(N:Int):=by omega
     have wk':IntKind.i64.wrap ((k:Int)+1)=((k+1:Nat):Int):=by rw[O0 _ ⟨by omega,by omega⟩];omega
     have HKL:=hid hkl;have HO2:Hid (c0u (qX M p)=dyB p.2 M):=v0T _ _;obtain⟨MD,HTk,HPk⟩:=zc (show (dlX X M k).length<=1000000 from E0 (HDL.out k) (by omega)) hT.out hP.out;obtain⟨a13,c13,rfl,-,-,-⟩:=hM.out.ex;have HMk:=hid hM.out;clear hp hgt hct hgp hQp hkl hk' hn23 hne ht3 hT hP hM hb14 hq14 hQ;go_wp2_with fail;refine (d0F _ _ _ QP.out (E0 HPQ.out.1 (by omega)) (E0 HPQ.out.2 (by omega))).mono ?_;rintro e w6 ⟨rfl,hb6⟩;rw[HO2.out];obtain⟨pt,hpt⟩:=gn (dyB p.2 M);obtain⟨pe,hpe⟩:=gn (c0J (qX M p));rw[hpt,hpe];obtain⟨HPT,x6⟩:=zg hpt hb6;have r1:=KX.out _ x6.out;clear hb6 hpt hpe k1 k2 k3;go_wp2_with fail;refine (m0D _ _ _ _ _ (HMk.out.call x6.out) MD.out).mono ?_;rintro e w18 ⟨⟨u8,rfl,hu8⟩,hb8⟩;have x8:=hid (a0a x6.out hb8);have hadd:=HDNk.out;rw[HPT.out]at hadd;rw[hadd]at hu8;have M18:=hid hu8;obtain⟨a8,c8,rfl,-,-,-⟩:=hu8.ex;obtain⟨Y14,W14,QP8,T8,P8⟩:=zf (X14.out.call x8.out) (V14.out.call x8.out) (QP.out.call x8.out) (HTk.out.call x8.out) (HPk.out.call x8.out);clear hb8 hu8 hadd r1;go_wp2_with fail;have KK:Hid (∀ W,Below w18.heap.size w18 W->W.cell? ⟨gp,op+k*3,none⟩=some (.bool mp)/\W.cell? ⟨gp,op+k*3+1,none⟩=some (.slice a5 n5 c5)/\W.cell? ⟨gp,op+k*3+2,none⟩=some (.slice b5 d5 e5)):=fun W hW=>KP.out W (a0a x8.out hW)
     have b0:w18.drew.cell? ⟨w4.heap.size,0,none⟩=_:=Y14.out.drew.cell 0;have b1:w18.drew.cell? ⟨w4.heap.size,1,none⟩=_:=Y14.out.drew.cell 1;have b2:w18.drew.cell? ⟨w4.heap.size,2,none⟩=_:=Y14.out.drew.cell 2;simp at b0 b1 b2;have NQ:=fun V h=>hid (g0N V (.agg #[.bool mp,.slice a5 n5 c5,.slice b5 d5 e5]) (qX M p) h)
     have LNG:Hid ((limbs (-qX M p).num.natAbs).length<=100000/\(limbs (-qX M p).den).length<=100000):=by
      have:=HPQ.out;rw[It,Ik,Mm];exact this
     refine a0k [1,2,3,4] 4 (fun W=>W.cell? ⟨gp,op+k*3,none⟩=some (.bool mp)/\W.cell? ⟨gp,op+k*3+1,none⟩=some (.slice a5 n5 c5)/\W.cell? ⟨gp,op+k*3+2,none⟩=some (.slice b5 d5 e5)) (by kernel_rfl) (by kernel_rfl) (by kernel_rfl) (by kernel_rfl) (KK.out _ br0.drew) ?_
     iterate 4
      refine⟨_,rfl,?_⟩;apply Exists.intro
      refine⟨.inl ⟨by rfl,?_⟩,?_⟩
      .rintro W' ⟨q7,q8,q9⟩;go_simp;try with_reducible rfl
      go_frame
     refine d0N (i:=0) (j:=5) (by kernel_rfl) (by rfl) (by rfl) (by rfl) (by rfl) ?_ ?_
     focus
      go_wp2_with fail;refine⟨KK.out _ br0.drew,?_⟩;refine a0c (i:=5) (by kernel_rfl) rfl rfl ?_;go_wp2_with fail;refine (NQ _ (QP8.out.call br0.drew)).out.mono ?_;rintro e w19 ⟨⟨v9,rfl,hv9⟩,hb9⟩;obtain⟨m9,a9,n9,c9,b9,d9,e9,rfl⟩:=hv9.qv;have x9:=hid (show Below w18.heap.size w18 w19 from br0.drew.trans hb9);obtain⟨P9,Q9,X9⟩:=zc (W14.out.call x9.out) hv9 (Y14.out.call x9.out);clear hb9 hv9 b0 b1 b2;go_wp2_with fail;refine⟨KK.out _ x9.out,?_⟩
     rotate_left
     focus
      go_wp2_with fail;refine (NQ _ (QP8.out.call br0.drew)).out.mono ?_;rintro e w19 ⟨⟨v9,rfl,hv9⟩,hb9⟩;obtain⟨m9,a9,n9,c9,b9,d9,e9,rfl⟩:=hv9.qv;have x9:=hid (show Below w18.heap.size w18 w19 from br0.drew.trans hb9);obtain⟨P9,Q9,X9⟩:=zc (W14.out.call x9.out) hv9 (Y14.out.call x9.out);clear hb9 hv9 b0 b1 b2;have b0:=X9.out.cell 0;have b1:=X9.out.cell 1;have b2:=X9.out.cell 2;simp at b0 b1 b2;go_wp2_with fail;refine⟨KK.out _ x9.out,?_⟩;refine a0c (i:=0) (by kernel_rfl) rfl rfl ?_;go_wp2_with fail;refine⟨KK.out _ x9.out,?_⟩;clear b0 b1 b2
     all_goals
      refine a0c (i:=6) (by kernel_rfl) rfl rfl ?_;go_wp2_with fail;refine (p0X _ _ _ _ _ P9.out Q9.out LQk.out.1 LQk.out.2 LNG.out.1 LNG.out.2).mono ?_;rintro e w20 ⟨⟨v10,rfl,hv10⟩,hb10⟩;obtain⟨mf,af,nf,cf,bf,df,ef,rfl⟩:=hv10.qv;obtain⟨y10,X10⟩:=zg (a0a x9.out hb10) (X9.out.call hb10);rw[HRSk.out]at hv10;obtain⟨R10,M10,T10,P10⟩:=zd hv10 (M18.out.call y10.out) (T8.out.call y10.out) (P8.out.call y10.out);have t0:=X10.out.cell 0;have t1:=X10.out.cell 1;have t2:=X10.out.cell 2;have t3:=X10.out.free 0;have t4:=X10.out.free 1;have t5:=X10.out.free 2;simp at t0 t1 t2;clear hb10 hv10;go_wp2_with fail;refine⟨KK.out _ y10.out,?_⟩;refine a0c (i:=7) (by kernel_rfl) rfl rfl ?_;go_wp2_with fail;have hk3:=KK.out _ y10.out;refine⟨⟨(b0Q HNE.out ..).trans hk3.1,(b0Q HNE.out ..).trans hk3.2.1,(b0Q HNE.out ..).trans hk3.2.2⟩,?_⟩;refine Z7 (by kernel_rfl) ?_ _;simp only[a0Z];clear t0 t1 t2 t3 t4 t5 hk3;go_wp2_with fail;have z10:=hid (a0a hB.out (a0a x8.out y10.out));go_roundw
      case rel=>exact⟨k+1,by go_num,by have:=HKL.out;omega,q0W X10.out _ _ _ _ _ _ _ M10.out,p0A X10.out _ _ _ _ _ _ _ T10.out,p0P X10.out _ _ _ _ _ _ _ (fun g e=>by cases e;exact HNE.out) P10.out,QB.put X10.out R10.out,((z10.out.setCell nr _).setCell nr _).setCell nr _⟩
      case measure=>simp[intOf]<;>(have:=HKL.out;omega)
    .obtain rfl:k=N:=by omega
     have b0:=hb14.cell 0;have b1:=hb14.cell 1;have b2:=hb14.cell 2;simp at b0 b1 b2;have TL:=hid (show (dlX X M k).length<=1000000 from E0 (HDL.out k) (by omega));obtain⟨a13,c13,rfl,-,-,-⟩:=hM.out.ex;have HMk:=hid hM.out;clear hkl hk' hn23 hb14 hq14 hQ hT hP hM;go_wp2_with fail;refine (d0F _ _ _ V14.out (E0 LQk.out.1 (by omega)) (E0 LQk.out.2 (by omega))).mono ?_;rintro e w6 ⟨rfl,hb6⟩;rw[v0T];obtain⟨pt,hpt⟩:=gn (dyB (2 ^ M-smX X k) M);obtain⟨pe,hpe⟩:=gn (c0J (dyQ (2 ^ M-smX X k) M));have hde:=HDE.out;rw[hpt]at hde;rw[hpt,hpe];obtain⟨HDF,x6⟩:=zg hde hb6;clear hb6 hpt hpe b0 b1 b2 hde;go_wp2_with fail;refine (m0D _ _ _ b0h _ (HMk.out.call x6.out) TL.out).mono ?_;rintro e w7 ⟨⟨u9,rfl,hu9⟩,hb8⟩;rw[HDF.out]at hu9;obtain⟨Z,U9⟩:=zg (a0a y4.out (a0a hB.out (a0a x6.out hb8))) hu9;obtain⟨a9,c9,rfl,-,-,-⟩:=hu9.ex;clear hb8 hu9;go_wp2_with fail;go_ret2
     exact⟨⟨_,rfl,U9.out⟩,Z.out⟩
def w0W (w:World)(v:Value)(c:List Int)(a:ByteArray)(n:Int)(hv:Row w v (zs c))(ha:a.size<=100000)(h9:nlE c a n=0->(2*n.toNat+1) ^ c.length<=2300):
 Calls Tryz.prog 17 #[v,.string a,.int .i64 n] w fun e w'=>(∃ u,e=.returned (.tuple #[u,.int .i64 (nlE c a n)])/\MRow w' u (nlR c a n))/\Below w.heap.size w w':=by
 by_cases h0:nlE c a n=0
 .obtain⟨-,-,hn0,-,-⟩:=h0W h0;obtain⟨m,rfl⟩:∃ m:Nat,n=(m:Nat):=⟨n.toNat,by omega⟩;have h:=h9 h0;rw[An]at h;rw[h0];exact o0b w v c a m hv ha h0 h
 .have e2:nlR c a n = []:=Q0 h0;rw[e2];have HCK:=fun V hV=>hid (g0O V v c hV)
  have HTL:=fun V=>hid (k0H V a n ha)
  obtain⟨s,cp,rfl,q1,q2,q3⟩:=hv.openZ;have HV:=hid hv;obtain⟨L,hLc⟩:=gn (c.length);unfold nlE at h0 |-;obtain⟨z,hz⟩:=gn (zE c);have hz0:=hz;rw[hz]at h0 |-;simp only[hz,hLc]at HCK;rw[hLc]at HV h0 q1 |-;by_cases c0:z=0
  case neg=>
   rw[U0 c0];have t0:(z==0)=false:=by rw[U4];exact c0
   clear hv q3 hLc hz hz0 h0 c0 ha h9;go_enter Tryz.func17,Tryz.ntmps17;go_wp2_with fail;refine (HCK _ HV.out).out.mono ?_;rintro e w1 ⟨rfl,hb1⟩;go_wp2_with fail;go_ret2
   exact⟨⟨_,rfl,MRow.nil _⟩,hb1⟩
  subst c0;rw[Q0 (by simp)]at h0 |-;obtain⟨y,hy⟩:=gn (glE a n 32);obtain⟨LR,hLR⟩:=gn (glR a n true);have hy0:=hy;rw[hy]at h0 |-;simp only[hy,hLR]at HTL;by_cases c1:y=0
  case neg=>
   rw[U0 c1];have t0:(y==0)=false:=by rw[U4];exact c1
   clear hv q3 hLc hz hz0 h0 c1 ha h9 hy hy0 hLR;go_enter Tryz.func17,Tryz.ntmps17;go_wp2_with fail;refine (HCK _ HV.out).out.mono ?_;rintro e w1 ⟨rfl,hb1⟩;have B1:=hid hb1;clear hb1;go_wp2_with fail;refine (HTL _).out.mono ?_;rintro e w2 ⟨⟨u2,rfl,hu2⟩,hb2⟩;have B2:=hid (a0a B1.out hb2);obtain⟨ad,cd,rfl,-,-,-⟩:=hu2.ex;clear hu2 hb2;go_wp2_with fail;go_ret2
   exact⟨⟨_,rfl,MRow.nil _⟩,B2.out⟩
  subst c1;rw[Q0 (by simp)]at h0 |-;have h5:5000<(2*n.toNat+1) ^ L:=J8 fun h=>h0 (Q0 h)
  rw[U0 h5];obtain⟨-,hn0,hn32⟩:=r0D hy0;obtain⟨m,rfl⟩:∃ m:Nat,n=(m:Nat):=⟨n.toNat,by omega⟩;rw[An]at h5;have hl256:L<=256:=by rw[<- hLc];exact (d0Y hz0).1
  have HMY:=fun V=>hid (m0L V (2*m+1) L (by omega) (by omega) (by omega))
  rw[I8 h5]at HMY;have wm1:IntKind.i64.wrap (2*(m:Int))=2*(m:Int):=by rw[O0 _ ⟨by omega,by omega⟩]
  have wm2:IntKind.i64.wrap (2*(m:Int)+1)=((2*m+1:Nat):Int):=by rw[O0 _ ⟨by omega,by omega⟩];omega
  obtain⟨N2,hN2⟩:=gn (2*m+1);rw[hN2]at HMY wm2;clear hv q3 hLc hz hz0 h0 ha h9 hy hy0 hLR h5 hn0 hn32 hl256 hN2;go_enter Tryz.func17,Tryz.ntmps17;go_wp2_with fail;refine (HCK _ HV.out).out.mono ?_;rintro e w1 ⟨rfl,hb1⟩;have B1:=hid hb1;clear hb1;go_wp2_with fail;refine (HTL _).out.mono ?_;rintro e w2 ⟨⟨u2,rfl,hu2⟩,hb2⟩;have B2:=hid (a0a B1.out hb2);obtain⟨ad,cd,rfl,-,-,-⟩:=hu2.ex;clear hu2 hb2;go_wp2_with fail;refine zx (HMY _) ?_;go_wp2_with fail;go_ret2
  exact⟨⟨_,rfl,MRow.nil _⟩,B2.out⟩
def m0X (w:World)(a:ByteArray)(ha:a.size<=100000)(hL:Lay w):
 Calls Tryz.prog 41 #[.string a] w fun e w'=>e=.returned (.int .i64 (gPE a))/\Below w.heap.size w w':=by
 have HG:=hid (b1Q w a ⟨#[]⟩ ha (by decide) hL);rw[u0w]at HG;obtain⟨t,ht⟩:=gn (oT a ⟨#[]⟩);obtain⟨x,hx⟩:=gn (gPE a);rw[ht,hx]at HG;rw[hx];obtain⟨d,v,u⟩:=t;simp only[d3]at HG;clear ha hL ht hx;go_enter Tryz.func41,Tryz.ntmps41;go_wp2_with fail;refine HG.out.mono ?_;rintro e w1 ⟨rfl,hb1⟩;go_wp2_with fail;go_ret
 exact⟨rfl,hb1.alloc hb1.size _⟩
def x0A (w:World)(u:Int):Calls Tryz.prog 132 #[.int .i64 u] w fun e w'=>e=.returned (.bool (e0Z u))/\w=w':=by
 unfold e0Z;obtain⟨a,ha⟩:=gn (decide (u < -1125899906842624));obtain⟨b,hb⟩:=gn (decide (1125899906842624<u));rw[ha,hb];cases a
 .go_enter Tryz.func132,Tryz.ntmps132;go_wp2_with fail;go_ret
  exact⟨rfl,rfl⟩
 .clear hb;go_enter Tryz.func132,Tryz.ntmps132;go_wp2_with fail;go_ret
  exact⟨rfl,rfl⟩
def i0Q (w:World)(v:Value)(c:List Int)(hv:Row w v (zs c)):
 Calls Tryz.prog 40 #[v] w fun e w'=>e=.returned (.int .i64 (zE c))/\w=w':=by
 have HV:=hid hv;obtain⟨s,cp,rfl,q1,q2,q3⟩:=hv.openZ;have HC:=fun V hV=>hid (g0C V (.slice s c.length cp) c 132 e0Z hV (by omega) (Cx Tryz.func132 (by kernel_rfl) rfl) (fun W x=>x0A W x))
 obtain⟨n,hn⟩:=gn (c.length);obtain⟨b,hb⟩:=gn (c.any e0Z);unfold zE;simp only[hb,hn]at HC;rw[hn]at HV |-;rw[hb];clear hv q1 q2 q3 hn hb;by_cases h1:256<n
 .have t1:decide ((256:Int)<(n:Int))=true:=by simp;omega
  rw[U0 h1];clear h1;go_enter Tryz.func40,Tryz.ntmps40;go_wp2_with fail;go_ret
  exact⟨rfl,rfl⟩
 have t1:decide ((256:Int)<(n:Int))=false:=by simp;omega
 rw[Q0 h1];clear h1;cases b
 case true=>
  rw[U0 rfl];go_enter Tryz.func40,Tryz.ntmps40;go_wp2_with fail;refine (HC _ HV.out).out.mono ?_;rintro e w1 ⟨rfl,rfl⟩;go_wp2_with fail;go_ret
  exact⟨rfl,rfl⟩
 rw[Q0 (by decide)];go_enter Tryz.func40,Tryz.ntmps40;go_wp2_with fail;refine zx (HC _ HV.out) ?_;go_wp2_with fail;go_ret
 exact⟨rfl,rfl⟩
def u0N (n:Nat):Lib.decNat (decDigits n)=some n:=by
 have hd:=b0l n;have hne:decDigits n ≠ []:=by
  intro e;have:=C9 n;rw[e]at this;have:=v0x n;simp at *;omega
 unfold Lib.decNat;rw[Q0 (by simpa using hne),i0i hd,f0C,Eu,U7]
def s0y (v:Int):Lib.atoi (Lib.itoa v)=some v:=by
 unfold Lib.itoa
 split
 .rename_i h
  unfold Lib.atoi;show (if ((45:UInt8)==45)=true then Option.map (fun (m:Nat) => -(m:Int)) (Lib.decNat (decDigits v.natAbs)) else _)=_
  rw[U0 (by decide),u0N];show some (-(v.natAbs:Int))=some v
  congr 1;omega
 .rename_i h
  rw[v0a]
  congr 1;omega
theorem y0R (w:World)(v:Int)(h1 : -1000<=v)(h2:v<=1000):
 Calls Tryz.prog 163 #[.string (zB v)] w fun e w'=>e=.returned (.tuple #[.int .i64 v,.nilIface])/\Below w.heap.size w w':=by
 have hs:(zB v).size<=18:=by
  rw[<- a0z,c0Z];unfold Lib.itoa
  split
  .have hd:=a0j (n:=v.natAbs) (k:=4) (by omega) (by omega);rw[J7,C9];omega
  .have hd:=a0j (n:=v.toNat) (k:=4) (by omega) (by omega);rw[C9];omega
 refine (Tryz.strconv_Atoi (zB v) v hs (by rw[c0Z];exact s0y v) w).mono ?_;rintro e w' ⟨rfl,t,rfl⟩;exact⟨rfl,Go.Joins.below_bytesWorld w.heap.size w 5 t nr⟩
def cpC (y:Int×ByteArray):List Value:=[.int .i64 y.1,.string y.2]
def cpF (L:List (Int×ByteArray)):List Value:=L.flatMap cpC
def o0R (L:List (Int×ByteArray)):(cpF L).length=L.length*2:=by
 unfold cpF
 induction L with
 | nil=>rfl
 | cons p r ih=>rw[Kk,J4,ih,J7];simp[cpC];omega
def u0P (L:List (Int×ByteArray))(y:Int×ByteArray):cpF (L ++ [y])=cpF L++cpC y:=by simp[cpF]
def y0m {L:List (Int×ByteArray)}:∀ {i:Nat} {y:Int×ByteArray},L[i]?=some y->(cpF L)[i*2]?=some (.int .i64 y.1)/\(cpF L)[i*2+1]?=some (.string y.2):=by
 induction L with
 | nil=>intro i p h;simp at h
 | cons q r ih=>
  intro i p h;have hl:(cpC q).length=2:=rfl;cases i with
  | zero=>simp at h;subst h;exact⟨rfl,rfl⟩
  | succ i=>
   rw[Jy]at h;obtain⟨h1,h2⟩:=ih h;have e:cpF (q::r)=cpC q++cpF r:=rfl;rw[e];refine⟨?_,?_⟩
   .rw[M6 (by omega),hl,show (i+1)*2-2=i*2 by omega];exact h1
   .rw[M6 (by omega),hl,show (i+1)*2+1-2=i*2+1 by omega];exact h2
structure PRow (w:World)(v:Value)(l:List (Int×ByteArray)):Prop where
 ex:∃ a c,v=.slice a l.length c/\l.length<=c/\c<=9223372036854775807/\∀ (i:Nat) (x:Int×ByteArray),l[i]?=some x->∃ g o,a=some ⟨g,o,none⟩/\g<w.heap.size/\w.cell? ⟨g,o+i*2,none⟩=some (.int .i64 x.1)/\w.cell? ⟨g,o+i*2+1,none⟩=some (.string x.2)
theorem PRow.call {w w':World}{v:Value}{l:List (Int×ByteArray)}(h:PRow w v l)(hb:Below w.heap.size w w'):PRow w' v l:=by
 obtain⟨a,c,rfl,h1,h2,h3⟩:=h.ex;refine⟨a,c,rfl,h1,h2,fun i x hx=>?_⟩;obtain⟨g,o,rfl,hg,k1,k2⟩:=h3 i x hx;exact⟨g,o,rfl,H6 hg hb.size,(hb.cell (p:=⟨g,o+i*2,none⟩) hg).trans k1,(hb.cell (p:=⟨g,o+i*2+1,none⟩) hg).trans k2⟩
theorem PRow.of_owns {w:World}{base n:Nat}{e:TypeId}{v:Value}{L:List (Int×ByteArray)}(h:w.ownsRow base e 2 v n (cpF L)):PRow w v L:=by
 have hn:n=L.length:=by have:=h.1;rw[o0R]at this;omega
 subst hn;rcases h.2 with ⟨rfl,h0⟩ | ⟨g,cap,cur,rfl,hb,hg,k1,k2,k3,k4⟩
 .have hl:L = []:=Ct.1 (by omega);subst hl;exact⟨none,0,rfl,Z3 _,by omega,fun i x hx=>by simp at hx⟩
 .obtain⟨o1,o2,o3,o4,o5,o6⟩:=k0n h;refine⟨some ⟨g,0,none⟩,cap,rfl,o6,o5,fun i x hx=>?_⟩;obtain⟨f1,f2⟩:=y0m hx;refine⟨g,0,rfl,o2,?_,?_⟩
  .rw[U7];exact o4 _ _ f1
  .rw[U7];exact o4 _ _ f2
noncomputable def chT (g:Int->Nat)(n:Nat)(d:List (ByteArray×ByteArray))(i:Nat):List (Int×ByteArray):=(chS (d.take i)).map fun v=>(v,dyB (g v) n)
theorem u0R {g:Int->Nat}{n:Nat}{d:List (ByteArray×ByteArray)}{i:Nat}{p:ByteArray×ByteArray}(h:d[i]?=some p)(hp:kz p.1=none):chT g n d (i+1)=chT g n d i:=by unfold chT;rw[u0T h hp]
theorem y0z {g:Int->Nat}{n:Nat}{d:List (ByteArray×ByteArray)}{i:Nat}{p:ByteArray×ByteArray}{v:Int}(h:d[i]?=some p)(hp:kz p.1=some v):chT g n d (i+1)=chT g n d i ++ [(v,dyB (g v) n)]:=by unfold chT;rw[y0A h hp,Ak];rfl
def o0Y (g:Int->Nat)(n:Nat)(d:List (ByteArray×ByteArray))(i:Nat):(chT g n d i).length<=d.length:=by
 unfold chT;rw[Aa];refine E0 (o0Z _) ?_;rw[Cg];omega
def orZ:List Int->Int
 | []=>0
 | x::r=>if x≠0 then x else orZ r
theorem q0w:∀ {l:List Int} {i:Nat},(∀ (j:Nat) (x:Int),j<i->l[j]?=some x->x=0)->orZ l=orZ (l.drop i)
 | [],i,_=>by simp[orZ]
 | b::r,0,_=>rfl
 | b::r,i+1,h=>by
  have h1:=h 0 b (by omega) rfl;have h3:=q0w (l:=r) (i:=i) (fun j c hj hc=>h (j+1) c (by omega) (by simpa using hc));rw[orZ,Q0 (by simp[h1]),h3]
  rfl
def b1s (w:World)(v:Value)(l:List Int)(hv:Row w v (zs l)):
 Calls Tryz.prog 77 #[v] w fun e w'=>e=.returned (.int .i64 (orZ l))/\w=w':=by
 obtain⟨a,c,rfl,q1,q2,q3⟩:=hv.openZ;obtain⟨n,hn⟩:=gn (l.length);obtain⟨X,hX⟩:=gn (orZ l);rw[hn]at q1 |-;rw[hX];obtain⟨HN,Q3,HX⟩:=zc hn q3 hX;clear hv q3 hn hX;go_enter Tryz.func77,Tryz.ntmps77;go_wp2_with fail
 go_loop [8] (fun ii=>∃ i:Nat,ii=.int .i64 i/\i<=n/\Hid (∀ (j:Nat) (x:Int),j<i->l[j]?=some x->x=0)) (fun ii=>n-(intOf ii).toNat)
 case atStart=>exact⟨0,rfl,J5 _,fun j x hj=>absurd hj (by omega)⟩
 case round=>
  obtain⟨i,rfl,hi,hI⟩:=hrel;by_cases hlt:i<n
  .obtain⟨x,hx⟩:∃ x,l[i]?=some x:=⟨_,J0 (by rw[HN.out];exact hlt)⟩;obtain⟨g,o,rfl,hg,hc⟩:=Q3.out i x hx;have hdrop:l.drop i=x::l.drop (i+1):=by
    have hil:i<l.length:=by rw[HN.out];exact hlt
    rw[J9 hil];have:=J0 hil;rw[hx]at this;rw[K9 this]
   obtain⟨HXX,HD⟩:=zg hx hdrop;have b1:(0:Int)<=(i:Int):=by omega
   have b2:(i:Int)<(n:Int):=by omega
   have wi:IntKind.i64.wrap ((i:Int)+1)=((i+1:Nat):Int):=by rw[O0 _ ⟨by omega,by omega⟩];omega
   clear hx hdrop;by_cases hx0:x=0
   .have HZ:=hid hx0;have q0:(x==0)=true:=by rw[Ei];exact hx0
    clear hx0;go_wp2_with fail;go_round
    case rel=>exact⟨i+1,by go_num,by omega,fun j y hj hy=>by
     rcases Cz j i with h | h
     .exact hI.out j y h hy
     .obtain rfl:j=i:=by omega
      rw[HXX.out]at hy;cases hy;exact HZ.out⟩
    case measure=>simp[intOf]<;>omega
   .have q0:(x==0)=false:=by rw[U4];exact hx0
    have HE:Hid (X=x):=by
     show X=x
     rw[<- HX.out,q0w hI.out,HD.out,orZ,U0 hx0]
    clear hx0;go_wp2_with fail;go_ret
    exact⟨by rw[HE.out];rfl,rfl⟩
  .obtain rfl:i=n:=by omega
   have HE:Hid (X=0):=by
    show X=0
    have hd:l.drop i = []:=Gl (by rw[HN.out];exact Z3 _);rw[<- HX.out,q0w hI.out,hd];rfl
   have q0:decide ((i:Int)<(i:Int))=false:=by simp
   clear hlt;go_wp2_with fail;go_ret
   exact⟨by rw[HE.out];rfl,rfl⟩
def u0q:(Tryz.prog.info? 73).map (fun i=>(i.zero,i.size,i.bytes))=some (some (.agg #[.int .i64 0,.string ⟨#[]⟩]),2,24):=by kernel_rfl
def o0p (w:World)(v:Value)(d:List (ByteArray×ByteArray))(g:Int->Nat)(n:Nat)(hv:MRow w v d)(hM:∀ p∈d,(∃ v:Int,-(n:Int)<=v/\v<=n/\p.1=zB v/\kz p.1=some v/\p.2=dyB (g v) n)\/(p.1=b0h/\kz p.1=none))(hlen:d.length<=100)(hn:n<=32)(hL:LayB w):
 Calls Tryz.prog 61 #[v] w fun e w'=>(∃ u,e=.returned u/\w'.ownsRow w.heap.size 73 2 u (chT g n d d.length).length (cpF (chT g n d d.length)))/\Below w.heap.size w w':=by
 obtain⟨i0,hi,hz0,hz1,hz2⟩:=Cl u0q;obtain⟨ad,cd,rfl,c1,c2,c3⟩:=hv.ex;obtain⟨H3,HM,HLN,HN,HL⟩:=zf c3 hM hlen hn hL;obtain⟨L,hLL⟩:=gn (d.length);have HLL:=hid hLL;rw[hLL]at c1 |-;clear hv c3 hM hlen hn hL hLL;go_enter Tryz.func61,Tryz.ntmps61;go_wp2_with fail
 go_loopw [3,5,6,7,10] (fun s3 s5 s6 s7 s10 wr=>∃ i:Nat,s10=.int .i64 (i:Nat)/\i<=L/\Hid (wr.ownsRow w.heap.size 73 2 s3 (chT g n d i).length (cpF (chT g n d i)))/\Hid (Below w.heap.size w wr)) (fun s3 s5 s6 s7 s10 wr=>L-(intOf s10).toNat)
 case atStart=>exact⟨0,rfl,J5 _,Ba _ _ _ _,J3 _ _⟩
 case round=>
  obtain⟨i,rfl,hi',hO,hB⟩:=hrel;have hl100:=HLN.out;by_cases hlt:i<L
  .obtain⟨q,hq⟩:∃ q,d[i]?=some q:=⟨_,J0 (by rw[HLL.out];exact hlt)⟩;obtain⟨gd,od,rfl,hgd,m1,m2⟩:=H3.out i q hq;have r1:=(hB.out.cell (p:=⟨gd,od+2*i,none⟩) hgd).trans m1;have r2:=(hB.out.cell (p:=⟨gd,od+2*i+1,none⟩) hgd).trans m2;rw[E9 2]at r1 r2;have f1:(0:Int)<=(i:Int):=by omega
   have f2:(i:Int)<(L:Int):=by omega
   have wi:IntKind.i64.wrap ((i:Int)+1)=((i+1:Nat):Int):=by rw[HLL.out]at hl100;rw[O0 _ ⟨by omega,by omega⟩];omega
   have HLT:=hid hlt;obtain⟨qk,qv⟩:=q;dsimp only at r1 r2;obtain⟨AM,XM⟩:=zg ((Below.refl wr.heap.size wr).alloc nr (.cells #[.string qk,.string qv] 42)) (Blk.new wr #[.string qk,.string qv] 42);have g0:=XM.out.cell 0;have g1:=XM.out.cell 1;simp at g0 g1;rcases HM.out _ (List.mem_of_getElem? hq) with ⟨v,v1,v2,v3,v4,v5⟩ | ⟨v3,v4⟩
   .dsimp only at v3 v4 v5;have HT:=hid (y0z (g:=g) (n:=n) hq v4);have PA:=fun V=>hid (y0R V v (by have:=HN.out;omega) (by have:=HN.out;omega))
    rw[<- v3]at PA;obtain⟨HQV,HLB⟩:=zg v5 (show (chT g n d i).length<=100 from E0 (o0Y g n d i) HLN.out);clear hq hgd m1 m2 hlt hi' hl100 v1 v2 v3 v4 v5;go_wp2_with fail;refine (PA _).out.mono ?_;rintro e w2 ⟨rfl,hb2⟩;obtain⟨x2,XM2⟩:=zg (a0a AM.out hb2) (XM.out.call hb2);have k1:=XM2.out.cell 1;simp at k1;obtain⟨HO2,HB2⟩:=zg (a0T hO.out x2.out) (a0a hB.out x2.out);clear hb2 g0 g1 r1 r2
    go_wp2_with (at_builtin;refine Bo _ rfl _ _ 69 rfl w.heap.size 73 i0 (.agg #[.int .i64 0,.string ⟨#[]⟩]) 2 24 Tryz.underlying69 hi hz0 hz1 hz2 rfl (by decide) _ (chT g n d i).length _ rfl (HO2.out.alloc _) ⟨w2.heap.size,0,none⟩ 1 1 [.int .i64 v,.string qv] rfl rfl (Nh w2 (.int .i64 v) (.string qv) 73) (by simp[Value.oneCell']) (by have:=HLB.out;unfold maxLen;omega) (by have:=HLB.out;omega) (by have:=HB2.out.size;simp;omega) ?_
                 intro v' w3 hown hgrow _;obtain⟨B3,O3⟩:=zg (b0V (HO2.out.alloc _) (HB2.out.alloc HB2.out.size (.cells #[.int .i64 v,.string qv] 73)) hgrow) hown;clear hown hgrow)
    go_roundw
    case rel=>exact⟨i+1,by go_num,by have:=HLT.out;omega,by rw[HT.out,u0P,J4,<- HQV.out];exact O3.out,B3⟩
    case measure=>simp[intOf]<;>(have:=HLT.out;omega)
   .dsimp only at v3 v4;subst v3;have HT:=hid (u0R (g:=g) (n:=n) hq v4);have PA:=fun V hV=>hid (y0S V hV)
    clear hq hgd m1 m2 hlt hi' hl100 v4;obtain⟨lt,hlt⟩:=gn b0h;rw[hlt]at PA r1 AM XM;go_wp2_with fail;refine (PA _ (HL.out.call (a0a hB.out AM.out)).s).out.mono ?_;rintro e w2 ⟨⟨te,pe,rfl⟩,hb2⟩;have x2:=hid (a0a AM.out hb2);clear hb2 g0 g1 r1 r2;go_wp2_with fail;go_roundw
    case rel=>exact⟨i+1,by go_num,by have:=HLT.out;omega,by rw[HT.out];exact a0T hO.out x2.out,a0a hB.out x2.out⟩
    case measure=>simp[intOf]<;>(have:=HLT.out;omega)
  .obtain rfl:i=L:=by omega
   clear hlt hi' hl100;go_wp2_with fail;go_ret
   exact⟨⟨_,rfl,hO.out⟩,hB.out⟩
def q0N (w:World)(N m:Nat)(h1:1<=N)(h2:N<=1000)(h3:m<=1000):
 Calls Tryz.prog 60 #[.int .i64 (N:Nat),.int .i64 (m:Nat)] w fun e w'=>e=.returned (.bool (decide (5000<N ^ m)))/\w=w':=by
 obtain⟨X,hX⟩:=gn (decide (5000<N ^ m));obtain⟨HX,H1,H2,H3⟩:=zd hX h1 h2 h3;rw[hX];clear hX h1 h2 h3;go_enter Tryz.func60,Tryz.ntmps60;go_wp2_with fail
 go_loop [5,7] (fun kk ii=>∃ i k:Nat,ii=.int .i64 (i:Nat)/\kk=.int .i64 (k:Nat)/\i<=m/\k<=5000/\Hid (k=N ^ i)) (fun kk ii=>m-(intOf ii).toNat)
 case atStart=>exact⟨0,1,rfl,rfl,J5 _,by omega,(Db N).symm⟩
 case round=>
  obtain⟨i,k,rfl,rfl,hi,hk,hK⟩:=hrel;have h2:=H2.out;have h3:=H3.out;by_cases hlt:i<m
  .obtain⟨q,hq⟩:=gn (k*N);have hq5:q<=5000000:=by rw[<- hq];exact E0 (Aw hk h2) (by omega)
   have wq:IntKind.i64.wrap ((k:Int)*(N:Int))=(q:Int):=by
    rw[<- Dl,hq,O0 _ ⟨by omega,by omega⟩]
   have wi:IntKind.i64.wrap ((i:Int)+1)=((i+1:Nat):Int):=by rw[O0 _ ⟨by omega,by omega⟩];omega
   have b2:(i:Int)<(m:Int):=by omega
   have HQ:Hid (q=N ^ (i+1)):=by show q=_;rw[M7,<- hK.out,hq]
   have hle:N ^ (i+1)<=N ^ m:=Z4 H1.out hlt;obtain⟨HLE,HLT⟩:=zg hle hlt;clear hq hle hlt hi hk hK h2 h3;by_cases hb:5000<q
   .have HE:Hid (X=true):=by show X=true;rw[<- HX.out];exact I8 (by have:=HQ.out;have:=HLE.out;omega)
    have t1:(5000:Int)<(q:Int):=by omega
    clear hb hq5;go_wp2_with fail;go_ret
    exact⟨by rw[HE.out];rfl,rfl⟩
   .have t1:¬ (5000:Int)<(q:Int):=by omega
    have HB:=hid hb;by_cases hn:N=1
    .have HE:Hid (X=false):=by show X=false;rw[<- HX.out,hn,Nat.one_pow];rfl
     have t2:((N:Int)==1)=true:=by rw[Ei];omega
     clear hb hq5 hn;go_wp2_with fail;go_ret
     exact⟨by rw[HE.out];rfl,rfl⟩
    .have t2:((N:Int)==1)=false:=by rw[U4];omega
     clear hb hq5 hn;go_wp2_with fail;go_round
     case rel=>exact⟨i+1,q,rfl,rfl,by have:=HLT.out;omega,by have:=HB.out;omega,HQ⟩
     case measure=>simp[intOf]<;>(have:=HLT.out;omega)
  .obtain rfl:i=m:=by omega
   have HE:Hid (X=false):=by show X=false;rw[<- HX.out];exact I7 (by rw[<- hK.out];omega)
   clear hlt hi hk hK h2 h3;go_wp2_with fail;go_ret
   exact⟨by rw[HE.out];rfl,rfl⟩
def p0Q (w:World)(p q r:Int)(t:TypeId):Row (w.alloc (.cells #[.int .i64 p,.int .i64 q,.int .i64 r] t)) (.slice (some ⟨w.heap.size,0,none⟩) 3 3) (zs [p,q,r]):=by
 refine Row.of_blk (n:=3) (xs:=zs [p,q,r]) (Blk.new w #[.int .i64 p,.int .i64 q,.int .i64 r] t) rfl (by decide) (fun i x hx=>?_) nr (by decide)
 match i,hx with
 | 0,hx=>exact hx
 | 1,hx=>exact hx
 | 2,hx=>exact hx
 | i+3,hx=>simp[zs]at hx
def u0b (w:World)(v:Value)(l:List Int)(hv:Row w v (zs l)):
 Calls Tryz.prog 39 #[v] w fun e w'=>e=.returned (.int .i64 (orZ l))/\w=w':=by
 have H:=hid (b1s w v l hv);obtain⟨a,c,rfl,-⟩:=hv.openZ;clear hv;go_enter Tryz.func39,Tryz.ntmps39;go_wp2_with fail;refine zx H ?_;go_wp2_with fail;go_ret
 exact⟨rfl,rfl⟩
def w0E (w:World)(v:Int)(h1 : -9223372036854775808<=v)(h2:v<=9223372036854775807)(hL:Lay w):
 Calls Tryz.prog 64 #[.int .i64 v] w fun e w'=>e=.returned (.string (zB v))/\Below w.heap.size w w':=by
 refine (Tryz.strconv_Itoa v h1 h2 w hL.tab).mono ?_;rintro e w' ⟨rfl,k,os,rfl⟩;exact⟨rfl,d0Q w k os⟩
structure ExS (w W1:World)(bd br:Nat)(D:List (ByteArray×ByteArray))(r M:Nat)(W:World):Prop where
 ltd:bd<W1.heap.size
 ltr:br<W1.heap.size
 ged:w.heap.size<=bd
 ger:w.heap.size<=br
 ne:bd≠br
 big:w.heap.size<=W1.heap.size
 size:W1.heap.size<=W.heap.size
 rest:∀ k,k<W1.heap.size->k≠bd->k≠br->W.heap[k]?=W1.heap[k]?
 d:∃ v,Blk W bd #[v] 37/\W.ownsRow W1.heap.size 42 2 v D.length (a0R D)
 rr:Blk W br #[.string (dyB r M)] 23
 bel:Below w.heap.size w W
theorem ExS.cell {w W1:World}{bd br:Nat}{D:List (ByteArray×ByteArray)}{r M:Nat}{W:World}(h:ExS w W1 bd br D r M W){p:Addr}(h1:p.block<W1.heap.size)(h2:p.block≠bd)(h3:p.block≠br):W.cell? p=W1.cell? p:=Ln (w:=W1) (h.rest p.block h1 h2 h3)
theorem ExS.call {w W1:World}{bd br:Nat}{D:List (ByteArray×ByteArray)}{r M:Nat}{W W':World}(h:ExS w W1 bd br D r M W)(hb:Below W.heap.size W W'):ExS w W1 bd br D r M W':=by
 obtain⟨v,h1,h2⟩:=h.d;exact⟨h.ltd,h.ltr,h.ged,h.ger,h.ne,h.big,E0 h.size hb.size,fun k hk a b=>(hb.block k (H6 hk h.size)).trans (h.rest k hk a b),⟨v,h1.call hb,a0T h2 hb⟩,h.rr.call hb,a0a h.bel hb⟩
def Gw:=@Go.World.size_setCell
theorem ExS.setr {w W1:World}{bd br:Nat}{D:List (ByteArray×ByteArray)}{r M:Nat}{W:World}(h:ExS w W1 bd br D r M W)(r':Nat):ExS w W1 bd br D r' M (W.setCell ⟨br,0,none⟩ (.string (dyB r' M))):=by
 obtain⟨v,h1,h2⟩:=h.d;refine⟨h.ltd,h.ltr,h.ged,h.ger,h.ne,h.big,by rw[Gw];exact h.size,fun k hk a b=>(Ac _ _ _ _ b).trans (h.rest k hk a b),⟨v,h1.other (a:=⟨br,0,none⟩) (fun e=>h.ne e.symm) _,Cr h2 h.ltr _⟩,?_,h.bel.setCell h.ger _⟩;have:=h.rr.set 0 (.string (dyB r' M));simpa using this
theorem ExS.app {w W1:World}{bd br:Nat}{D:List (ByteArray×ByteArray)}{r M:Nat}{W w3:World}{v v':Value}{o:Obj}{p:ByteArray×ByteArray}(h:ExS w W1 bd br D r M W)(hv:Blk W bd #[v] 37)(ho:W.ownsRow W1.heap.size 42 2 v D.length (a0R D))(hown:w3.ownsRow W1.heap.size 42 2 v' (D.length+1) (a0R D ++ [.string p.1,.string p.2]))(hg:(W.alloc o).grownBy w3 v.ownBlock):
 ExS w W1 bd br (D ++ [p]) r M (w3.setCell ⟨bd,0,none⟩ v'):=by
 have hrow:∀ k,v.ownBlock=some k->W1.heap.size<=k:=fun k e=>(ho.lt k e).1
 have hs:W.heap.size<=w3.heap.size:=by have:=hg.size;simp at this;omega
 have n1:v.ownBlock≠some bd:=fun e=>by have:=hrow bd e;have:=h.ltd;omega
 have n2:v.ownBlock≠some br:=fun e=>by have:=hrow br e;have:=h.ltr;omega
 refine⟨h.ltd,h.ltr,h.ged,h.ger,h.ne,h.big,by rw[Gw];exact E0 h.size hs,fun k hk a b=>?_,⟨v',?_,?_⟩,?_,?_⟩
 .have hkW:k<W.heap.size:=H6 hk h.size;refine (Ac _ _ _ _ a).trans (((hg.block k (by simp;omega) (fun e=>?_)).trans (Li _ _ _ hkW)).trans (h.rest k hk a b));have:=hrow k e.symm;omega
 .have:=(((hv.alloc o).grown hg n1).set 0 v');simpa using this
 .have e1:(D ++ [p]).length=D.length+1:=by simp
  have e2:a0R (D ++ [p])=a0R D ++ [.string p.1,.string p.2]:=b0m D [p];rw[e1,e2];exact Cr hown h.ltd _
 .exact ((h.rr.alloc o).grown hg n2).other (a:=⟨bd,0,none⟩) h.ne _
 .exact ((h.bel.alloc h.bel.size o).grown hg (by have:=h.bel.size;simp;omega) (fun k e=>E0 h.big (hrow k e))).setCell h.ged _
def a1a (w W1:World)(bc bd br bl be:Nat)(vc vl:Value)(c:List Int)(g:Int->Nat)(n nv T:Nat)(vs:List Int)(M:Nat)
 (hc:Blk W1 bc #[vc] 22) (hrc:Row W1 vc (zs c)) (hl:Blk W1 bl #[vl] 69) (hrl:PRow W1 vl (vs.map fun v=>(v,dyB (g v) n))) (he:Blk W1 be #[.func (.func 62) #[] #[.pointer (some ⟨bc,0,none⟩),.pointer (some ⟨bd,0,none⟩),.pointer (some ⟨br,0,none⟩),.pointer (some ⟨bl,0,none⟩),.pointer (some ⟨be,0,none⟩)]] 71)
 (hne:bc≠bd/\bc≠br/\bl≠bd/\bl≠br/\be≠bd/\be≠br)
 (hapart:∀ k,(c ≠ []/\vc.ownBlock=some k)\/(vs ≠ []/\vl.ownBlock=some k)->k≠bd/\k≠br)
 (hL:Lay w) (hT:sV g vs=T) (hTz:T<=2 ^ n) (hgv:∀ v∈vs,g v<=2 ^ n /\ -1000<=v/\v<=1000) (hnv:vs.length=nv) (hnv2:nv<=5000) (hcr:∀ x∈c,-1125899906842624<=x/\x<=1125899906842624) (hcl:c.length<=256) (hM:n*c.length=M) (hM2:M<=1000):
 ∀ (m i:Nat) (dn:List Int) (x:Nat) (D:List (ByteArray×ByteArray)) (r:Nat) (W:World),dn.length=i->i+m=c.length->ExS w W1 bd br D r M W->x<=2 ^ (n*i)->x*T ^ m<=r->r<=2 ^ M->D.length+nv ^ m<=10000->(∀ v∈dn,v.natAbs<10 ^ 20) ->
 Calls Tryz.prog 62 #[.int .i64 (i:Nat),.string (jn dn),.string (dyB x (n*i)),.pointer (some ⟨bc,0,none⟩),.pointer (some ⟨bd,0,none⟩),.pointer (some ⟨br,0,none⟩),.pointer (some ⟨bl,0,none⟩),.pointer (some ⟨be,0,none⟩)] W fun e w'=>(∃ u,e=.returned u)/\ExS w W1 bd br (D++nyD g vs M (c.drop i) dn x) (r-x*T ^ m) M w':=by
 obtain⟨i0,hi0,hz0,hz1,hz2⟩:=Cl e0N;obtain⟨HC,HRC,HLB,HRL,HEB,HNE,HAP,HL,HTT,HGV,HNV,HNV2⟩:=kg hc hrc hl hrl he hne hapart hL hT hgv hnv hnv2;obtain⟨HCR,HCL,HM,HM2⟩:=zd hcr hcl hM hM2;obtain⟨sc,kc,rfl,q1,q2,q3⟩:=hrc.openZ;obtain⟨al,kl,rfl,l1,l2,l3⟩:=hrl.ex;obtain⟨L3,Q3⟩:=zg l3 q3;have hll:(vs.map fun v=>(v,dyB (g v) n)).length=nv:=by rw[Aa,hnv]
 rw[hll]at HLB l1;obtain⟨K,hK⟩:=gn (c.length);have HK:=hid hK;rw[hK]at HC q1 |-;clear hc hrc hl hrl he hne hapart hL hT hTz hgv hnv hnv2 hcr hcl hM hM2 q3 l3 hll hK;intro m
 induction m with
 | zero=>
  intro i dn x D r W hdn hi hE hx hxr hr hD hsz;obtain rfl:i=K:=by omega
  rw[Db,Fq]at hxr |-;have hMi:n*i=M:=by rw[<- HM.out,HK.out]
  have hs0:(jn dn).size<=1000000:=by have:=d0L hdn hsz;have:=HCL.out;have:=HK.out;omega
  have hdr:c.drop i = []:=Gl (by rw[HK.out];exact Z3 _);rw[hdr,x0v];have hle:x<=2 ^ M:=by rw[<- hMi];exact hx
  have HS:=fun V hV=>hid (b1v V (dyB r M) (dyB x M) (E0 (g0j hr (by have:=HM2.out;omega)) (by omega)) (E0 (g0j hle (by have:=HM2.out;omega)) (by omega)) hV)
  rw[a1I hr hxr HM2.out]at HS;rw[hMi];obtain⟨vd,h1,h2⟩:=hE.d;obtain⟨HE,H1,H2⟩:=zc hE h1 h2;have c0:W.cell? ⟨bc,0,none⟩=some (.slice sc i kc):=(hE.cell (p:=⟨bc,0,none⟩) HC.out.lt HNE.out.1 HNE.out.2.1).trans (HC.out.cell 0);have c1:=h1.cell 0;simp at c1;have hDl:D.length<=10000:=by omega
  have HD:=hid hDl;obtain⟨P,hP⟩:=gn (jn dn);obtain⟨X,hX⟩:=gn (dyB x M);obtain⟨R,hR⟩:=gn (dyB r M);obtain⟨ES,hES⟩:=gn (h0z (· - ·) R X);rw[hR,hX,hES]at HS;rw[hP,hX];obtain⟨HX,HR⟩:=zg hX hR;clear hdn hi hE hx hxr hr hD hsz hMi hs0 hdr hle h1 h2 hDl hP hX hR hES;go_enter Tryz.func62,Tryz.ntmps62
  go_wp2_with (at_builtin;refine Bo _ rfl _ _ 37 rfl W1.heap.size 42 i0 (.agg #[.string ⟨#[]⟩,.string ⟨#[]⟩]) 2 32 Br hi0 hz0 hz1 hz2 rfl (by decide) _ D.length _ rfl (H2.out.alloc _) ⟨W.heap.size,0,none⟩ 1 1 [.string P,.string X] rfl rfl (Nh W (.string P) (.string X) 42) (by simp[Value.oneCell']) (by have:=HD.out;unfold maxLen;omega) (by have:=HD.out;omega) (by have:=HE.out.size;simp;omega) ?_
               intro v' w3 hown hgrow _;obtain⟨g2,cap2,rfl⟩:=Jd hown;have E3:=hid (HE.out.app (p:=(P,X)) H1.out H2.out hown hgrow);have n1:vd.ownBlock≠some bd:=fun e=>by have:=(H2.out.lt bd e).1;have:=HE.out.ltd;omega
               have k0:=((H1.out.alloc (.cells #[.string P,.string X] 42)).grown hgrow n1).cell 0;have k1:=((H1.out.alloc (.cells #[.string P,.string X] 42)).grown hgrow n1).free 0;simp at k0;have r0:=E3.out.rr.cell 0;simp at r0;rw[HR.out]at r0;clear hown hgrow n1 c0 c1)
  refine (HS _ (HL.out.call E3.out.bel)).out.mono ?_;rintro e w4 ⟨rfl,hb4⟩;have E4:=hid (E3.out.call hb4);have r1:=E4.out.rr.cell 0;have r2:=E4.out.rr.free 0;simp at r1;clear hb4 k0 k1 r0;go_wp2_with fail;have E5:=E4.out.setr (r-x);refine J6 (Ja rfl _ _ _) rfl ⟨⟨_,rfl⟩,?_⟩;exact E5
 | succ m ih=>
  intro i dn x D r W hdn hi hE hx hxr hr hD hsz;have hiK:i<K:=by omega
  have IH:=ih;obtain⟨ci,hci⟩:∃ y,c[i]?=some y:=⟨_,J0 (by rw[HK.out];exact hiK)⟩;have hdrop:c.drop i=ci::c.drop (i+1):=by
   have hil:i<c.length:=by rw[HK.out];exact hiK
   rw[J9 hil];have:=J0 hil;rw[hci]at this;rw[K9 this]
  have hcs:(c.drop (i+1)).length=m:=by rw[S9,HK.out];omega
  have hcir:=HCR.out ci (E7 hci);have HCIR:=hid hcir;obtain⟨gc,oc,rfl,hgc,hcc⟩:=Q3.out i ci hci;have apc:=HAP.out gc (.inl ⟨fun e=>by rw[e]at hci;simp at hci,rfl⟩);obtain⟨CC,CL,CE⟩:=zc (show ∀ D' r' V,ExS w W1 bd br D' r' M V->V.cell? ⟨bc,0,none⟩=some (.slice (some ⟨gc,oc,none⟩) K kc)/\V.cell? ⟨gc,oc+i,none⟩=some (.int .i64 ci) from fun _ _ _ h=>⟨(h.cell (p:=⟨bc,0,none⟩) HC.out.lt HNE.out.1 HNE.out.2.1).trans (HC.out.cell 0),(h.cell (p:=⟨gc,oc+i,none⟩) hgc apc.1 apc.2).trans hcc⟩) (show ∀ D' r' V,ExS w W1 bd br D' r' M V->V.cell? ⟨bl,0,none⟩=some (.slice al nv kl) from fun _ _ _ h=>(h.cell (p:=⟨bl,0,none⟩) HLB.out.lt HNE.out.2.2.1 HNE.out.2.2.2.1).trans (HLB.out.cell 0)) (show ∀ D' r' V,ExS w W1 bd br D' r' M V->V.cell? ⟨be,0,none⟩=some (.func (.func 62) #[] #[.pointer (some ⟨bc,0,none⟩),.pointer (some ⟨bd,0,none⟩),.pointer (some ⟨br,0,none⟩),.pointer (some ⟨bl,0,none⟩),.pointer (some ⟨be,0,none⟩)]) from fun _ _ _ h=>(h.cell (p:=⟨be,0,none⟩) HEB.out.lt HNE.out.2.2.2.2.1 HNE.out.2.2.2.2.2).trans (HEB.out.cell 0));obtain⟨c0,-⟩:=CC.out _ _ _ hE;have c1:=CL.out _ _ _ hE;have t0:((i:Int)==(K:Int))=false:=by rw[U4];omega
  have wi1:IntKind.i64.wrap ((i:Int)+1)=((i+1:Nat):Int):=by have:=HCL.out;rw[HK.out]at this;rw[O0 _ ⟨by omega,by omega⟩];omega
  have hpre:jnS dn=if 0<i then jn dn++spB else jn dn:=by
   unfold jnS;by_cases h:dn = []
   .rw[U0 h,Q0 (by rw[h]at hdn;simp at hdn;omega),h];rfl
   .rw[Q0 h,U0 (by have:=Ea.2 h;omega)]
  have hs0:(jn dn).size<=100000:=by have:=d0L hdn hsz;have:=HCL.out;have:=HK.out;omega
  have hs1:(jnS dn).size<=100000:=by have:=r0j hdn hsz;have:=HCL.out;have:=HK.out;omega
  obtain⟨HE,HX,HXR,HR,HD,HSZ,HDN,HI,HDR,HCS,HS0,HS1⟩:=kg hE hx hxr hr hD hsz hdn hi hdrop hcs hs0 hs1;obtain⟨HPRE,HIK⟩:=zg hpre hiK;obtain⟨P,hP⟩:=gn (jn dn);obtain⟨P1,hP1⟩:=gn (jnS dn);obtain⟨X,hX⟩:=gn (dyB x (n*i));rw[hP,hP1]at HPRE;rw[hP]at HS0;rw[hP1]at HS1;obtain⟨HP1,HXX⟩:=zg hP1 hX;rw[hP,hX];clear hdn hi hE hx hxr hr hD hsz hiK hci hdrop hcs hcir hgc hcc apc hs0 hs1 hpre hP hP1 hX ih;go_enter Tryz.func62,Tryz.ntmps62
  go_upto_if 32 with fail
  go_cut [1] (fun s1 wx=>s1=.string P1/\Hid (W=wx))
  case first=>
   by_cases h0:0<i
   .have g1:=HS0.out;have e1:Hid (P++(⟨#[32]⟩:ByteArray)=P1):=by show _=P1;have:=HPRE.out;rw[U0 h0]at this;exact this.symm
    go_wp2_with fail
    go_meet
    exact⟨by rw[<- e1.out],rfl⟩
   .have e1:Hid (P=P1):=by show P=P1;have:=HPRE.out;rw[Q0 h0]at this;exact this.symm
    go_wp2_with fail
    go_meet
    exact⟨by rw[<- e1.out],rfl⟩
  case rest=>
  obtain⟨rfl,hW⟩:=hcut;obtain rfl:=hW.out;clear hW c0 t0;go_wp2_with fail
  go_loopw [12,13,14,37] (fun s12 s13 s14 s37 wr=>∃ j:Nat,s37=.int .i64 (j:Nat)/\j<=nv/\Hid (ExS w W1 bd br (D++nyJ g vs M ci (c.drop (i+1)) dn x j) (r-nyS g vs T m x j) M wr)) (fun s12 s13 s14 s37 wr=>nv-(intOf s37).toNat)
  case atStart=>exact⟨0,rfl,J5 _,by rw[m0U,t0M,Bw,Jc];exact HE.out⟩
  case round=>
   obtain⟨j,rfl,hj,hEj⟩:=hrel;by_cases hlt:j<nv
   .obtain⟨v,hv⟩:∃ v,vs[j]?=some v:=⟨_,J0 (by rw[HNV.out];exact hlt)⟩;obtain⟨gl,ol,rfl,hgl,m1,m2⟩:=L3.out j (v,dyB (g v) n) (by rw[Ck,hv];rfl);have apl:=HAP.out gl (.inr ⟨fun e=>by rw[e]at hv;simp at hv,rfl⟩);have r1:=(hEj.out.cell (p:=⟨gl,ol+j*2,none⟩) hgl apl.1 apl.2).trans m1;have r2:=(hEj.out.cell (p:=⟨gl,ol+j*2+1,none⟩) hgl apl.1 apl.2).trans m2;obtain⟨hgv1,hgv2,hgv3⟩:=HGV.out v (E7 hv);have hcir:=HCIR.out;have f1:(0:Int)<=(j:Int):=by omega
    have f2:(j:Int)<(nv:Int):=by omega
    have hnv2:=HNV2.out;have wj:IntKind.i64.wrap ((j:Int)+1)=((j+1:Nat):Int):=by rw[O0 _ ⟨by omega,by omega⟩];omega
    have wcv:IntKind.i64.wrap (ci+v)=ci+v:=by rw[O0 _ ⟨by omega,by omega⟩]
    have HLT:=hid hlt;have hMi:n*i+n<=M:=by
     have h5:n*(i+1)<=n*K:=Af n HIK.out;have h6:=HM.out;rw[HK.out]at h6;rw[Ad,Fq]at h5;omega
    have hXle:=HX.out;have hxg:x*g v<=2 ^ (n*i+n):=by rw[Dd];exact Aw hXle hgv1
    have PM:=fun V hV=>hid (z0M V (dyB x (n*i)) (dyB (g v) n) (E0 (g0j hXle (by have:=HM2.out;omega)) (by omega)) (E0 (g0j hgv1 (by have:=HM2.out;omega)) (by omega)) hV)
    rw[a1J hXle hgv1 (by have:=HM2.out;omega)]at PM;have PI:=fun V hV=>hid (w0E V (ci+v) (by omega) (by omega) hV)
    have hnext:=t0N g T m x hv;have hall:=z0V g HTT.out m x (j+1);rw[hnext]at hall;have hxrr:=HXR.out;have hJl:=h0V g vs M ci (c.drop (i+1)) dn x j (by rw[HNV.out];exact hj);rw[HCS.out,HNV.out]at hJl;have hDl:=HD.out;have hpw:(j+1)*nv ^ m<=nv ^ (m+1):=by rw[M7,E9 (nv ^ m)];exact H8 _ hlt
    rw[As,Ds]at hpw
    have YH:=fun V hV=>hid (IH (i+1) (dn ++ [ci+v]) (x*g v) (D++nyJ g vs M ci (c.drop (i+1)) dn x j) (r-nyS g vs T m x j) V (by rw[J4,HDN.out];rfl) (by have:=HI.out;omega) hV (by rw[Ad,Fq];exact hxg) (by omega) (E0 (Ki _ _) HR.out) (by rw[J4,hJl];omega) (by
     intro u hu;rcases Cu.1 hu with hu | hu
     .exact HSZ.out u hu
     .rw[Co.1 hu];omega))
    have hjn:jn (dn ++ [ci+v])=P1++zB (ci+v):=by rw[j0b,HP1.out]
    rw[hjn]at YH;obtain⟨HNX,HNS⟩:=zg (show nyJ g vs M ci (c.drop (i+1)) dn x (j+1)=_ from m0V g M ci (c.drop (i+1)) dn x hv) hnext;have hzs:=m0g (v:=ci+v) (by omega);have HZS:=hid hzs;rw[HXX.out]at PM;have e4:n*(i+1)=n*i+n:=by rw[Ad,Fq]
    rw[e4]at YH;obtain⟨Q,hQ⟩:=gn (dyB (x*g v) (n*i+n));obtain⟨GV,hGV⟩:=gn (dyB (g v) n);obtain⟨ZV,hZV⟩:=gn (zB (ci+v));obtain⟨EM,hEM⟩:=gn (h0z (· * ·) X GV);rw[hQ,hGV,hEM]at PM;rw[hGV]at r2;rw[hZV]at PI HZS;rw[hQ,hZV]at YH;clear hv m1 m2 hgl apl hgv1 hgv2 hgv3 hcir hnv2 hlt hMi hXle hxg hnext hall hxrr hJl hDl hpw hjn hzs e4 hQ hGV hZV hEM hj;go_wp2_with fail;obtain⟨AM,XM⟩:=zg ((J3 wr.heap.size wr).alloc nr (.cells #[.int .i64 v,.string GV] 73)) (Blk.new wr #[.int .i64 v,.string GV] 73);refine (PM _ (HL.out.call (a0a hEj.out.bel AM.out))).out.mono ?_;rintro e w2 ⟨rfl,hb2⟩;obtain⟨x2,XM2⟩:=zg (a0a AM.out hb2) (XM.out.call hb2);have E2:=hid (hEj.out.call x2.out);clear hb2 r1 r2;go_wp2_with fail;have KK:Hid (∀ V,Below w2.heap.size w2 V->V.cell? ⟨be,0,none⟩=some (.func (.func 62) #[] #[.pointer (some ⟨bc,0,none⟩),.pointer (some ⟨bd,0,none⟩),.pointer (some ⟨br,0,none⟩),.pointer (some ⟨bl,0,none⟩),.pointer (some ⟨be,0,none⟩)])/\V.cell? ⟨bc,0,none⟩=some (.slice (some ⟨gc,oc,none⟩) K kc)/\V.cell? ⟨gc,oc+i,none⟩=some (.int .i64 ci)/\V.cell? ⟨wr.heap.size,0,none⟩=some (.int .i64 v)):=fun V hV=>by
     have h1:=E2.out.call hV;obtain⟨a1,a2⟩:=CC.out _ _ _ h1;exact⟨CE.out _ _ _ h1,a1,a2,(XM2.out.call hV).cell 0⟩
    have b1:(0:Int)<=(i:Int):=by omega
    have b2:(i:Int)<(K:Int):=by have:=HIK.out;omega
    have g1:=HS1.out;have g2:=HZS.out;have g3:(9223372036854775807<P1.size+ZV.size)=False:=eq_false (by omega);refine l0G 14 1 [] [(1,2),(3,12),(10,11),(7,10),(9,10),(6,7),(4,6),(5,6),(8,9)] [0,1,2,3,4,5,6,7,8,9,10,13] 2 (fun V=>V.cell? ⟨be,0,none⟩=some (.func (.func 62) #[] #[.pointer (some ⟨bc,0,none⟩),.pointer (some ⟨bd,0,none⟩),.pointer (some ⟨br,0,none⟩),.pointer (some ⟨bl,0,none⟩),.pointer (some ⟨be,0,none⟩)])/\V.cell? ⟨bc,0,none⟩=some (.slice (some ⟨gc,oc,none⟩) K kc)/\V.cell? ⟨gc,oc+i,none⟩=some (.int .i64 ci)/\V.cell? ⟨wr.heap.size,0,none⟩=some (.int .i64 v)) (by kernel_rfl) (by kernel_rfl) (by kernel_rfl) (by kernel_rfl) (by kernel_rfl) (by kernel_rfl) (by kernel_rfl) (by kernel_rfl) (by kernel_rfl) (by kernel_rfl) (by kernel_rfl) (by kernel_rfl) (KK.out _ br0.drew) ?_
    iterate 12
     refine⟨_,rfl,?_⟩;apply Exists.intro
     refine⟨.inl ⟨by rfl,?_⟩,?_⟩
     .rintro W' ⟨z1,z2,z3,z4⟩;go_simp;try with_reducible rfl
     go_frame
    refine a0c (i:=11) (by kernel_rfl) rfl rfl ?_;go_wp2_with fail;refine (PI _ (HL.out.call (a0a E2.out.bel br0.drew))).out.mono ?_;rintro e w3 ⟨rfl,hb3⟩;have x3:=hid (show Below w2.heap.size w2 w3 from br0.drew.trans hb3);have E3:=hid (E2.out.call x3.out);clear hb3;go_wp2_with fail;refine⟨KK.out _ x3.out,?_⟩;refine b0d (is:=[12]) (g:=0) (by kernel_rfl) rfl (KK.out _ x3.out) (by kernel_rfl) ?_
    iterate 1
     refine⟨_,rfl,?_⟩;apply Exists.intro
     refine⟨.inl ⟨by rfl,?_⟩,?_⟩
     .rintro W' ⟨z1,z2,z3,z4⟩;go_simp;try with_reducible rfl
     go_frame
    refine Z7 (by kernel_rfl) ?_ _;simp only[a0Z,b0K,Ab,A9];go_wp2_with fail
    try simp only[a0Z]
    refine (YH _ E3.out).out.mono ?_;rintro e w4 ⟨⟨u,rfl⟩,hE4⟩;have E4:=hid hE4;clear hE4;go_wp2_with fail;simp only[a0Z];go_wp2_with fail;go_roundw
    case rel=>exact⟨j+1,by go_num,by have:=HLT.out;omega,by rw[HNX.out,HNS.out,<- Ai,<- Nat.sub_sub];exact E4.out⟩
    case measure=>simp[intOf]<;>(have:=HLT.out;omega)
   .obtain rfl:j=nv:=by omega
    have h1:=x0u g vs M ci (c.drop (i+1)) dn x;have h2:=x0t g HTT.out m x;rw[HNV.out]at h1 h2;rw[<- HDR.out]at h1;have E5:=hid hEj.out;rw[h1,h2]at E5;clear h1 h2 hlt hj;go_wp2_with fail;refine bodyPost_end (Ja rfl _ _ _) rfl ⟨⟨_,rfl⟩,E5.out⟩
end Go.Proofs.YtfkpfpobmobnbaaGreatDoor
