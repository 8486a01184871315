import Derived.Test.YtfkpfpobmobnbaaGreatDoorPb10
import Derived.Maps.OwnSet
import Derived.Lib.SliceRun
set_option linter.all false
set_option maxRecDepth 100000
set_option maxHeartbeats 8000000
namespace Go.Proofs.YtfkpfpobmobnbaaGreatDoor
open Go.Proofs.Tryz Go.RowKit
open Go.Lib (decDigits nDigits)
section
open Go.Maps
def b1A {H:Type}(w:World)(a:ByteArray)(n N D:Nat)(ha:a.size<=100000)(he:gPE a=0)(hn:n<=32)(hN:bN (cW a)=N)(hD:bN (qD a)=D)(hND:N<D)(hL:Lay w):
 Calls prog 225 #[.string a,.int .i64 n,.bool true] w fun e w'=>(∃ B nn Dm,e=.returned (.map (some B))/\w.heap.size<=B/\nn<=3000000/\w'.ownsMap prog 3 (plainElem (H:=H) prog 23) B nn Dm/\ReadsI Dm (gV N D true n))/\Below w.heap.size w w':=by
 have HE:=hid (w0M w a n N D ha he hn hN hD hND hL);have HAT:Hid (∀ V gt i k,TabR V gt n (q0b N D n)->i<=n->k<=n->Calls prog 288 #[.pointer (some ⟨gt,0,none⟩),.int .i64 (i:Nat),.int .i64 (k:Nat)] V fun e w'=>e=.returned (.string (a0f (edn N D i k)))/\V=w'):=fun V gt i k hT hi hk=>by
  have:=a1l V gt n i k (q0b N D n) hT hi hk (by omega);unfold q0b at this;rw[h0N hk]at this;exact this
 have HPW:=fun V k (hk:k<=1000) hV=>hid (j0M V k hk hV)
 have EB:Hid (∀ i k,i<=n->k<=n->edn N D i k<=2 ^ 200):=fun i k hi hk=>J0 (o0m hn i k hk) (J6 (by omega) (by omega))
 obtain⟨HL,HN,HND⟩:=zg hL hn hND;have wn:=qy n (by omega)
 have hmm:=@run_makeMap prog;clear ha he hn hN hD hND hL;go_enter func225,ntmps225;go_wp2_with fail;refine HE.out.mono ?_;rintro e w1 ⟨⟨gt,rfl,hgt,hT⟩,hb1⟩;obtain⟨T1,B1⟩:=zu hT hb1;clear hT hb1 HE hgt;have TK:Hid (∀ V,Below w1.heap.size w1 V->TabR V gt n (q0b N D n)):=fun V hV=>T1.out.call hV
 have LK:Hid (∀ V,Below w1.heap.size w1 V->Lay V):=fun V hV=>(HL.out.call B1.out).call hV
 have HR0:Hid (∀ V,Below w1.heap.size w1 V->∃ g c,n+1<=c/\c<=9223372036854775807/\V.cell? ⟨gt,0,none⟩=some (.slice (some ⟨g,0,none⟩) (n+1) c)):=fun V hV=>by
  obtain⟨-,g,c,h1,h2,h3,-,-⟩:=TK.out V hV;exact⟨g,c,h1,h2,h3⟩
 have G0:Hid (GlS H w1 (w1.alloc (.map #[] 0)) w1.heap.size 0 (fun _=>0)):=⟨br0.alloc nr _,0,.map [],O4 _,World.ownsMap_made _ _ _ _,ReadsI.nil⟩;obtain⟨g,c,hc1,hc2,r0⟩:=HR0.out _ G0.out.bel;clear T1;go_wp2_with fail;obtain⟨W1,hW1⟩:=gn (w1.alloc (.map #[] 0));obtain⟨B,hB⟩:=gn (w1.heap.size);have HB:=hid hB;have G1:Hid (GlS H w1 W1 B 0 (fun _=>0)):=by rw[<- hW1,<- hB];exact G0.out
 rw[hW1,hB];clear hW1 hB G0 r0 hc1 hc2
 go_loopw [22] (fun ii wr=>∃ i:Nat,ii=.int .i64 (i:Nat)/\i<=n+1/\Hid (GlS H w1 wr B (i*64000) (c2 N D n i 0 0 0))) (fun ii wr=>n+1-(intOf ii).toNat)
 case atStart=>exact⟨0,rfl,K5 _,hid (by rw[z0B];exact G1.out)⟩
 case round=>
  obtain⟨i,rfl,hi,hG⟩:=hrel;by_cases hlt:i<n+1
  .have q0:decide ((i:Int)<((n+1:Nat):Int))=true:=by simp;omega
   have di:decide ((i:Int)<(n:Int)+1)=true:=by simp;omega
   have IL:=hid hlt;have f2:(i:Int)<=100:=by have:=HN.out;omega
   clear hi hlt;go_wp2_with fail
   go_loopw [27] (fun ss wq=>∃ s:Nat,ss=.int .i64 (s:Nat)/\s<=n+1/\Hid (GlS H w1 wq B (i*64000+s*1600) (c2 N D n i s 0 0))) (fun ss wq=>n+1-(intOf ss).toNat)
   case atStart=>exact⟨0,rfl,K5 _,hid (hG.out.mono (by omega) rfl)⟩
   case round=>
    clear hG;obtain⟨s,rfl,hs,hG⟩:=hrel;by_cases hlt:s<n+1
    .have q0:decide ((s:Int)<((n+1:Nat):Int))=true:=by simp;omega
     have d30:decide ((s:Int)<(n:Int)+1)=true:=by simp;omega
     have SL:=hid hlt;have f3:(s:Int)<=100:=by have:=HN.out;omega
     have A1:=fun V hV=>hid (HAT.out V gt i s (TK.out V hV) (by have:=IL.out;omega) (by have:=SL.out;omega))
     obtain⟨x,hx⟩:=gn (edn N D i s);rw[hx]at A1;have bx:x<=2 ^ 200:=hx ▸ EB.out i s (by have:=IL.out;omega) (by have:=SL.out;omega);by_cases hx0:x=0
     .have q1:((a0f x).toList == [48])=true:=by rw[hx0,a0q];exact c0q
      have hsk:=hid (z0D (N:=N) (D:=D) (n:=n) (i:=i) (s:=s) (hx.trans hx0));obtain⟨sx,hsx⟩:=gn (a0f x);rw[hsx]at A1 q1;clear hs hlt hx bx hx0 hsx;go_wp2_with fail;refine (A1 _ hG.out.bel).out.mono ?_;rintro e w2 ⟨rfl,rfl⟩;go_wp2_with fail;go_roundw
      case rel=>exact⟨s+1,by go_num,by have:=SL.out;omega,hid (by rw[hsk.out];exact hG.out.mono (by omega) rfl)⟩
      case measure=>simp[intOf]<;>(have:=SL.out;omega)
     .have q1:((a0f x).toList == [48])=false:=a0O (l:=[48]) (by rw[<- a0q];exact b0W hx0);obtain⟨HX,BX,HX0⟩:=zg hx bx hx0;obtain⟨sx,hsx⟩:=gn (a0f x);rw[hsx]at A1 q1;have HSX:=hid hsx;obtain⟨g',c',hc1',hc2',r0'⟩:=HR0.out _ hG.out.bel;clear hs hlt hx bx hx0 hsx;go_wp2_with fail;refine (A1 _ hG.out.bel).out.mono ?_;rintro e w2 ⟨rfl,rfl⟩;go_wp2_with fail;clear q1
      go_loopw [59] (fun kk wq=>∃ k:Nat,kk=.int .i64 (k:Nat)/\k<=n+1/\Hid (GlS H w1 wq B (i*64000+s*1600+k*40) (c2 N D n i s k 0))) (fun kk wq=>n+1-(intOf kk).toNat)
      case atStart=>exact⟨0,rfl,K5 _,hid (hG.out.mono (by omega) rfl)⟩
      case round=>
       clear r0' hG;obtain⟨k,rfl,hk,hG⟩:=hrel;by_cases hlt:k<n+1
       .have q0:decide ((k:Int)<((n+1:Nat):Int))=true:=by simp;omega
        have dk:decide ((k:Int)<(n:Int)+1)=true:=by simp;omega
        have KL:=hid hlt;have f4:(k:Int)<=100:=by have:=HN.out;omega
        clear hk hlt;go_wp2_with fail
        go_loopw [12] (fun uu wq=>∃ u:Nat,uu=.int .i64 (u:Nat)/\s+u<=n+1/\Hid (GlS H w1 wq B (i*64000+s*1600+k*40+u) (c2 N D n i s k u))) (fun uu wq=>n+1-(intOf uu).toNat)
        case atStart=>exact⟨0,rfl,by have:=SL.out;omega,hid (hG.out.mono (by omega) rfl)⟩
        case round=>
         clear hG;obtain⟨u,rfl,hu,hG⟩:=hrel;by_cases hlt:s+u<=n
         .have q2:decide ((s:Int)+(u:Int)<=(n:Int))=true:=by simp;omega
          have UL:=hid hlt;have f5:(u:Int)<=100:=by have:=HN.out;omega
          have A2:=fun V hV=>hid (HAT.out V gt k u (TK.out V hV) (by have:=KL.out;omega) (by have:=UL.out;omega))
          obtain⟨y,hy⟩:=gn (edn N D k u);rw[hy]at A2;have by':y<=2 ^ 200:=hy ▸ EB.out k u (by have:=KL.out;omega) (by omega)
          by_cases hy0:y=0
          .have q1:((a0f y).toList == [48])=true:=by rw[hy0,a0q];exact c0q
           have hsk:=hid (z0C (N:=N) (D:=D) (n:=n) (i:=i) (s:=s) (k:=k) (u:=u) (hy.trans hy0));obtain⟨sy,hsy⟩:=gn (a0f y);rw[hsy]at A2 q1;clear hu hlt hy by' hy0 hsy
           go_wp2_with fail;refine (A2 _ hG.out.bel).out.mono ?_;rintro e w2 ⟨rfl,rfl⟩;go_wp2_with fail;go_roundw
           case rel=>exact⟨u+1,by go_num,by have:=UL.out;omega,hid (by rw[hsk.out];exact hG.out.mono (by omega) rfl)⟩
           case measure=>simp[intOf]<;>(have:=UL.out;omega)
          .have q1:((a0f y).toList == [48])=false:=a0O (l:=[48]) (by rw[<- a0q];exact b0W hy0);obtain⟨hbl,nn,Dm,hnn,hO,hR⟩:=hG.out;obtain⟨v,hv⟩:∃ v:Int,(i:Int)-(k:Int)=v:=⟨_,rfl⟩;have hvb : -1000<=v/\v<=1000:=⟨by omega,by have:=IL.out;have:=HN.out;omega⟩;have hcl:=c1i (N:=N) (D:=D) HND.out (n:=n) (i:=i) (s:=s) (k:=k) (u:=u) (by have:=IL.out;omega) (by omega) (by have:=KL.out;omega) (by omega) v;have hcl2:=c1i (N:=N) (D:=D) HND.out (n:=n) (i:=i) (s:=s) (k:=k) (u:=u+1) (by have:=IL.out;omega) (by omega) (by have:=KL.out;omega) (by omega) v;have hgv:=l0k HND.out true n v;have hstep:=d1t N D n i s k u;rw[hstep]at hcl2;rw[HX.out,hy,hv]at hstep hcl2;unfold k0j at hcl2;rw[J3 rfl]at hcl2;obtain⟨m,hm⟩:=gn (n-s-u);obtain⟨ns,hns⟩:=gn (n-s);have hm32:m<=32:=by have:=HN.out;omega
           have wsub:IntKind.i64.wrap ((n:Int)-(s:Int))=(ns:Int):=by rw[U0 _ ⟨by omega,by omega⟩];omega
           have wsub2:IntKind.i64.wrap ((ns:Int)-(u:Int))=(m:Int):=by rw[U0 _ ⟨by omega,by omega⟩];omega
           have wik:IntKind.i64.wrap ((i:Int)-(k:Int))=v:=by rw[U0 _ ⟨by omega,by omega⟩];exact hv
           rw[hm]at hstep hcl2;have hp2:2 ^ m<=2 ^ 32:=J6 (by omega) hm32;have hpn:2 ^ n<=2 ^ 32:=J6 (by omega) HN.out;obtain⟨xy,hxy⟩:=gn (x*y);have hxy0:0<xy:=by rw[<- hxy];exact Eb (by have:=HX0.out;omega) (by omega)
           have hxp:0<xy*2 ^ m:=Eb hxy0 (Gb (by omega));have dxy':=r0Q BX.out by' (by omega)
           rw[hxy]at dxy';have dx:=a0b BX.out (by omega);have dyy:=a0b by' (by omega)
           have PXY:=fun V hV=>hid (h0w V x y dx dyy (by rw[hxy];exact dxy') hV)
           rw[hxy]at hstep hcl2 PXY;have hRP:=ReadsI.put hR v hxp;obtain⟨HRP,HO,HNN,HBL,HST⟩:=zd hRP hO hnn hbl hstep;obtain⟨z,hz⟩:=gn (c2 N D n i s k u v);have HLK:Hid (∀ V,Below wr.heap.size wr V->(Instr.lookup 211 (.map (some B)) (.int .i64 v) false).run prog V=.ok (.string (k0b z)) V):=fun V hV=>by
            have:=w0G (HO.out.kept (row:=none) ⟨hV.os,hV.tape,hV.output,hV.size,fun k hk _=>hV.block k hk⟩ (by simp)) hR (n0c (v:=v) (by omega) (by omega));rw[hz]at this;exact this
           rw[hz]at HRP hcl hcl2;have dp:=a0b hp2 (by omega);have dxp:=a0b (i:=32) (show xy*2 ^ m<=2 ^ 32 by omega) (by omega);have dz:=a0b (i:=32) (show z<=2 ^ 32 by omega) (by omega);have ds:=a0b (i:=32) (show z+xy*2 ^ m<=2 ^ 32 by omega) (by omega);have P0:=fun V hV=>HPW V m (by omega) hV
           have P1:=fun V hV=>hid (h0w V xy (2 ^ m) dxy' dp dxp hV)
           have P2:=fun V hV=>hid (g0d V z (xy*2 ^ m) dz dxp ds hV)
           have POR:=fun V g h=>hid (d1s V g z h)
           obtain⟨hsz,hwf⟩:=zu (g0g ds) (keyOf_int_mk H9 (n0c (v:=v) (by omega) (by omega)));obtain⟨sy,hsy⟩:=gn (a0f y);obtain⟨sxy,hsxy⟩:=gn (a0f xy);obtain⟨sp,hsp⟩:=gn (a0f (2 ^ m));obtain⟨sxp,hsxp⟩:=gn (a0f (xy*2 ^ m));obtain⟨sz,hsz1⟩:=gn (a0f z);obtain⟨st,hst⟩:=gn (a0f (z+xy*2 ^ m));obtain⟨cz,hcz⟩:=gn (k0b z);rw[hsy]at A2 q1;rw[HSX.out,hsy,hsxy]at PXY;rw[hsp]at P0;rw[hsxy,hsp,hsxp]at P1;rw[hsz1,hsxp,hst]at P2;rw[hsz1,hcz]at POR;rw[hcz]at HLK;rw[hst]at hsz HRP;clear hu hlt hy by' hy0 hbl hnn hO hR hv hvb hcl hcl2 hgv hstep hm hns hm32 hp2 hpn hxy hxy0 hxp dxy' dx dyy hRP hz dp dxp dz ds hsy hsxy hsp hsxp hsz1 hst hcz
           have lk:=HLK.out wr br0;have C2:Blk (wr.alloc (.cells #[.string cz,.string ⟨#[48]⟩] 23)) wr.heap.size #[.string cz,.string ⟨#[48]⟩] 23:=Blk.new wr #[.string cz,.string ⟨#[48]⟩] 23;have F2:=hid (show Below wr.heap.size wr (wr.alloc (.cells #[.string cz,.string ⟨#[48]⟩] 23)) from br0.alloc nr _);have E2:=qx HBL F2.out;go_wp2_with fail;refine (A2 _ hG.out.bel).out.mono ?_;rintro e w2 ⟨rfl,rfl⟩;go_wp2_with fail;refine (POR _ _ C2).out.mono ?_;rintro e w2 ⟨rfl,rfl⟩;clear lk C2;go_wp2_with fail;refine (A1 _ E2.out).out.mono ?_;rintro e w2 ⟨rfl,rfl⟩;go_wp2_with fail;refine zx (A2 _ E2.out) ?_;go_wp2_with fail;refine nw (PXY _ (LK.out _ E2.out)) F2 fun w3 F3=>?_;go_wp2_with fail;refine nw (P0 _ (LK.out _ (a0a HBL.out F3.out))) F3 fun w4 F4=>?_;go_wp2_with fail;refine nw (P1 _ (LK.out _ (a0a HBL.out F4.out))) F4 fun w5 F5=>?_;go_wp2_with fail;refine nw (P2 _ (LK.out _ (a0a HBL.out F5.out))) F5 fun w6 F6=>?_;go_wp2_with (at_mapUpdate;refine wpList_mapUpdate_own _ rfl _ _ _ 211 rfl 3 23 (int_keyed H9) Kr _ B nn _ rfl (HO.out.kept (row:=none) ⟨F6.out.os,F6.out.tape,F6.out.output,F6.out.size,fun k hk _=>F6.out.block k hk⟩ (by simp)) (by have:=HNN.out;have:=HN.out;have:=IL.out;have:=SL.out;have:=KL.out;have:=UL.out;unfold maxLen;omega) _ _ _ rfl rfl hwf.out _ [] (plainElem_string Fo hsz.out) ?_;intro w7 hown hgrow)
           obtain⟨OW,B7⟩:=zu hown (l0H (a0a HBL.out F6.out) hgrow (by rw[HB.out];exact O4 _));clear hown hgrow HLK;go_roundw
           case rel=>
            refine⟨u+1,by go_num,by have:=UL.out;omega,hid ⟨B7.out,nn+1,_,by have:=HNN.out;omega,OW.out,?_⟩⟩;rw[HST.out];exact HRP.out
           case measure=>simp[intOf]<;>(have:=UL.out;omega)
         .have q2:decide ((s:Int)+(u:Int)<=(n:Int))=false:=by simp;omega
          have e1:u=n-s+1:=by have:=SL.out;omega
          have f5:(u:Int)<=100:=by have:=HN.out;omega
          subst e1;clear hu hlt;have hck:=hid (d1B N D n i s k);go_wp2_with fail;go_roundw
          case rel=>exact⟨k+1,by go_num,by have:=KL.out;omega,hid (hG.out.mono (by have:=HN.out;omega) hck.out)⟩
          case measure=>simp[intOf]<;>(have:=KL.out;omega)
       .have q0:decide ((k:Int)<((n+1:Nat):Int))=false:=by simp;omega
        have dk:decide ((k:Int)<(n:Int)+1)=false:=by simp;omega
        have e1:k=n+1:=by omega
        subst e1;clear hk hlt;have hcs:=hid (d1u N D n i s);go_wp2_with fail;go_roundw
        case rel=>exact⟨s+1,by go_num,by have:=SL.out;omega,hid (hG.out.mono (by have:=HN.out;omega) hcs.out)⟩
        case measure=>simp[intOf]<;>(have:=SL.out;omega)
    .have q0:decide ((s:Int)<((n+1:Nat):Int))=false:=by simp;omega
     have d30:decide ((s:Int)<(n:Int)+1)=false:=by simp;omega
     have e1:s=n+1:=by omega
     subst e1;clear hs hlt;have hrow:=hid (d1C N D n i);go_wp2_with fail;go_roundw
     case rel=>exact⟨i+1,by go_num,by have:=IL.out;omega,hid (hG.out.mono (by have:=HN.out;omega) hrow.out)⟩
     case measure=>simp[intOf]<;>(have:=IL.out;omega)
  .have q0:decide ((i:Int)<((n+1:Nat):Int))=false:=by simp;omega
   have di:decide ((i:Int)<(n:Int)+1)=false:=by simp;omega
   have e1:i=n+1:=by omega
   subst e1;clear hi hlt;obtain⟨hbl,nn,Dm,h1,h2,h3⟩:=hG.out;obtain⟨HBL,H1,H2,H3⟩:=zc hbl h1 h2 h3;clear hbl h1 h2 h3;go_wp2_with fail;go_ret
   refine⟨⟨B,nn,Dm,rfl,by rw[<- HB.out];exact B1.out.size,by have:=H1.out;have:=HN.out;omega,H2.out,?_⟩,a0a B1.out HBL.out⟩;have e2:c2 N D n (n+1) 0 0 0=gV N D true n:=funext fun v=>w0V HND.out n v
   rw[<- e2];exact H3.out
open Go.Sort Go.Shelf
def prL (N D:Nat)(two:Bool)(n:Nat)(vs:List Int):List (ByteArray×ByteArray):=vs.map fun v=>(zB v,shB (gV N D two n v) (2 ^ n))
def u0M (N D:Nat)(two:Bool)(n:Nat)(vs:List Int)(v:Int):prL N D two n (vs ++ [v])=prL N D two n vs ++ [(zB v,shB (gV N D two n v) (2 ^ n))]:=by simp[prL]
def u0k {n:Nat}{vs:List Int}(hn:vs.Nodup)(hb:∀ v∈vs,-(n:Int)<=v/\v<=n):vs.length<=2*n+1:=by
 have h:=g0B (fun _=>1) n vs hn hb;have h2:a0m (fun j=>if ((j:Int)-n)∈vs then 1 else 0) (2*n+1)<=a0m (fun _=>1) (2*n+1):=h0c fun j _=>by split<;>omega
 have h3:∀ m,a0m (fun _=>1) m=m:=fun m=>by
  induction m with
  | zero=>rfl
  | succ m ih=>rw[a0m,ih]
 have h4:∀ l:List Int,(l.map fun _=>1).sum=l.length:=fun l=>by
  induction l with
  | nil=>rfl
  | cons a r ih=>rw[Kj,List.sum_cons,ih,E8];omega
 rw[h3]at h2;rw[h4]at h;omega
def m0C {H:Type}(w:World)(a:ByteArray)(n N D:Nat)(two:Bool)(ha:a.size<=100000)(he:gPE a=0)(hn:n<=32)(hN:bN (cW a)=N)(hD:bN (qD a)=D)(hND:N<D)(hL:Lay w):
 Calls prog 162 #[.string a,.int .i64 n,.bool two] w fun e w'=>(∃ v,e=.returned (.tuple #[v,.int .i64 0])/\MRow w' v (a0p (glP (gV N D two n) (2 ^ n) n (gL N D two n))))/\Below w.heap.size w w':=by
 have HA:=hid (d0L w a ha hL);rw[J3 he,J3 he,he]at HA;have HLAW:∀ V,Lay V->Hid (Calls prog 225 #[.string a,.int .i64 n,.bool two] V fun e w'=>(∃ B nn Dm,e=.returned (.map (some B))/\V.heap.size<=B/\nn<=3000000/\w'.ownsMap prog 3 (plainElem (H:=H) prog 23) B nn Dm/\ReadsI Dm (gV N D two n))/\Below V.heap.size V w'):=fun V hV=>by
  cases two
  .exact b1B V a n N D ha he hn hN hD hND hV
  .exact b1A V a n N D ha he hn hN hD hND hV
 have HPW:=fun V hV=>hid (j0M V n (by omega) hV)
 have HSL:Hid (∀ vs left,Seen (gV N D two n) n left vs->(vs.map (gV N D two n)).sum<=2 ^ n):=fun vs left h=>h.sum_le hND
 have HSA:Hid (∀ vs left,Seen (gV N D two n) n left vs->(∀ v,left v=false)->2 ^ n-(vs.map (gV N D two n)).sum=gL N D two n):=fun vs left h hl=>h.sum_all hND hl
 have HSP:Hid (∀ vs left,Seen (gV N D two n) n left vs->(∀ v,left v=false)->∀ r,((prL N D two n vs++if r=0 then [] else [(b0d,shB r (2 ^ n))]).map b0t).Nodup/\a0p (prL N D two n vs++if r=0 then [] else [(b0d,shB r (2 ^ n))])=a0p (glP (gV N D two n) (2 ^ n) n r)):=fun vs left h hl r=>h.pairs hND hl
 have HVS:Hid (∀ vs left,Seen (gV N D two n) n left vs->vs.length<=100):=fun vs left h=>by
  have h1:=u0k h.nd fun v hv=>by
   have h1:=((h.mem v).1 hv).1;rcases Ft v (-(n:Int)) with h2 | h2
   .exact absurd (d0M hND (.inl h2)) h1
   .rcases Ft (n:Int) v with h3 | h3
    .exact absurd (d0M hND (.inr h3)) h1
    .exact⟨h2,h3⟩
  omega
 have HOUT:Hid (∀ v,gV N D two n v≠0 -> -100<=v/\v<=100):=fun v h1=>by
  rcases Ft v (-(n:Int)) with h2 | h2
  .exact absurd (d0M hND (.inl h2)) h1
  .rcases Ft (n:Int) v with h3 | h3
   .exact absurd (d0M hND (.inr h3)) h1
   .omega
 have HGV:Hid (∀ v,gV N D two n v<=2 ^ n):=fun v=>l0k hND two n v
 have hpn:2 ^ n<=2 ^ 32:=J6 (by omega) hn;have dT:=a0b hpn (by omega);have hT0:2 ^ n≠0:=Ow (Gb (by omega));have HMK:∀ x,x<=2 ^ n->∀ V,Lay V->Hid (Calls prog 215 #[.string (a0f x),.string (a0f (2 ^ n))] V fun e w'=>e=.returned (.tuple #[.string (shB x (2 ^ n)),.int .i64 (c0p (qmk false x (2 ^ n)))])/\Below V.heap.size V w'):=fun x hx V hV=>y0e V x (2 ^ n) (a0b (i:=32) (by omega) (by omega)) dT hT0 hV
 have HSB:∀ x y,y<=x->x<=2 ^ n->∀ V,Lay V->Hid (Calls prog 214 #[.string (a0f x),.string (a0f y)] V fun e w'=>e=.returned (.tuple #[.string (a0f (x-y)),.int .i64 0])/\Below V.heap.size V w'):=fun x y hy hx V hV=>y0f V x y (a0b (i:=32) (by omega) (by omega)) (a0b (i:=32) (by omega) (by omega)) hy hV
 obtain⟨HMK',HSB'⟩:=zu HMK HSB;obtain⟨cg,hcg⟩:=gn (gV N D two n);obtain⟨gl,hgl⟩:=gn (gL N D two n);obtain⟨pr,hpr⟩:=gn (prL N D two n);have HPR:Hid (∀ vs v,pr (vs ++ [v])=pr vs ++ [(zB v,shB (cg v) (2 ^ n))]):=fun vs v=>by rw[<- hpr,<- hcg];exact u0M N D two n vs v
 have HPL:Hid (∀ vs,(pr vs).length=vs.length):=fun vs=>by rw[<- hpr];unfold prL;rw[Dp]
 have HP0:Hid (pr [] = []):=by show pr [] = [];rw[<- hpr];rfl
 rw[hcg]at HSL HSA HSP HVS HOUT HGV;rw[hpr]at HSP;rw[hgl]at HSA;simp only[hcg]at HLAW;rw[hcg,hgl];obtain⟨T,hT⟩:=gn (2 ^ n);obtain⟨sT,hsT⟩:=gn (a0f T);rw[hT]at HPW HSL HSA HSP HGV HMK' HSB' HPR hT0 |-;rw[hsT]at HPW;simp only[hsT]at HMK';obtain⟨HST,HT0,HLy⟩:=zg hsT hT0 hL;have q0:decide ((n:Int)<0)=false:=by simp
 have q1:decide ((32:Int)<(n:Int))=false:=by simp;omega
 obtain⟨i0,hi,hz0,hz1,hz2⟩:=Dx h0I;clear ha he hn hN hD hND hL hcg hgl hpr hT hsT hpn dT hT0 HMK HSB;go_enter func162,ntmps162;go_wp2_with fail;refine nz HA fun w1 B1=>?_;clear HA;go_wp2_with fail;refine nw (HPW _ (HLy.out.call B1.out)) B1 fun w2 B2=>?_;go_wp2_with fail;refine (HLAW _ (HLy.out.call B2.out)).out.mono ?_;rintro e w3 ⟨⟨B,nn,Dm,rfl,hBs,hnn,hown,hR⟩,hb3⟩;have B3:=qx B2 hb3;have HR:=hid hR;clear hb3 hBs hnn hR HLAW;go_wp2_with (first | (at_range;refine wpList_range_own _ rfl _ 211 rfl 3 23 (int_keyed H9) Kr _ B nn Dm rfl hown ?_;intro w4 hrg0 hg0 hs0) | go_in)
 go_frame
 have B4:Hid (Below w.heap.size w w4):=B3.out.trans ⟨hg0.os,hg0.tape,hg0.output,hg0.size,fun k hk=>hg0.block k (by have:=B3.out.size;omega) (by simp)⟩;obtain⟨r,hr⟩:=gn (w3.heap.size);rw[hr]at hrg0 |-;have Hr:Hid (w.heap.size<=r/\r<w4.heap.size/\B<w4.heap.size):=⟨by rw[<- hr];exact B3.out.size,hrg0.lt,hrg0.owns.lt⟩;have S0:Hid (Seen cg n (fun v=>Maps.has Dm (.int .i64 v)) []):=Seen.start fun v hv=>by rw[HR.out.has];simpa using hv
 have RG:=hid hrg0;clear hrg0 hg0 hs0 hown hr
 go_loopw [11,12] (fun s11 s12 wr=>∃ (left:Lit->Bool) (cnt:Nat) (vs:List Int),Hid (wr.ranges prog 3 (plainElem prog 23) B r nn Dm left cnt)/\Hid (Seen cg n (fun v=>left (.int .i64 v)) vs)/\s12=.string (a0f (T-(vs.map cg).sum))/\Hid (wr.ownsRow w4.heap.size 42 2 s11 vs.length (a0N (pr vs)))/\Hid (w4.heap.size<=wr.heap.size)/\Hid (Below w.heap.size w wr)) (fun s11 s12 wr=>wr.rangeLeft B r)
 case atStart=>exact⟨_,_,[],RG,S0,by simp[HST.out],hid (by rw[HP0.out];exact⟨rfl,.inl ⟨rfl,rfl⟩⟩),hid nr,B4⟩
 case round=>
  clear RG S0 B4;obtain⟨left,cnt,vs,hrg,hS,rfl,hO,hW,hBl⟩:=hrel;obtain⟨ar,cr,rfl⟩:=b0l hO.out
  go_wp2_with (first
   | (at_next;refine wpList_next_ranges_is _ rfl _ rfl 3 23 .i64 (int_keyed H9) H9 Fo B r nn _ _ _ rfl hrg.out ?_ ?_)
   | go_in)
  .intro _ hl0;have hl1:∀ v,(fun v=>left (.int .i64 v)) v=false:=fun v=>hl0 _
   have hrest:=HSA.out vs _ hS.out hl1;obtain⟨hnd,hsort⟩:=HSP.out vs _ hS.out hl1 gl;have hvl:=HVS.out vs _ hS.out;have hgT:gl<=T:=by omega
   rw[hrest];obtain⟨HND,HSO,HVL⟩:=zg hnd hsort hvl;have P1:=fun V hV=>HMK'.out gl hgT V hV
   obtain⟨L,hL⟩:=gn (pr vs);have hLl:=HPL.out vs;rw[hL]at hO HND HSO hLl;rw[<- hLl]at hO hvl |-;have hpos:0<(L++if gl=0 then [] else [(b0d,shB gl T)]).length:=by
    rw[J5]
    split
    .rename_i h0
     have:vs ≠ []:=fun e=>by subst e;simp at hrest;have:=HT0.out;omega
     have:=Gp.2 this;simp;omega
    .simp
   have HPOS:=hid hpos;clear hl0 hl1 hrest hnd hsort hS hrg hgT hL hLl hpos HVL;obtain⟨sg,hsg⟩:=gn (a0f gl);rw[hsg]at P1 |-;have HSG:=hid hsg;clear hsg;obtain⟨tb0,htb⟩:=gn ((sg.toList == [48]))
   go_upto_if 67 with fail
   have HTB:=hid htb;clear htb
   go_cut [11] (fun s11 wx=>∃ k,k=(L++if gl=0 then [] else [(b0d,shB gl T)]).length/\wx.ownsRow w4.heap.size 42 2 s11 k (a0N (L++if gl=0 then [] else [(b0d,shB gl T)]))/\w4.heap.size<=wx.heap.size/\Below w.heap.size w wx)
   case first=>
    by_cases h0:gl=0
    .have e1:L++(if gl=0 then [] else [(b0d,shB gl T)])=L:=by rw[J3 h0,Cz]
     have q3:(sg.toList == [48])=true:=by rw[<- HSG.out,h0,a0q];exact c0q
     obtain rfl:true=tb0:=by rw[<- HTB.out];exact q3.symm
     have HE1:=hid e1;clear h0 e1 q3;go_wp2_with fail
     go_meet
     exact⟨_,rfl,by rw[HE1.out];exact hO.out,hW.out,hBl.out⟩
    .have e1:L++(if gl=0 then [] else [(b0d,shB gl T)])=L ++ [(b0d,shB gl T)]:=by rw[J2 h0]
     have q3:(sg.toList == [48])=false:=by rw[<- HSG.out];exact a0O (l:=[48]) (by rw[<- a0q];exact b0W h0)
     obtain rfl:false=tb0:=by rw[<- HTB.out];exact q3.symm
     have HE1:=hid e1;obtain⟨sh,hsh⟩:=gn (shB gl T);rw[hsh]at P1;have HSH:=hid hsh;clear hsh h0 e1 q3;go_wp2_with fail;refine ny (HPW _ (HLy.out.call hBl.out)) fun w5 hb5=>?_;have B5:=qx hBl hb5;obtain⟨O5,W5⟩:=zu (a0C hO.out hb5) (J0 hW.out hb5.size);clear hb5;go_wp2_with fail;refine ny (P1 _ (HLy.out.call B5.out)) fun w6 hb6=>?_;have B6:=qx B5 hb6;obtain⟨O6,W6⟩:=zu (a0C O5.out hb6) (J0 W5.out hb6.size);clear hb6;have hw6:=W6.out;obtain⟨hr0,hr1,hr2⟩:=Hr.out;go_wp2_with (at_builtin;refine Dz _ rfl _ _ 37 rfl w4.heap.size 42 i0 (.agg #[.string ⟨#[]⟩,.string ⟨#[]⟩]) 2 32 Cc hi hz0 hz1 hz2 rfl (by decide) _ L.length _ rfl (O6.out.alloc _) ⟨w6.heap.size,0,none⟩ 1 1 [.string ⟨#[108,97,116,101]⟩,.string sh] rfl rfl (cell_two_new w6 (.string ⟨#[108,97,116,101]⟩) (.string sh) 42) (by simp[Value.oneCell']) (by unfold maxLen;omega) (by omega) (by simp;omega) ?_;intro v' w7 hown7 hgrow7 _)
     have O7:=hid hown7;have B7:Hid (Below w.heap.size w w7):=B6.out.trans (br0.alloc nr _ |>.mono (by have:=B6.out.size;omega) |>.trans ⟨hgrow7.os,hgrow7.tape,hgrow7.output,hgrow7.size,fun k hk=>hgrow7.block k (by have:=B6.out.size;simp;omega) (fun e=>by have:=(O6.out.lt k e.symm).1;omega)⟩);have W7:=hid (show w4.heap.size<=w7.heap.size by have:=hgrow7.size;simp at this;omega);clear hown7 hgrow7 hw6 hr0 hr1 hr2;go_wp2_with fail
     go_meet
     refine⟨_,rfl,?_,W7.out,B7.out⟩;rw[HE1.out,J5,b0x,HSH.out];exact O7.out
   case rest=>
    obtain⟨k,rfl,hOx,hWx,hBx⟩:=hcut;have HB:=hid hBx;obtain⟨d,hd⟩:=gn ((L++if gl=0 then [] else [(b0d,shB gl T)]));rw[hd]at hOx HND HSO HPOS;have hdl:d.length<=1000:=by rw[<- hd,J5];split<;>simp<;>omega
    rcases hOx.2 with ⟨_,h0⟩ | ⟨g,cap,cur,rfl,hgb,hg,h1,h2,h3,h4⟩
    .have:=HPOS.out;omega
    .have hSM:=q0U 226 g cap w4.heap.size d.toArray wc cur hgb hg (by simpa using h1) h2 h3 (by simpa[b0a]using h4) (by simp;omega) (by simpa using HND.out) (Cw func226 (by kernel_rfl) rfl) (fun x y W=>y0P x y W);simp only[An]at hSM;have HSM:=hid hSM;clear hd hdl hSM hOx hWx hBx h1 h2 h3 h4 hg;go_wp2_with fail;refine HSM.out.mono ?_;rintro e w8 ⟨rfl,ho8,hb8⟩;have B8:Hid (Below w.heap.size w w8):=HB.out.trans (hb8.mono (by have:=Hr.out.1;have:=Hr.out.2.1;omega));have M8:=hid (MRow.of_owns ho8);clear ho8 hb8;go_wp2_with fail;go_ret2
     refine⟨⟨_,rfl,?_⟩,B8.out⟩;rw[<- HSO.out];exact M8.out
  .intro x c w5 cnt1 hwx hwc hlx hat hrg1 hlt hg1 hs1 hen;have hxc:cg x≠0:=by
    have h1:=has_true_of_atKey hat;rw[HR.out.has]at h1;simpa using h1
   have hcx:c=a0f (cg x):=by
    have h1:=(HR.out.look x hxc (.lit (.string []))).symm.trans (hat (.lit (.string [])));simp only[DataW.lit.injEq,Lit.string.injEq]at h1;exact (b0f h1).symm
   subst hcx;have hS1:=Seen.step (left':=fun v=>(fun z=>left z && !z.sameKey (.int .i64 x)) (.int .i64 v)) hS.out (x:=x) hlx hxc (fun v=>by simp only[m0b]);have hsum:=HSL.out _ _ hS1;have hsum1:((vs ++ [x]).map cg).sum=(vs.map cg).sum+cg x:=by simp
   rw[hsum1]at hsum;have hvl:=HVS.out _ _ hS1;rw[J5,U8]at hvl;have hxb:=HOUT.out x hxc;have P1:=fun V hV=>HMK'.out (cg x) (HGV.out x) V hV
   have P2:=fun V hV=>HSB'.out (T-(vs.map cg).sum) (cg x) (by omega) (by omega) V hV
   have PI:=fun V hV=>hid (x0C V x (by omega) (by omega) hV)
   have HNX:Hid (T-(vs.map cg).sum-cg x=T-((vs ++ [x]).map cg).sum):=by show _=_;rw[hsum1];omega
   have hb5:Below w.heap.size w w5:=hBl.out.trans ⟨hg1.os,hg1.tape,hg1.output,hg1.size,fun k hk=>hg1.block k (by have:=hBl.out.size;omega) (fun e=>by have:=Hr.out.1;injection e with e;omega)⟩;have hO5:w5.ownsRow w4.heap.size 42 2 (.slice ar vs.length cr) vs.length (a0N (pr vs)):=hO.out.kept hg1 (.inr fun e=>by have:=(hO.out.lt r e).1;have:=Hr.out.2.1;omega);obtain⟨B5,O5,RG1,HS1,HLT,W5,HRG⟩:=kx hb5 hO5 hrg1 hS1 hlt (show w4.heap.size<=w5.heap.size by have:=hW.out;omega) hrg.out;rw[HNX.out]at P2;obtain⟨s1,hs1'⟩:=gn (a0f (T-(vs.map cg).sum));obtain⟨s2,hs2⟩:=gn (a0f (cg x));obtain⟨s3,hs3⟩:=gn (a0f (T-((vs ++ [x]).map cg).sum));obtain⟨s4,hs4⟩:=gn (shB (cg x) T);obtain⟨s5,hs5⟩:=gn (zB x);rw[hs1',hs2,hs3]at P2;rw[hs2,hs4]at P1;rw[hs5]at PI;rw[hs2]at hen hwc;rw[hs1',hs2];obtain⟨HS3,HS4,HS5,HVL⟩:=zc hs3 hs4 hs5 hvl;clear hlx hat hrg1 hlt hg1 hs1 hxc hS1 hsum hsum1 hvl hxb hb5 hO5 hs1' hs2 hs3 hs4 hs5 hrg hS hO hW hBl;go_wp2_with fail;refine ny (HPW _ (HLy.out.call B5.out)) fun w6 hb6=>?_;have B6:=qx B5 hb6;obtain⟨O6,R6,W6⟩:=zg (a0C O5.out hb6) (RG1.out.kept (row:=none) ⟨hb6.os,hb6.tape,hb6.output,hb6.size,fun k hk _=>hb6.block k hk⟩ (by simp) (by simp)) (J0 W5.out hb6.size);clear hb6 hen;go_wp2_with fail;refine ny (P1 _ (HLy.out.call B6.out)) fun w7 hb7=>?_;have B7:=qx B6 hb7;obtain⟨O7,R7,W7⟩:=zg (a0C O6.out hb7) (R6.out.kept (row:=none) ⟨hb7.os,hb7.tape,hb7.output,hb7.size,fun k hk _=>hb7.block k hk⟩ (by simp) (by simp)) (J0 W6.out hb7.size);clear hb7;go_wp2_with fail;refine ny (PI _ (HLy.out.call B7.out)) fun w8 hb8=>?_;have B8:=qx B7 hb8;obtain⟨O8,R8,W8⟩:=zg (a0C O7.out hb8) (R7.out.kept (row:=none) ⟨hb8.os,hb8.tape,hb8.output,hb8.size,fun k hk _=>hb8.block k hk⟩ (by simp) (by simp)) (J0 W7.out hb8.size);clear hb8;have hw8:=W8.out;obtain⟨hr0,hr1,hr2⟩:=Hr.out;have hvl:=HVL.out;go_wp2_with (at_builtin;refine Dz _ rfl _ _ 37 rfl w4.heap.size 42 i0 (.agg #[.string ⟨#[]⟩,.string ⟨#[]⟩]) 2 32 Cc hi hz0 hz1 hz2 rfl (by decide) _ vs.length _ rfl (O8.out.alloc _) ⟨w8.heap.size,0,none⟩ 1 1 [.string s5,.string s4] rfl rfl (cell_two_new w8 (.string s5) (.string s4) 42) (by simp[Value.oneCell']) (by unfold maxLen;omega) (by omega) (by simp;omega) ?_;intro v' w9 hown9 hgrow9 _)
   have O9:=hid hown9;have B9:Hid (Below w.heap.size w w9):=B8.out.trans (br0.alloc nr _ |>.mono (by have:=B8.out.size;omega) |>.trans ⟨hgrow9.os,hgrow9.tape,hgrow9.output,hgrow9.size,fun k hk=>hgrow9.block k (by have:=B8.out.size;simp;omega) (fun e=>by have:=(O8.out.lt k e.symm).1;omega)⟩);obtain⟨R9,W9⟩:=zu ((R8.out.alloc (.cells #[.string s5,.string s4] 42)).kept hgrow9 (fun e=>by have:=(O8.out.lt B e.symm).1;omega) (fun e=>by have:=(O8.out.lt r e.symm).1;omega)) (show w4.heap.size<=w9.heap.size by have:=hgrow9.size;simp at this;omega);clear hown9 hgrow9 hw8 hr0 hr1 hr2 hvl;go_wp2_with fail;refine ny (P2 _ (HLy.out.call B9.out)) fun w10 hb10=>?_;have B10:=qx B9 hb10;obtain⟨O10,R10,W10⟩:=zg (a0C O9.out hb10) (R9.out.kept (row:=none) ⟨hb10.os,hb10.tape,hb10.output,hb10.size,fun k hk _=>hb10.block k hk⟩ (by simp) (by simp)) (J0 W9.out hb10.size);clear hb10;go_wp2_with fail;go_roundw
   case rel=>
    refine⟨_,cnt1,vs ++ [x],R10,HS1,by rw[HS3.out],hid ?_,W10,B10⟩;rw[J5,U8,HPR.out,b0x,HS4.out,HS5.out];exact O10.out
   case measure=>rw[R10.out.left_eq,HRG.out.left_eq];exact HLT.out
end
section
def glR (a:ByteArray)(n:Int)(two:Bool):List (ByteArray×ByteArray):=if glE a n 32=0 then a0p (glP (gV (bN (cW a)) (bN (qD a)) two n.toNat) (2 ^ n.toNat) n.toNat (gL (bN (cW a)) (bN (qD a)) two n.toNat)) else []
def v0s (w:World)(a:ByteArray)(n:Int)(two:Bool)(ha:a.size<=100000)(hL:Lay w):
 Calls prog 162 #[.string a,.int .i64 n,.bool two] w fun e w'=>(∃ v,e=.returned (.tuple #[v,.int .i64 (glE a n 32)])/\MRow w' v (glR a n two))/\Below w.heap.size w w':=by
 by_cases he:gPE a=0
 focus
  by_cases hn:n<0\/32<n
  focus
   have e1:glE a n 32=2:=by unfold glE;rw[J2 (by rw[he];simp),J3 hn]
   have e2:glR a n two = []:=by unfold glR;rw[J2 (by rw[e1];decide)]
   rw[e1,e2];have HA:=hid (d0L w a ha hL);rw[J3 he,J3 he,he]at HA;obtain⟨b1,k1⟩:=gn (decide (n<0));obtain⟨b2,k2⟩:=gn (decide (32<n));have k3:(b1 || b2)=true:=by rw[<- k1,<- k2];simpa using hn
   clear ha hL he hn e1 e2;cases b1
   focus
    obtain rfl:b2=true:=by simpa using k3
    clear k3
   rotate_left
   focus
    clear k2 k3
  rotate_left 2
  .obtain⟨m,rfl⟩:∃ m:Nat,n=(m:Nat):=⟨n.toNat,by omega⟩;have e1:glE a (m:Nat) 32=0:=by unfold glE;rw[J2 (by rw[he];simp),J2 hn]
   have hND:=(b0R he).2;have:=m0C (H:=Unit) w a m _ _ two ha he (by omega) rfl rfl hND hL;unfold glR;rw[J3 e1,e1,Ao];exact this
 rotate_left 2
 focus
  have e1:glE a n 32=gPE a:=by unfold glE;rw[J3 he]
  have e2:glR a n two = []:=by unfold glR;rw[J2 (by rw[e1];exact he)]
  rw[e1,e2];have HA:=hid (d0L w a ha hL);rw[J2 he,J2 he]at HA;obtain⟨x,hx⟩:=gn (gPE a);rw[hx]at HA he |-;have x0:(x != 0)=true:=by simpa using he
  clear ha hL he hx e1 e2
 all_goals
  go_enter func162,ntmps162;go_wp2_with fail;refine nz HA fun w1 B1=>?_;clear HA;go_wp2_with fail;go_ret2
  exact⟨⟨_,rfl,MRow.nil _⟩,B1.out⟩
def v0t (w:World)(a:ByteArray)(n:Int)(ha:a.size<=100000)(hL:Lay w):
 Calls prog 59 #[.string a,.int .i64 n] w fun e w'=>(∃ v,e=.returned (.tuple #[v,.int .i64 (glE a n 32)])/\MRow w' v (glR a n true))/\Below w.heap.size w w':=by
 have H:=hid (v0s w a n true ha hL);obtain⟨o,ho⟩:=gn (glR a n true);obtain⟨x,hx⟩:=gn (glE a n 32);rw[ho,hx]at H |-;clear ha hL ho hx;go_enter func59,ntmps59;go_wp2_with fail;refine nu H fun v w1 hv hb1=>?_;obtain⟨B1,V1⟩:=zu hb1 hv;clear hb1 hv;go_wp2_with fail;go_ret2
 exact⟨⟨_,rfl,V1.out⟩,B1.out⟩
def slE (c:List Int)(thr:Int)(a r:ByteArray)(n:Int):Int:=if g0p c thr a r≠0 then g0p c thr a r else if n<0\/32<n then 2 else if 256<n*((c.length:Int)+1) then 5 else 0
def slR (c:List Int)(thr:Int)(a r:ByteArray)(n:Int):List (ByteArray×ByteArray):=if slE c thr a r n=0 then a0p (sqD (gV (bN (cW a)) (bN (qD a)) true n.toNat) (gV (bN (cW r)) (bN (qD r)) true n.toNat) n.toNat thr c) else []
def n0t (a r:ByteArray)(n many:Int):Int:=if gPE a≠0 then gPE a else if gPE r≠0 then gPE r else if n<0\/256<n\/many<1\/256<many then 2 else 0
def c1w (a r:ByteArray)(n many:Int):ByteArray:=b0D (· + ·) (glB a n true) (b0D (· * ·) (glB r n true) (a0f many.toNat))
def a1y (a r:ByteArray)(n many:Int):ByteArray:=if n0t a r n many≠0 then ⟨#[]⟩ else mnB (c1w a r n many) ⟨#[49]⟩
def a1x (a r:ByteArray)(n many:Int):Int:=if n0t a r n many≠0 then n0t a r n many else cmE (c1w a r n many) ⟨#[49]⟩
def n0A (a r:ByteArray)(reach:Int):Int:=if g0J a≠0 then g0J a else if g0J r≠0 then g0J r else if reach<0\/10000<reach then 2 else 0
def a1z (a r:ByteArray)(reach:Int)(one:Bool):Int:=if l0M reach.toNat a≠0 then l0M reach.toNat a else l0M (ffM reach one) r
def a1A (a r:ByteArray)(reach:Int)(one:Bool):Int:=if n0A a r reach≠0 then n0A a r reach else if a1z a r reach one≠0 then a1z a r reach one else f0F (· * ·) (h0Y reach.toNat a) (h0Y (ffM reach one) r)
def u0h (a r:ByteArray)(reach:Int)(one:Bool):ByteArray:=if n0A a r reach≠0 then ⟨#[]⟩ else if a1z a r reach one≠0 then ⟨#[]⟩ else b0D (· * ·) (h0Y reach.toNat a) (h0Y (ffM reach one) r)
def u0C (w:World)(v u:Value)(p q:Rat)(hp:IsQ .i64 w v p)(hq:IsQ .i64 w u q)(dp:Dig 4000 p)(dq:Dig 4000 q):
 qb 201 #[v,u] w (.int .i64 (g0f p q)):=by
 have HO:=fun V v u hp hq=>hid (r0J V v u p (-q) hp hq dp (z0a dq))
 have HG:=fun V v h=>hid (e0w V v q h)
 obtain⟨HP,HQ⟩:=zu hp hq;obtain⟨m,a,n,c,a',n',c',rfl⟩:=hp.qv;obtain⟨m2,b,j,d,b',j',d',rfl⟩:=hq.qv;rw[show g0f p q=n0z (p + -q) by rw[g0f,Id]];obtain⟨z,hz⟩:=gn (p + -q);simp only[hz]at HO;rw[hz];clear hp hq dp dq hz;go_enter func201,ntmps201
 go_upto_region 1 with fail
 obtain⟨W,hW⟩:=gn ((w.alloc (.cells #[.bool m,.slice a n c,.slice a' n' c'] 81)).alloc (.cells #[.bool m2,.slice b j d,.slice b' j' d'] 81));have Y0:Blk W w.heap.size #[.bool m,.slice a n c,.slice a' n' c'] 81:=by rw[<- hW];exact (Blk.new w _ _).alloc _
 have Y1:Blk W (w.heap.size+1) #[.bool m2,.slice b j d,.slice b' j' d'] 81:=by rw[<- hW];exact Blk.made _ _ _ (by simp)
 have y0:Below w.heap.size w W:=by rw[<- hW];exact (br0.alloc nr _).alloc (by simp) _
 rw[hW];have KK:Hid (∀ w',Below W.heap.size W w'->w'.cell? ⟨w.heap.size,0,none⟩=some (.bool m)/\w'.cell? ⟨w.heap.size,1,none⟩=some (.slice a n c)/\w'.cell? ⟨w.heap.size,2,none⟩=some (.slice a' n' c')/\w'.cell? ⟨w.heap.size+1,0,none⟩=some (.bool m2)/\w'.cell? ⟨w.heap.size+1,1,none⟩=some (.slice b j d)/\w'.cell? ⟨w.heap.size+1,2,none⟩=some (.slice b' j' d')):=fun w' hb=>
  ⟨(Y0.call hb).cell 0,(Y0.call hb).cell 1,(Y0.call hb).cell 2,(Y1.call hb).cell 0,(Y1.call hb).cell 1,(Y1.call hb).cell 2⟩
 obtain⟨Q1,Q2,HY⟩:=zg (HP.out.call y0) (HQ.out.call y0) y0;clear Y0 Y1 y0 hW
 go_cut [5] (fun s5 wx=>∃ (g:Nat) (a5:Option Addr) (n5 c5:Nat) (a6:Option Addr) (n6 c6:Nat),s5=.pointer (some ⟨g,0,none⟩)/\Hid (Blk wx g #[.bool (decide (z.num<0)),.slice a5 n5 c5,.slice a6 n6 c6] 81)/\Hid (n5=(limbs z.num.natAbs).length)/\Hid (Below W.heap.size W wx))
 case first=>
  refine a0j [0,1] 4 (fun w'=>w'.cell? ⟨w.heap.size,0,none⟩=some (.bool m)/\w'.cell? ⟨w.heap.size,1,none⟩=some (.slice a n c)/\w'.cell? ⟨w.heap.size,2,none⟩=some (.slice a' n' c')/\w'.cell? ⟨w.heap.size+1,0,none⟩=some (.bool m2)/\w'.cell? ⟨w.heap.size+1,1,none⟩=some (.slice b j d)/\w'.cell? ⟨w.heap.size+1,2,none⟩=some (.slice b' j' d')) (by kernel_rfl) (by kernel_rfl) (by kernel_rfl) (by kernel_rfl) (KK.out _ br0.drew) ?_
  iterate 2
   refine⟨_,rfl,?_⟩;apply Exists.intro
   refine⟨.inl ⟨by rfl,?_⟩,?_⟩
   .rintro W' ⟨q1,q2,q3,q4,q5,q6⟩;go_simp;try with_reducible rfl
   go_frame
  refine c0M (i:=2) (j:=4) (by kernel_rfl) (by rfl) (by rfl) (by rfl) (by rfl) ?_ ?_
  focus
   go_wp2_with fail;refine nu (HG _ _ (Q2.out.call br0.drew)) fun v3 w3 hv3 hb3=>?_;obtain⟨x3,N3⟩:=zu (show Below W.heap.size W w3 from br0.drew.trans hb3) hv3;obtain⟨m5,a5,n5,c5,a6,n6,c6,rfl⟩:=hv3.qv;clear hb3 hv3;go_wp2_with fail;refine⟨KK.out _ x3.out,?_⟩;refine c0M (i:=3) (j:=4) (by kernel_rfl) (by rfl) (by rfl) (by rfl) (by rfl) ?_ ?_
   .go_wp2_with fail;refine nu (HO _ _ _ (Q1.out.call x3.out) N3.out) fun v4 w4 hv4 hb4=>?_;have x4:=qx x3 hb4;obtain⟨N,D,rfl,h1,h2⟩:=hv4.ex;obtain⟨a7,c7,rfl,-⟩:=h1.openI;obtain⟨a8,c8,rfl,-⟩:=h2.openI;clear hb4 hv4 h1 h2;go_wp2_with fail;refine⟨KK.out _ x4.out,?_⟩;refine a0c (i:=4) (by kernel_rfl) rfl rfl ?_;go_wp2_with fail;refine⟨KK.out _ (x4.out.alloc x4.out.size _),?_⟩;refine a0c (i:=5) (by kernel_rfl) rfl rfl ?_;go_wp2_with fail;refine⟨KK.out _ (x4.out.alloc x4.out.size _),?_⟩;refine J8 (by kernel_rfl) ?_ _;simp only[b0b];go_wp2_with fail
    go_meet
    exact⟨_,_,_,_,_,_,_,rfl,Blk.new w4 _ _,rfl,x4.out.alloc x4.out.size _⟩
   focus
    go_wp2_with fail;obtain⟨A3,b3,n3⟩:=zg (x3.out.alloc x3.out.size (.cells #[.bool false,.slice none 0 0,.slice none 0 0] 81)) (Blk.new w3 #[.bool false,.slice none 0 0,.slice none 0 0] 81) (N3.out.call (br0.alloc nr (.cells #[.bool false,.slice none 0 0,.slice none 0 0] 81)));refine⟨KK.out _ A3.out,?_⟩;refine a0c (i:=3) (by kernel_rfl) rfl rfl ?_;go_wp2_with fail;refine nu (HO _ _ _ (Q1.out.call A3.out) n3.out) fun v4 w4 hv4 hb4=>?_;have x4:=qx A3 hb4;have b4:=hid (b3.out.call hb4);obtain⟨N,D,rfl,h1,h2⟩:=hv4.ex;obtain⟨a7,c7,rfl,-⟩:=h1.openI;obtain⟨a8,c8,rfl,-⟩:=h2.openI;obtain⟨t0,t1,t2⟩:=qz b4.out;obtain⟨t3,t4,t5⟩:=qq b4.out;have ge:=hid (show W.heap.size<=w3.heap.size from x3.out.size)
  rotate_left
  focus
   go_wp2_with fail;obtain⟨A0,b0⟩:=zu (show Below W.heap.size W (W.alloc (.cells #[.bool false,.slice none 0 0,.slice none 0 0] 81)).drew from (br0.alloc nr _).drew) (show Blk (W.alloc (.cells #[.bool false,.slice none 0 0,.slice none 0 0] 81)).drew W.heap.size #[.bool false,.slice none 0 0,.slice none 0 0] 81 from Blk.new W _ _);refine⟨KK.out _ A0.out,?_⟩;refine a0c (i:=2) (by kernel_rfl) rfl rfl ?_;go_wp2_with fail;refine nu (HG _ _ (Q2.out.call A0.out)) fun v3 w3 hv3 hb3=>?_;obtain⟨x3,b3,N3⟩:=zg (A0.out.trans (hb3.mono A0.out.size)) (b0.out.call hb3) hv3;obtain⟨m5,a5,n5,c5,a6,n6,c6,rfl⟩:=hv3.qv;clear hb3 hv3;go_wp2_with fail;refine⟨KK.out _ x3.out,?_⟩;refine a0c (i:=3) (by kernel_rfl) rfl rfl ?_;go_wp2_with fail;refine nu (HO _ _ _ (Q1.out.call x3.out) N3.out) fun v4 w4 hv4 hb4=>?_;have x4:=qx x3 hb4;have b4:=hid (b3.out.call hb4);obtain⟨N,D,rfl,h1,h2⟩:=hv4.ex;obtain⟨a7,c7,rfl,-⟩:=h1.openI;obtain⟨a8,c8,rfl,-⟩:=h2.openI;obtain⟨t0,t1,t2⟩:=qz b4.out;obtain⟨t3,t4,t5⟩:=qq b4.out;have ge:=hid (O4 W.heap.size)
  all_goals
   obtain⟨k7,hk7⟩:=gn ((limbs z.num.natAbs).length);obtain⟨k8,hk8⟩:=gn ((limbs z.den).length);obtain⟨mz,hmz⟩:=gn (decide (z.num<0));rw[hk7,hk8,hmz];obtain⟨HK7,HMZ⟩:=zu hk7 hmz;clear hb4 hv4 h1 h2 hk7 hk8 hmz;go_wp2_with fail;refine⟨KK.out _ x4.out,?_⟩;refine a0c (i:=5) (by kernel_rfl) rfl rfl ?_;go_wp2_with fail;obtain⟨s1,s2⟩:=c0C b4.out mz a7 a8 k7 c7 k8 c8;obtain⟨x5,S2⟩:=zu (a0X (a0X (a0X x4.out (i:=0) ge.out (.bool mz)) (i:=1) ge.out (.slice a7 k7 c7)) (i:=2) ge.out (.slice a8 k8 c8)) s2;clear s1 s2 t0 t1 t2 t3 t4 t5;refine⟨KK.out _ x5.out,?_⟩;refine J8 (by kernel_rfl) ?_ _;simp only[b0b];go_wp2_with fail
   go_meet
   exact⟨_,_,_,_,_,_,_,rfl,by rw[HMZ.out];exact S2,HK7.out.symm,x5⟩
 case rest=>
  obtain⟨g,a5,n5,c5,a6,n6,c6,rfl,hB,hn,hW⟩:=hcut;have r0:=hB.out.cell 0;have r1:=hB.out.cell 1;simp at r0 r1;have yz:=qx HY hW.out;by_cases h1:z.num=0
  .have es:Hid (n0z z=0):=by show n0z z=0;rw[n0z,J3 h1]
   obtain rfl:n5=0:=by rw[hn.out,h1];exact f0R.2 rfl
   clear h1;go_wp2_with fail;go_ret
   exact⟨by rw[es.out];rfl,yz.out⟩
  .have h2:n5≠0:=fun e=>h1 (by rw[hn.out]at e;have:=f0R.1 e;omega)
   have q1:((n5:Int)==0)=false:=by simp;omega
   obtain⟨mm,hmm⟩:=gn (decide (z.num<0));have es:n0z z=if mm=true then -1 else 1:=by
    rw[n0z,J2 h1,<- hmm];simp
   have ES:=hid es;rw[hmm]at r0;clear h1 h2 es hmm;cases mm
   all_goals
    go_wp2_with fail;go_ret
    exact⟨by rw[ES.out];rfl,yz.out⟩
def w0w (w:World)(s t:ByteArray)(hs:s.size<=1000000)(ht:t.size<=1000000):
 qb 119 #[.string s,.string t] w (.tuple #[.int .i64 (cmB s t),.int .i64 (cmE s t)]):=by
 have R1:=fun V=>hid (w0u V s t hs ht)
 clear hs ht;by_cases h0:qE s=0/\qE t=0
 .have eB:cmB s t=g0f (vQ s) (vQ t):=by rw[cmB,J3 h0]
  have eE:cmE s t=0:=by rw[cmE,J3 h0.1,h0.2]
  rw[eB,eE];have ds:=c0A (d0C h0.1);have dt:=c0A (d0C h0.2);have HO:=fun V v u hp hq=>hid (u0C V v u (vQ s) (vQ t) hp hq ds dt)
  obtain⟨o,ho⟩:=gn (g0f (vQ s) (vQ t));rw[ho]at HO |-;have H0:=hid h0;clear eB eE ds dt ho h0;go_enter func119,ntmps119;go_wp2_with fail;refine (R1 _).out.mono ?_;rintro e w1 ⟨⟨m,a,n,c,a',n',c',m2,b,j,d,b',j',d',rfl,hq⟩,hb1⟩;obtain⟨q1,q2⟩:=hq H0.out.1 H0.out.2;rw[J3 H0.out.1,H0.out.2];have b0:=((J4 w1.heap.size w1).alloc nr (.cells #[.bool m,.slice a n c,.slice a' n' c'] 81)).alloc (by simp) (.cells #[.bool m2,.slice b j d,.slice b' j' d'] 81);have y2:=hid (a0a hb1 b0);have H1:=HO _ _ _ (q1.call b0) (q2.call b0);clear hb1 q1 q2 hq b0 HO R1;go_wp2_with fail;refine nw H1 y2 fun w2 y3=>?_;clear H1;go_wp2_with fail;go_ret2
  exact⟨rfl,y3.out⟩
 .obtain⟨n0,-,-⟩:=y0m (f:=(· - ·)) h0;rw[cmB,J2 h0,cmE];obtain⟨x,hx⟩:=gn ((if qE s=0 then qE t else qE s));rw[hx]at n0 |-;have q0:(x != 0)=true:=by simpa using n0
  have HX:=hid hx;clear h0 n0 hx;go_enter func119,ntmps119;go_wp2_with fail;refine (R1 _).out.mono ?_;rintro e w1 ⟨⟨m,a,n,c,a',n',c',m2,b,j,d,b',j',d',rfl,-⟩,hb1⟩;rw[HX.out];have y2:=hid ((hb1.alloc hb1.size (.cells #[.bool m,.slice a n c,.slice a' n' c'] 81)).alloc (J0 hb1.size (by simp)) (.cells #[.bool m2,.slice b j d,.slice b' j' d'] 81));clear hb1;go_wp2_with fail;go_ret2
  exact⟨rfl,y2.out⟩
def w0z {q:Rat}(h:0<=q.num)(n:Nat):(q ^ n).num.natAbs=q.num.natAbs ^ n/\(q ^ n).den=q.den ^ n/\decide ((q ^ n).num<0)=false:=by
 have h1:0<=q.num ^ n:=Int.pow_nonneg h;refine⟨by rw[Rat.num_pow,Int.natAbs_pow],Rat.den_pow q n,?_⟩;rw[Rat.num_pow];simpa using h1
def p0e (w:World)(s:ByteArray)(n:Nat)(hs:s.size<=1000000)(hq:qE s=0)(h0:0<=(vQ s).num)(hn:n<=1000000000):
 qb 58 #[.string s,.int .i64 (n:Nat)] w (.tuple #[.string (c0b (vQ s ^ n)),.int .i64 (c0p (vQ s ^ n))]):=by
 have R1:=hid (d0k w s hs);obtain⟨p1,p2,p3⟩:=w0z h0 n;have fits:=d0C hq;have P1:=fun V v h=>hid (g0C V v (vQ s).num.natAbs n h (by unfold ovQ at fits;omega) (by omega))
 have P2:=fun V v h=>hid (g0C V v (vQ s).den n h (by unfold ovQ at fits;omega) (by omega))
 have PW:=fun V v h (h1:nDigits ((vQ s).num.natAbs ^ n)<=4000) (h2:nDigits ((vQ s).den ^ n)<=4000)=>hid (c0F V v (vQ s ^ n) h (by rw[p1];exact J0 (a0n h1) (by omega)) (by rw[p2];exact J0 (a0n h2) (by omega)))
 have OV:=hid (fun (h:4000<nDigits ((vQ s).num.natAbs ^ n)\/4000<nDigits ((vQ s).den ^ n))=>(show c0b (vQ s ^ n)=⟨#[]⟩/\c0p (vQ s ^ n)=5 from by
  have:ovQ (vQ s ^ n):=by unfold ovQ;rw[p1,p2];exact h
  exact⟨J3 this,J3 this⟩))
 have t1:decide ((n:Int)<0)=false:=by simp
 have t2:((n:Int) == -9223372036854775808)=false:=by rw[M5];omega
 have m0:decide ((vQ s).num<0)=false:=by simpa using h0
 obtain⟨HQ,HP1,HP2,HP3,HM0⟩:=zd hq p1 p2 p3 m0;clear hs hq p1 p2 p3 h0 m0 fits;go_enter func58,ntmps58;go_wp2_with fail;refine R1.out.mono ?_;rintro e w1 ⟨⟨v,rfl,hv,-⟩,hb1⟩;obtain⟨N,D,rfl,hN,hD⟩:=(hv HQ.out).ex;obtain⟨HN,HD⟩:=zu hN hD;obtain⟨a1,c1,rfl,-⟩:=hN.openI;obtain⟨a2,c2,rfl,-⟩:=hD.openI;rw[HM0.out,HQ.out];obtain⟨k1,hk1⟩:=gn ((limbs (vQ s).num.natAbs).length);obtain⟨k2,hk2⟩:=gn ((limbs (vQ s).den).length);rw[hk1]at HN |-;rw[hk2]at HD |-;obtain⟨y1,X1,A1⟩:=zg hb1 (Blk.new w1 #[.bool false,.slice a1 k1 c1,.slice a2 k2 c2] 81) ((J4 w1.heap.size w1).alloc nr (.cells #[.bool false,.slice a1 k1 c1,.slice a2 k2 c2] 81));clear hb1 hv hN hD hk1 hk2;go_wp2_with fail;refine (P1 _ _ (HN.out.call A1.out)).out.mono ?_;rintro e w2 ⟨h,hb2⟩;obtain⟨X2,y2,D2⟩:=zg (X1.out.call hb2) (a0a (a0a y1.out A1.out) hb2) ((HD.out.call A1.out).call hb2);have r2:=X2.out.cell 2;simp at r2;rcases h with ⟨d1,v3,rfl,hv3⟩ | ⟨d1,rfl⟩
 .obtain⟨N2,DD1⟩:=zu hv3 d1;obtain⟨a3,c3,rfl,-⟩:=hv3.openI;obtain⟨k3,hk3⟩:=gn ((limbs ((vQ s).num.natAbs ^ n)).length);rw[hk3]at N2 |-;clear hb2 hv3 d1 hk3;go_wp2_with fail;refine (P2 _ _ D2.out).out.mono ?_;rintro e w3 ⟨h,hb3⟩;have y3:=qx y2 hb3;have N3:=hid (N2.out.call hb3);rcases h with ⟨d2,v4,rfl,hv4⟩ | ⟨d2,rfl⟩
  .obtain⟨D3,DD2⟩:=zu hv4 d2;obtain⟨a4,c4,rfl,-⟩:=hv4.openI;obtain⟨k4,hk4⟩:=gn ((limbs ((vQ s).den ^ n)).length);rw[hk4]at D3 |-;have iq:IsQ .i64 w3 (.agg #[.bool false,.slice a3 k3 c3,.slice a4 k4 c4]) (vQ s ^ n):=⟨.slice a3 k3 c3,.slice a4 k4 c4,by rw[HP3.out],by rw[HP1.out];exact N3.out,by rw[HP2.out];exact D3.out⟩;have IQ:=hid iq;clear hb3 hv4 d2 hk4 iq;go_wp2_with fail;refine nw (PW _ _ IQ.out DD1.out DD2.out) y3 fun w4 y4=>?_;go_wp2_with fail;go_ret2
   exact⟨rfl,y4.out⟩
  .obtain⟨o1,o2⟩:=OV.out (.inr d2);obtain⟨O1,O2⟩:=zu o1 o2;clear hb3 d2 o1 o2;go_wp2_with fail;go_ret2
   exact⟨by rw[O1.out,O2.out];rfl,y3.out⟩
 .obtain⟨o1,o2⟩:=OV.out (.inl d1);obtain⟨O1,O2⟩:=zu o1 o2;clear hb2 d1 o1 o2;go_wp2_with fail;refine (P2 _ _ D2.out).out.mono ?_;rintro e w3 ⟨h,hb3⟩;have y3:=qx y2 hb3;rcases h with ⟨-,v4,rfl,hv4⟩ | ⟨-,rfl⟩
  all_goals
   try obtain⟨a4,c4,rfl,-⟩:=hv4.openI
   try clear hv4
   clear hb3;go_wp2_with fail;go_ret2
   exact⟨by rw[O1.out,O2.out];rfl,y3.out⟩
open Go.Shelf
def a1L (w:World)(s t:ByteArray)(hs:s.size<=1000000)(ht:t.size<=1000000):
 qb 56 #[.string s,.string t] w (.tuple #[.string (mnB s t),.int .i64 (cmE s t)]):=by
 have H:=hid (w0w w s t hs ht);unfold mnB;have h3:=l0A s t;obtain⟨B,hB⟩:=gn (cmB s t);obtain⟨E,hE⟩:=gn (cmE s t);rw[hB]at h3;rw[hB,hE]at H |-;clear hB hE hs ht;by_cases he:E=0
 .subst he;rcases h3 with rfl | rfl | rfl
  .go_enter func56,ntmps56;go_wp2_with fail;refine nz H fun w3 y3=>?_;go_wp2_with fail;go_ret2
   exact⟨rfl,y3.out⟩
  .go_enter func56,ntmps56;go_wp2_with fail;refine nz H fun w3 y3=>?_;go_wp2_with fail;go_ret2
   exact⟨rfl,y3.out⟩
  .go_enter func56,ntmps56;go_wp2_with fail;refine nz H fun w3 y3=>?_;go_wp2_with fail;go_ret2
   exact⟨rfl,y3.out⟩
 .rw[J2 he];have q1:(E != 0)=true:=by simpa using he
  clear he h3;go_enter func56,ntmps56;go_wp2_with fail;refine nz H fun w3 y3=>?_;go_wp2_with fail;go_ret2
  exact⟨rfl,y3.out⟩
def x0T (w:World)(s:ByteArray)(n:Nat)(hs:s.size<=1000000)(hq:qE s=0)(h0:0<(vQ s).num)(hn1:1<=n)(hn:n<=1000000000):
 qb 58 #[.string s,.int .i64 (-(n:Int))] w (.tuple #[.string (h0Y n s),.int .i64 (l0M n s)]):=by
 have e1:h0Y n s=c0b ((vQ s)⁻¹ ^ n):=J3 hq;have e2:l0M n s=c0p ((vQ s)⁻¹ ^ n):=J3 hq;rw[e1,e2];clear e1 e2;have R1:=hid (d0k w s hs);have hne:vQ s≠0:=fun e=>by rw[e]at h0;exact absurd h0 (by decide)
 obtain⟨i1,i2,i3⟩:=d0p hne;have fits:=d0C hq;have m0:decide ((vQ s).num<0)=false:=Z6 (by omega);have g0:0<=((vQ s)⁻¹).num:=by rw[m0]at i1;simpa using i1
 have RO:=fun V v h=>hid (r0g V v (vQ s) h hne)
 have l0:(limbs (vQ s).num.natAbs).length≠0:=fun e=>by rw[f0R]at e;omega
 obtain⟨q,hqq⟩:=gn (vQ s);obtain⟨p,hp⟩:=gn ((vQ s)⁻¹);rw[hp]at RO i2 i3 g0 |-;rw[hp]at i1;obtain⟨p1,p2,p3⟩:=w0z g0 n;have P1:=fun V v h=>hid (g0C V v p.num.natAbs n h (by rw[i2];unfold ovQ at fits;omega) (by omega))
 have P2:=fun V v h=>hid (g0C V v p.den n h (by rw[i3];unfold ovQ at fits;omega) (by omega))
 have PW:=fun V v h (h1:nDigits (p.num.natAbs ^ n)<=4000) (h2:nDigits (p.den ^ n)<=4000)=>hid (c0F V v (p ^ n) h (by rw[p1];exact J0 (a0n h1) (by omega)) (by rw[p2];exact J0 (a0n h2) (by omega)))
 have OV:=hid (fun (h:4000<nDigits (p.num.natAbs ^ n)\/4000<nDigits (p.den ^ n))=>(show c0b (p ^ n)=⟨#[]⟩/\c0p (p ^ n)=5 from by
  have:ovQ (p ^ n):=by unfold ovQ;rw[p1,p2];exact h
  exact⟨J3 this,J3 this⟩))
 obtain⟨z,hz⟩:∃ z:Int,-(n:Int)=z:=⟨_,rfl⟩;have t1:decide (z<0)=true:=Z7 (by omega);have t2:(z == -9223372036854775808)=false:=by rw[M5];omega
 have wz:IntKind.i64.wrap (-z)=(n:Int):=by rw[U0 _ ⟨by omega,by omega⟩];omega
 have m1:decide (p.num<0)=false:=Z6 (by omega);rw[hz];obtain⟨HQ,HP1,HP2,HP3,HM0,HM1,L0⟩:=kx hq p1 p2 p3 m0 m1 l0;clear hs hq p1 p2 p3 h0 m0 fits hne i1 i2 i3 g0 l0 hp hqq hz m1 hn hn1;go_enter func58,ntmps58;go_wp2_with fail;refine R1.out.mono ?_;rintro e w1 ⟨⟨v,rfl,hv,-⟩,hb1⟩;have HV:=hid (hv HQ.out);obtain⟨N,D,rfl,hN,hD⟩:=(hv HQ.out).ex;obtain⟨a1,c1,rfl,-⟩:=hN.openI;obtain⟨a2,c2,rfl,-⟩:=hD.openI;rw[HM0.out]at HV;rw[HM0.out,HQ.out];have hl1:=L0.out;obtain⟨k1,hk1⟩:=gn ((limbs (vQ s).num.natAbs).length);obtain⟨k2,hk2⟩:=gn ((limbs (vQ s).den).length);rw[hk1]at hl1;rw[hk1,hk2]at HV;rw[hk1,hk2];have t3:((k1:Int)==0)=false:=by rw[M5];omega
 obtain⟨y1,X1,A1⟩:=zg hb1 (Blk.new w1 #[.bool false,.slice a1 k1 c1,.slice a2 k2 c2] 81) ((J4 w1.heap.size w1).alloc nr (.cells #[.bool false,.slice a1 k1 c1,.slice a2 k2 c2] 81));have HV1:=hid (HV.out.call A1.out);obtain⟨f0,f1,f2⟩:=qz X1.out;clear hb1 hv hN hD hk1 hk2 hl1;go_wp2_with fail;refine nu (RO _ _ HV1.out) fun v2 w2 hv2 hb2=>?_;obtain⟨N2,D2,rfl,hN2,hD2⟩:=hv2.ex;obtain⟨a3,c3,rfl,-⟩:=hN2.openI;obtain⟨a4,c4,rfl,-⟩:=hD2.openI;rw[HM1.out];obtain⟨k3,hk3⟩:=gn ((limbs p.num.natAbs).length);obtain⟨k4,hk4⟩:=gn ((limbs p.den).length);rw[hk3]at hN2 |-;rw[hk4]at hD2 |-;obtain⟨X2,y2⟩:=zu (X1.out.call hb2) (a0a (a0a y1.out A1.out) hb2);clear f0 f1 f2;obtain⟨d0,d1,d2⟩:=qz X2.out;obtain⟨e0,e1,e2⟩:=qq X2.out;obtain⟨s1,s2⟩:=c0C X2.out false a3 a4 k3 c3 k4 c4;obtain⟨g0,g1,g2⟩:=qz s2;obtain⟨HN,HD,X3⟩:=zg (s1 _ _ _ hN2) (s1 _ _ _ hD2) s2;clear hb2 hv2 hN2 hD2 hk3 hk4 s1 s2;have Y3:=hid (((y2.out.setCell (p:=⟨w1.heap.size,0,none⟩) y1.out.size (.bool false)).setCell (p:=⟨w1.heap.size,1,none⟩) y1.out.size (.slice a3 k3 c3)).setCell (p:=⟨w1.heap.size,2,none⟩) y1.out.size (.slice a4 k4 c4));go_wp2_with fail;obtain⟨gx,hgx⟩:=gn (w1.heap.size);rw[hgx]at X3 HN HD Y3 |-;obtain⟨w3,hw3⟩:=gn (((w2.setCell ⟨gx,0,none⟩ (.bool false)).setCell ⟨gx,1,none⟩ (.slice a3 k3 c3)).setCell ⟨gx,2,none⟩ (.slice a4 k4 c4));rw[hw3]at X3 HN HD Y3 |-;clear d0 d1 d2 e0 e1 e2 g0 g1 g2 hw3 hgx;refine (P1 _ _ HN.out).out.mono ?_;rintro e w4 ⟨h,hb4⟩;have X4:=hid (X3.out.call hb4);have y4:=qx Y3 hb4;have D4:=hid (HD.out.call hb4);have r2:=X4.out.cell 2;simp at r2;rcases h with ⟨d1,v3,rfl,hv3⟩ | ⟨d1,rfl⟩
 .obtain⟨N4,DD1⟩:=zu hv3 d1;obtain⟨a5,c5,rfl,-⟩:=hv3.openI;obtain⟨k5,hk5⟩:=gn ((limbs (p.num.natAbs ^ n)).length);rw[hk5]at N4 |-;clear hb4 hv3 d1 hk5;go_wp2_with fail;refine (P2 _ _ D4.out).out.mono ?_;rintro e w5 ⟨h,hb5⟩;have y5:=qx y4 hb5;have N5:=hid (N4.out.call hb5);rcases h with ⟨d2,v4,rfl,hv4⟩ | ⟨d2,rfl⟩
  .obtain⟨D5,DD2⟩:=zu hv4 d2;obtain⟨a6,c6,rfl,-⟩:=hv4.openI;obtain⟨k6,hk6⟩:=gn ((limbs (p.den ^ n)).length);rw[hk6]at D5 |-;have iq:IsQ .i64 w5 (.agg #[.bool false,.slice a5 k5 c5,.slice a6 k6 c6]) (p ^ n):=⟨.slice a5 k5 c5,.slice a6 k6 c6,by rw[HP3.out],by rw[HP1.out];exact N5.out,by rw[HP2.out];exact D5.out⟩;have IQ:=hid iq;clear hb5 hv4 d2 hk6 iq;go_wp2_with fail;refine nw (PW _ _ IQ.out DD1.out DD2.out) y5 fun w6 y6=>?_;go_wp2_with fail;go_ret2
   exact⟨rfl,y6.out⟩
  .obtain⟨o1,o2⟩:=OV.out (.inr d2);obtain⟨O1,O2⟩:=zu o1 o2;clear hb5 d2 o1 o2;go_wp2_with fail;go_ret2
   exact⟨by rw[O1.out,O2.out];rfl,y5.out⟩
 .obtain⟨o1,o2⟩:=OV.out (.inl d1);obtain⟨O1,O2⟩:=zu o1 o2;clear hb4 d1 o1 o2;go_wp2_with fail;refine (P2 _ _ D4.out).out.mono ?_;rintro e w5 ⟨h,hb5⟩;have y5:=qx y4 hb5;rcases h with ⟨-,v4,rfl,hv4⟩ | ⟨-,rfl⟩
  all_goals
   try obtain⟨a6,c6,rfl,-⟩:=hv4.openI
   try clear hv4
   clear hb5;go_wp2_with fail;go_ret2
   exact⟨by rw[O1.out,O2.out];rfl,y5.out⟩
def Oa:=@Rat.pow_zero
def r0f (w:World)(s:ByteArray)(n:Nat)(z:Int)(hs:s.size<=1000000)(hq:qE s=0)(h0:0<(vQ s).num)(hn:n<=1000000000)(hz:z = -(n:Int)):
 qb 58 #[.string s,.int .i64 z] w (.tuple #[.string (h0Y n s),.int .i64 (l0M n s)]):=by
 subst hz;by_cases h:n=0
 .subst h;have e1:h0Y 0 s=c0b (vQ s ^ 0):=by
   unfold h0Y z0U;rw[J3 hq];show c0b ((vQ s)⁻¹ ^ 0)=_
   rw[Oa,Oa]
  have e2:l0M 0 s=c0p (vQ s ^ 0):=by
   unfold l0M b1b;rw[J3 hq];show c0p ((vQ s)⁻¹ ^ 0)=_
   rw[Oa,Oa]
  rw[e1,e2];exact p0e w s 0 hs hq (by omega) (by omega)
 .exact x0T w s n hs hq h0 (by omega) hn
def e0Y (w:World)(a:ByteArray)(ha:a.size<=100000)(hL:Lay w):
 qb 107 #[.string a] w (.int .i64 (gPE a)):=by
 have HG:=hid (c1U w a ⟨#[]⟩ ha (by decide) hL);rw[v0u]at HG;obtain⟨t,ht⟩:=gn (oT a ⟨#[]⟩);obtain⟨x,hx⟩:=gn (gPE a);rw[ht,hx]at HG;rw[hx];obtain⟨d,v,u⟩:=t;simp only[d3]at HG;clear ha hL ht hx;go_enter func107,ntmps107;go_wp2_with fail;refine ny HG fun w1 hb1=>?_;go_wp2_with fail;go_ret
 exact⟨rfl,hb1.alloc hb1.size _⟩
def q0F (w:World)(u:Int):Calls prog 185 #[.int .i64 u] w fun e w'=>e=.returned (.bool (d0z u))/\w=w':=by
 unfold d0z;obtain⟨a,ha⟩:=gn (decide (u < -1125899906842624));obtain⟨b,hb⟩:=gn (decide (1125899906842624<u));rw[ha,hb];cases a
 .go_enter func185,ntmps185;go_wp2_with fail;go_ret
  exact⟨rfl,rfl⟩
 .clear hb;go_enter func185,ntmps185;go_wp2_with fail;go_ret
  exact⟨rfl,rfl⟩
def h0e (w:World)(s t:ByteArray)(hs:s.size<=1000000)(ht:t.size<=1000000)(hL:Lay w):
 qb 108 #[.string s,.string t] w (.string (b0D (· + ·) s t)):=by
 have H:=hid (c1L w s t hs ht hL);obtain⟨B,hB⟩:=gn (b0D (· + ·) s t);obtain⟨E,hE⟩:=gn (f0F (· + ·) s t);rw[hB,hE]at H;rw[hB];clear hs ht hL hB hE;go_enter func108,ntmps108;go_wp2_with fail;refine ny H fun w1 hb1=>?_;go_wp2_with fail;go_ret
 exact⟨rfl,hb1⟩
def q0G (w:World)(s t:ByteArray)(hs:s.size<=1000000)(ht:t.size<=1000000)(hL:Lay w):
 qb 125 #[.string s,.string t] w (.string (b0D (· - ·) s t)):=by
 have H:=hid (c1H w s t hs ht hL);obtain⟨B,hB⟩:=gn (b0D (· - ·) s t);obtain⟨E,hE⟩:=gn (f0F (· - ·) s t);rw[hB,hE]at H;rw[hB];clear hs ht hL hB hE;go_enter func125,ntmps125;go_wp2_with fail;refine ny H fun w1 hb1=>?_;go_wp2_with fail;go_ret
 exact⟨rfl,hb1⟩
def d0W (w:World)(s t:ByteArray)(hs:s.size<=1000000)(ht:t.size<=1000000)(hL:Lay w):
 qb 109 #[.string s,.string t] w (.string (b0D (· * ·) s t)):=by
 have H:=hid (a1S w s t hs ht hL);obtain⟨B,hB⟩:=gn (b0D (· * ·) s t);obtain⟨E,hE⟩:=gn (f0F (· * ·) s t);rw[hB,hE]at H;rw[hB];clear hs ht hL hB hE;go_enter func109,ntmps109;go_wp2_with fail;refine ny H fun w1 hb1=>?_;go_wp2_with fail;go_ret
 exact⟨rfl,hb1⟩
def orZ:List Int->Int
 | []=>0
 | x::r=>if x≠0 then x else orZ r
theorem r0F:∀ {l:List Int} {i:Nat},(∀ (j:Nat) (x:Int),j<i->l[j]?=some x->x=0)->orZ l=orZ (l.drop i)
 | [],i,_=>by simp[orZ]
 | b::r,0,_=>rfl
 | b::r,i+1,h=>by
  have h1:=h 0 b (by omega) rfl;have h3:=r0F (l:=r) (i:=i) (fun j c hj hc=>h (j+1) c (by omega) (by simpa using hc));rw[orZ,J2 (by simp[h1]),h3]
  rfl
def o0Y (w:World)(v:Value)(l:List Int)(hv:Row w v (zs l)):
 Calls prog 77 #[v] w fun e w'=>e=.returned (.int .i64 (orZ l))/\w=w':=by
 obtain⟨a,c,rfl,q1,q2,q3⟩:=hv.openZ;obtain⟨n,hn⟩:=gn (l.length);obtain⟨X,hX⟩:=gn (orZ l);rw[hn]at q1 |-;rw[hX];obtain⟨HN,Q3,HX⟩:=zg hn q3 hX;clear hv q3 hn hX;go_enter func77,ntmps77;go_wp2_with fail
 go_loop [8] (fun ii=>∃ i:Nat,ii=.int .i64 i/\i<=n/\Hid (∀ (j:Nat) (x:Int),j<i->l[j]?=some x->x=0)) (fun ii=>n-(intOf ii).toNat)
 case atStart=>exact⟨0,rfl,K5 _,fun j x hj=>absurd hj (by omega)⟩
 case round=>
  obtain⟨i,rfl,hi,hI⟩:=hrel;by_cases hlt:i<n
  .obtain⟨x,hx⟩:∃ x,l[i]?=some x:=⟨_,Q0 (by rw[HN.out];exact hlt)⟩;obtain⟨g,o,rfl,hg,hc⟩:=Q3.out i x hx;have hdrop:l.drop i=x::l.drop (i+1):=by
    have hil:i<l.length:=by rw[HN.out];exact hlt
    rw[S9 hil];have:=Q0 hil;rw[hx]at this;rw[Ag this]
   obtain⟨HXX,HD⟩:=zu hx hdrop;have b1:=qw i
   have b2:(i:Int)<(n:Int):=by omega
   have wi:=qy i (by omega)
   clear hx hdrop;by_cases hx0:x=0
   .have HZ:=hid hx0;have q0:(x==0)=true:=by rw[Fi];exact hx0
    clear hx0;go_wp2_with fail;go_round
    case rel=>exact⟨i+1,by go_num,by omega,fun j y hj hy=>by
     rcases Ct j i with h | h
     .exact hI.out j y h hy
     .obtain rfl:j=i:=by omega
      rw[HXX.out]at hy;cases hy;exact HZ.out⟩
    case measure=>simp[intOf]<;>omega
   .have q0:(x==0)=false:=by rw[M5];exact hx0
    have HE:Hid (X=x):=by
     show X=x
     rw[<- HX.out,r0F hI.out,HD.out,orZ,J3 hx0]
    clear hx0;go_wp2_with fail;go_ret
    exact⟨by rw[HE.out];rfl,rfl⟩
  .obtain rfl:i=n:=by omega
   have HE:Hid (X=0):=by
    show X=0
    have hd:l.drop i = []:=Ia (by rw[HN.out];exact O4 _);rw[<- HX.out,r0F hI.out,hd];rfl
   have q0:decide ((i:Int)<(i:Int))=false:=by simp
   clear hlt;go_wp2_with fail;go_ret
   exact⟨by rw[HE.out];rfl,rfl⟩
end
section
open Go.Shelf
def b0V (w:World)(p q:Int)(t:TypeId):Row (w.alloc (.cells #[.int .i64 p,.int .i64 q] t)) (.slice (some ⟨w.heap.size,0,none⟩) 2 2) (zs [p,q]):=by
 refine Row.of_blk (n:=2) (xs:=zs [p,q]) (Blk.new w #[.int .i64 p,.int .i64 q] t) rfl (by decide) (fun i x hx=>?_) nr (by decide)
 match i,hx with
 | 0,hx=>exact hx
 | 1,hx=>exact hx
 | i+2,hx=>simp[zs]at hx
end
def o0n {x m:Nat}(hx:x<=2 ^ m)(h:m<=1000):(dyB x m).size<=10000:=by unfold dyB shB;exact c0W _
section
open Go.Shelf
def j0v {W:World}{base:Nat}{e:TypeId}{k g n cap:Nat}{xs:List Value}(h:W.ownsRow base e k (.slice (some ⟨g,0,none⟩) n cap) n xs)(i:Nat)(x:Value):(W.setCell ⟨g,i,none⟩ x).ownsRow base e k (.slice (some ⟨g,0,none⟩) n cap) n (xs.set i x):=by
 rcases h.2 with ⟨e1,_⟩ | ⟨g',cap',cur,e1,hb,hg,h1,h2,h3,h4⟩
 .simp at e1
 .simp at e1;obtain⟨rfl,rfl⟩:=e1;refine⟨by rw[Bj];exact h.1,.inr ⟨g,cap,cur.setIfInBounds i x,rfl,hb,Blk.set hg i x,h1,h2,by simpa using h3,?_⟩⟩;rw[Ir,Mj,h4]
theorem d0F {W:World}{base:Nat}{e:TypeId}{k g n cap:Nat}{xs:List Value}(h:W.ownsRow base e k (.slice (some ⟨g,0,none⟩) n cap) n xs):base<=g/\g<W.heap.size/\(∀ i,W.frozen? ⟨g,i,none⟩=false)/\(∀ (i:Nat) (x:Value),xs[i]?=some x->W.cell? ⟨g,i,none⟩=some x)/\cap<=9223372036854775807/\n<=cap:=by
 have hh:=h;rcases h.2 with ⟨e1,_⟩ | ⟨g',cap',cur,e1,hb,hg,h1,h2,h3,h4⟩
 .simp at e1
 .simp at e1;obtain⟨rfl,rfl⟩:=e1;refine⟨hb,(I7.1 hg).1,fun i=>Blk.free hg i,fun i x hx=>?_,by unfold maxLen at h2;omega,h1⟩;have:=hh.cells rfl i x hx;rw[Addr.add_lit,F9]at this;exact this
def u0Q {W:World}{base:Nat}{e:TypeId}{k g n m cap:Nat}{xs:List Value}(h:W.ownsRow base e k (.slice (some ⟨g,0,none⟩) n cap) n xs)(hm:m<=n):W.ownsRow base e k (.slice (some ⟨g,0,none⟩) m cap) m (xs.take (m*k)):=by
 have hl:=h.1;rcases h.2 with ⟨e1,_⟩ | ⟨g',cap',cur,e1,hb,hg,h1,h2,h3,h4⟩
 .simp at e1
 .simp at e1;obtain⟨rfl,rfl⟩:=e1;have hk:m*k<=n*k:=Ab k hm;refine⟨by rw[Ba,hl];omega,.inr ⟨g,cap,cur,rfl,hb,hg,by omega,h2,h3,?_⟩⟩;rw[<- h4,List.take_take,Gt hk]
theorem g0e {base:Nat}{e:TypeId}{k g n cap:Nat}:∀ (vs:List Value) (o:Nat) {W:World} {xs:List Value},W.ownsRow base e k (.slice (some ⟨g,0,none⟩) n cap) n xs->∃ ys,(W.setCells g o vs).ownsRow base e k (.slice (some ⟨g,0,none⟩) n cap) n ys/\ys.take o=xs.take o
 | [],o,W,xs,h=>⟨xs,h,rfl⟩
 | v::r,o,W,xs,h=>by
  obtain⟨ys,h1,h2⟩:=g0e r (o+1) (j0v h o v);refine⟨ys,h1,?_⟩;have h3:=congrArg (List.take o) h2;rw[List.take_take,List.take_take,Gt (by omega)]at h3;rw[h3,Mj,List.set_eq_of_length_le (by rw[Ba];omega)]
theorem e0s {base g:Nat}(hb:base<=g):∀ (vs:List Value) (o:Nat) {w W:World},Below base w W->Below base w (W.setCells g o vs)
 | [],_,_,_,h=>h
 | v::r,o,w,W,h=>e0s hb r (o+1) (h.setCell hb v)
def p0a (w:World)(t e ty:TypeId)(z:Value)(x y:Value)(ht:prog.underlying t=some (.slice e))(hv:∀ w,(zeroValue e).run prog w=.ok z w)(hz:z.cells = #[x,y])(h1:x.oneCell'=true)(h2:y.oneCell'=true)(b o n c:Nat)(hn:0<n)
 (hc:∀ j,j<n*2->(w.cell? ⟨b,o+j,none⟩).isSome=true) (hf:∀ j,j<n*2->w.frozen? ⟨b,o+j,none⟩=false):
 ∃ vs,(Builtin.clear_ #[t] ty #[.slice (some ⟨b,o,none⟩) n c]).run prog w=.ok (.tuple #[]) (w.setCells b o vs):=by
 obtain⟨vs,hvs⟩:=gn ((Builtin.zeroCells z.cells n).toList);have hlen:vs.length=n*2:=by rw[<- hvs,hz];simp[Builtin.zeroCells]
 have hone:∀ v∈vs,v.oneCell'=true:=by
  intro v hv';rw[<- hvs,hz]at hv';simp[Builtin.zeroCells]at hv';obtain⟨i,hi,rfl⟩:=hv';rcases Is i with h | h<;>simp[h,h1,h2]
 have hst:=run_storeCells_cells (P:=prog) b o vs 0 w (by rw[hlen];simpa using hc) (by rw[hlen];simpa using hf) hone;simp only[At]at hst;refine⟨vs,?_⟩;obtain⟨m,rfl⟩:∃ m,n=m+1:=⟨n-1,by omega⟩;simp[Builtin.clear_,run_underlying ht,hv,hvs,hst]
def q0d (w:World):(zeroValue 42).run prog w=.ok (.agg #[.string ⟨#[]⟩,.string ⟨#[]⟩]) w:=by kernel_rfl
def ixM (p:ByteArray×ByteArray->Bool)(l:List (ByteArray×ByteArray)):Int:=if l.any p=true then (l.findIdx p:Nat) else -1
def k0F (w:World)(v:Value)(l:List (ByteArray×ByteArray))(F:Nat)(p:ByteArray×ByteArray->Bool)(hv:MRow w v l)(hen:∀ args w,(callFunc F args).run prog w=.ok (.enter F args) w)
 (hF:∀ W (x:ByteArray×ByteArray),Calls prog F #[.agg #[.string x.1,.string x.2]] W fun e w'=>e=.returned (.bool (p x))/\Below W.heap.size W w'):
 qb 184 #[v,.func (.func F) #[] #[]] w (.int .i64 (ixM p l)):=by
 obtain⟨a,c,rfl,q1,q2,q3⟩:=hv.ex;obtain⟨n,hn⟩:=gn (l.length);rw[hn]at q1 |-;obtain⟨HN,Q3,HF⟩:=zg hn q3 hF;clear hv q3 hn hF;go_enter func184,ntmps184;go_wp2_with fail
 go_loopw [8] (fun ii wr=>∃ i:Nat,ii=.int .i64 i/\i<=n/\Hid (∀ j x,j<i->l[j]?=some x->p x=false)/\Hid (Below w.heap.size w wr)) (fun ii wr=>n-(intOf ii).toNat)
 case atStart=>exact⟨0,rfl,K5 _,fun j x hj=>absurd hj (by omega),J4 _ _⟩
 case round=>
  obtain⟨i,rfl,hi,hI,hB⟩:=hrel;by_cases hlt:i<n
  .obtain⟨x,hx⟩:∃ x,l[i]?=some x:=⟨_,Q0 (by rw[HN.out];exact hlt)⟩;obtain⟨g,o,rfl,hg,m1,m2⟩:=Q3.out i x hx;rw[M9 2]at m1 m2;have r1:=(hB.out.cell (p:=⟨g,o+i*2,none⟩) hg).trans m1;have r2:=(hB.out.cell (p:=⟨g,o+i*2+1,none⟩) hg).trans m2;have HX:=hid hx;have b1:=qw i
   have b2:(i:Int)<(n:Int):=by omega
   have wi:=qy i (by omega)
   obtain⟨z,hz⟩:=gn (p x);have C:=fun W=>hid (hz ▸ HF.out W x)
   have HZ:=hid hz;clear hx hz m1 m2 hg;go_wp2_with fail;refine nw (C _) hB fun w1 y1=>?_;cases z
   .go_wp2_with fail;go_roundw
    case rel=>exact⟨i+1,by go_num,by omega,fun j y hj hy=>by
     rcases Ct j i with h | h
     .exact hI.out j y h hy
     .obtain rfl:j=i:=by omega
      rw[HX.out]at hy;cases hy;exact HZ.out,y1⟩
    case measure=>simp[intOf]<;>omega
   .have hA:l.any p=true:=Dt.2 ⟨x,U7 HX.out,HZ.out⟩;have hfi:l.findIdx p=i:=by
     have hil:i<l.length:=by rw[HN.out];exact hlt
     rw[Mx hil];refine⟨?_,fun j hj=>?_⟩
     .have:=HX.out;rw[Q0 hil]at this;rw[Ag this];exact HZ.out
     .exact hI.out j _ hj (Q0 (No hj hil))
    have HE:=hid (show ixM p l=(i:Int) from by rw[ixM,J3 hA,hfi]);clear hA hfi;go_wp2_with fail;go_ret
    exact⟨by rw[HE.out];rfl,y1.out⟩
  .obtain rfl:i=n:=by omega
   have hA:¬ l.any p=true:=fun h=>by
    obtain⟨x,hx,hp⟩:=Dt.1 h;obtain⟨j,hj⟩:=Bi hx;have:=hI.out j x (by rw[<- HN.out];exact (U4.1 hj).1) hj;rw[this]at hp;cases hp
   have HE:=hid (show ixM p l = -1 from by rw[ixM,J2 hA]);clear hA hlt;go_wp2_with fail;go_ret
   exact⟨by rw[HE.out];rfl,hB.out⟩
structure DelI (del:ByteArray×ByteArray->Bool)(L D:List (ByteArray×ByteArray))(i j:Nat):Prop where
 len:D.length=L.length
 lt:i<j
 le:j<=L.length
 front:D.take i=(L.take j).filter fun x => !del x
 back:D.drop j=L.drop j
def Hc:=@List.filter_append
theorem DelI.start {del:ByteArray×ByteArray->Bool}{L:List (ByteArray×ByteArray)}(h:L.any del=true):DelI del L L (L.findIdx del) (L.findIdx del+1):=by
 have hk:L.findIdx del<L.length:=List.findIdx_lt_length.2 (Dt.1 h);have hd:del L[L.findIdx del]=true:=List.findIdx_getElem;refine⟨rfl,Nat.lt_succ_self _,hk,?_,rfl⟩;rw[Cr,Q0 hk,Hc];have e1:List.filter (fun x => !del x) (some L[L.findIdx del]).toList = []:=by simp[hd]
 rw[e1,Cz]
 symm
 rw[List.filter_eq_self];intro x hx;obtain⟨j,hj,rfl⟩:=Hp hx;rw[Ba]at hj;rw[List.getElem_take];have:=List.not_of_lt_findIdx (p:=del) (xs:=L) (i:=j) (by omega);simpa using this
theorem DelI.at_ {del:ByteArray×ByteArray->Bool}{L D:List (ByteArray×ByteArray)}{i j:Nat}(h:DelI del L D i j){x:ByteArray×ByteArray}(hx:L[j]?=some x):D[j]?=some x:=by
 have:=congrArg (fun l=>l[0]?) h.back;simp only[Bm,At]at this;rw[this,hx]
theorem DelI.keep {del:ByteArray×ByteArray->Bool}{L D:List (ByteArray×ByteArray)}{i j:Nat}(h:DelI del L D i j){x:ByteArray×ByteArray}(hx:L[j]?=some x)(hd:del x=false):DelI del L (D.set i x) (i+1) (j+1):=by
 have hj:=(U4.1 hx).1;have hlt:=h.lt;refine⟨by rw[Bj];exact h.len,by omega,hj,?_,?_⟩
 .have e1:L.take (j+1)=L.take j ++ [x]:=by rw[Cr,hx];rfl
  have e2:(D.set i x).take (i+1)=D.take i ++ [x]:=by
   rw[Cr,Hz (by rw[h.len];omega),Mj,List.set_eq_of_length_le (by rw[Ba];omega)];rfl
  rw[e1,e2,Hc,<- h.front];simp[hd]
 .rw[Hk (by omega),<- Ex,h.back,Ex]
theorem DelI.skip {del:ByteArray×ByteArray->Bool}{L D:List (ByteArray×ByteArray)}{i j:Nat}(h:DelI del L D i j){x:ByteArray×ByteArray}(hx:L[j]?=some x)(hd:del x=true):DelI del L D i (j+1):=by
 have hj:=(U4.1 hx).1;have hlt:=h.lt;refine⟨h.len,by omega,hj,?_,?_⟩
 .rw[Cr,hx,Hc,<- h.front];simp[hd]
 .rw[<- Ex,h.back,Ex]
theorem r0W {D:List (ByteArray×ByteArray)}{i:Nat}(x:ByteArray×ByteArray)(hi:i<D.length):((a0N D).set (i*2) (.string x.1)).set (i*2+1) (.string x.2)=a0N (D.set i x):=by
 apply Aq
 intro k;rw[f0o,Db,Db];simp only[Bj,b0a];by_cases h1:i*2+1=k
 .subst h1;rw[J3 rfl,J3 (by omega),show (i*2+1) / 2=i by omega,Hz hi,Ko,J2 (by omega)]
 .rw[J2 h1];by_cases h2:i*2=k
  .subst h2;rw[J3 rfl,J3 (by omega),show i*2 / 2=i by omega,Hz hi,Ko,J3 (by omega)]
  .rw[J2 h2,f0o,Iv (by omega)]
def p0w (D:List (ByteArray×ByteArray))(i:Nat):(a0N D).take (i*2)=a0N (D.take i):=by
 apply Aq
 intro k;rw[f0o];by_cases h:k<i*2
 .rw[Hh h,f0o,Hh (by omega)]
 .rw[It (by omega),It (by omega)];rfl
def a1B (w:World)(F:Nat)(del:ByteArray×ByteArray->Bool)(g cap base n:Nat)(L:List (ByteArray×ByteArray))(hO:w.ownsRow base 42 2 (.slice (some ⟨g,0,none⟩) n cap) n (a0N L))(hl:L.length=n)(hn:n<=100000)(hb:base<=w.heap.size)
 (hen:∀ args w,(callFunc F args).run prog w=.ok (.enter F args) w)
 (hF:∀ W (x:ByteArray×ByteArray),Calls prog F #[.agg #[.string x.1,.string x.2]] W fun e w'=>e=.returned (.bool (del x))/\Below W.heap.size W w'):
 Calls prog 96 #[.slice (some ⟨g,0,none⟩) n cap,.func (.func F) #[] #[]] w fun e w'=>(∃ m,m=(L.filter fun x => !del x).length/\e=.returned (.slice (some ⟨g,0,none⟩) m cap)/\w'.ownsRow base 42 2 (.slice (some ⟨g,0,none⟩) m cap) m (a0N (L.filter fun x => !del x)))/\Below base w w':=by
 obtain⟨PI,HO⟩:=zu (k0F w _ L F del (MRow.of_owns hO) hen hF) hO;obtain⟨o1,o2,o3,o4,o5,o6⟩:=d0F hO;obtain⟨HF,HL,HB⟩:=zg hF hl hb;by_cases hany:L.any del=true
 .have st:=hid (DelI.start hany);have ei:ixM del L=(L.findIdx del:Nat):=by rw[ixM,J3 hany]
  rw[ei]at PI;obtain⟨k,hk⟩:=gn (L.findIdx del);rw[hk]at PI st;have hkn:k<n:=by have:=st.out.le;omega
  have q0:((k:Int) == -1)=false:=by rw[M5];omega
  have wk:=qy k (by omega)
  clear hO hF hl hb hany ei hk o1 o2 o3 o4;go_enter func96,ntmps96;go_wp2_with fail;refine ny PI fun w1 hb1=>?_;obtain⟨y1,O1⟩:=zu (hb1.mono HB.out) (a0C HO.out hb1);clear hb1;go_wp2_with fail
  go_loopw [5,6,7] (fun s5 s6 s7 wr=>∃ (i j:Nat) (D:List (ByteArray×ByteArray)),s5=.int .i64 (i:Nat)/\s6=.int .i64 (j:Nat)/\j<=n/\i<j/\Hid (DelI del L D i j)/\Hid (wr.ownsRow base 42 2 (.slice (some ⟨g,0,none⟩) n cap) n (a0N D))/\Hid (Below base w wr)) (fun s5 s6 s7 wr=>n-(intOf s6).toNat)
  case atStart=>exact⟨k,k+1,L,rfl,by go_num,by omega,by omega,st,O1,y1⟩
  case round=>
   obtain⟨i,j,D,rfl,rfl,hj,hij,hI,hO,hBl⟩:=hrel;obtain⟨o1,o2,o3,o4,-,-⟩:=d0F hO.out;have hDl:=hI.out.len;by_cases hlt:j<n
   .obtain⟨x,hx⟩:∃ x,L[j]?=some x:=⟨_,Q0 (by rw[HL.out];exact hlt)⟩;obtain⟨m1,m2⟩:=c0Z (hI.out.at_ hx);obtain⟨y,hy⟩:∃ y,D[i]?=some y:=⟨_,Q0 (by rw[hDl,HL.out];omega)⟩;obtain⟨m3,m4⟩:=c0Z hy;have r1:=o4 _ _ m1;have r2:=o4 _ _ m2;have r3:=o4 _ _ m3;have r4:=o4 _ _ m4;rw[M9 2]at r1 r2 r3 r4;have b1:=qw j
    have b2:(j:Int)<(n:Int):=by omega
    have b3:=qw i
    have b4:(i:Int)<(n:Int):=by omega
    have wj:=qy j (by omega)
    have wi:=qy i (by omega)
    obtain⟨z,hz⟩:=gn (del x);have C:=fun W=>hid (hz ▸ HF.out W x)
    obtain⟨HX,HZ,hset,X1,A1⟩:=zd hx hz (r0W (D:=D) (i:=i) x (by rw[hDl,HL.out];omega)) (Blk.new wr #[.string x.1,.string x.2] 42) ((Below.refl wr.heap.size wr).alloc nr (.cells #[.string x.1,.string x.2] 42));have O2:=hid (a0C hO.out A1.out);have GL:Hid (g<wr.heap.size):=o2;clear hx hz m1 m2 m3 m4 o4 hy;obtain⟨xk,xv⟩:=x;dsimp only at *;go_wp2_with fail;refine ny (C _) fun w2 hb2=>?_;have hb2':=a0a A1.out hb2;obtain⟨X2,O3,B2⟩:=zg (X1.out.call hb2) (a0C O2.out hb2) (hBl.out.trans (hb2'.mono (by omega)));have z0:=X2.out.cell 0;have z1:=X2.out.cell 1;simp at z0 z1;have r3:=(hb2'.cell (p:=⟨g,i*2,none⟩) GL.out).trans r3;have r4:=(hb2'.cell (p:=⟨g,i*2+1,none⟩) GL.out).trans r4;obtain⟨-,-,g3,-,-,-⟩:=d0F O3.out;clear hb2 hb2' r1 r2;cases z
    .go_wp2_with fail;go_roundw
     case rel=>
      refine⟨i+1,j+1,D.set i (xk,xv),by go_num,by go_num,by omega,by omega,hid (hI.out.keep HX.out HZ.out),?_,hid ((B2.out.setCell o1 _).setCell o1 _)⟩;have h5:=j0v (j0v O3.out (i*2) (.string xk)) (i*2+1) (.string xv);rw[hset.out]at h5;exact h5
     case measure=>simp[intOf]<;>omega
    .clear r3 r4;go_wp2_with fail;go_roundw
     case rel=>exact⟨i,j+1,D,rfl,by go_num,by omega,by omega,hid (hI.out.skip HX.out HZ.out),O3,B2⟩
     case measure=>simp[intOf]<;>omega
   .obtain rfl:j=n:=by omega
    have b1:=qw i
    have b2:(i:Int)<=(j:Int):=by omega
    have b3:(j:Int)<=(cap:Int):=by omega
    have b4:(i:Int)<=(cap:Int):=by omega
    obtain⟨vs,hcl⟩:=p0a wr 37 42 0 (.agg #[.string ⟨#[]⟩,.string ⟨#[]⟩]) (.string ⟨#[]⟩) (.string ⟨#[]⟩) Cc q0d rfl rfl rfl g (i*2) (j-i) (cap-i) (by omega)
     (fun k hk=>by
      obtain⟨v,hv⟩:∃ v,(a0N D)[i*2+k]?=some v:=⟨_,Q0 (by rw[b0a,hDl,HL.out];omega)⟩;rw[o4 _ _ hv];rfl)
     (fun k hk=>o3 _)
    obtain⟨ys,w3,w4⟩:=g0e vs (i*2) hO.out;have hfr:=hI.out.front;have hT:L.take j=L:=E7 (by rw[HL.out];exact O4 _);rw[hT]at hfr;have hcut:=u0Q w3 (m:=i) (by omega);rw[w4,p0w,hfr]at hcut;have hcb:=hid (e0s o1 vs (i*2) hBl.out);have hlen:i=(L.filter fun x => !del x).length:=by rw[<- hfr,Ba,hDl,HL.out];omega
    obtain⟨HC,HLN⟩:=zu hcut hlen;clear hlt o4 w3 w4 hfr hcut hlen hT;go_wp2_with fail;go_ret
    refine⟨⟨i,HLN.out,rfl,HC.out⟩,hcb.out⟩
 .have hk:(L.filter fun x => !del x)=L:=List.filter_eq_self.2 fun x hx=>by
   cases hd:del x
   .rfl
   .exact absurd (Dt.2 ⟨x,hx,hd⟩) hany
  have ei:ixM del L = -1:=by rw[ixM,J2 hany]
  rw[ei]at PI;rw[hk];have q0:((-1:Int) == -1)=true:=rfl;clear hO hF hb hany ei hk o1 o2 o3 o4;go_enter func96,ntmps96;go_wp2_with fail;refine ny PI fun w1 hb1=>?_;go_wp2_with fail;go_ret
  exact⟨⟨n,HL.out.symm,rfl,a0C HO.out hb1⟩,hb1.mono HB.out⟩
end
section
def chV (g:Int->Nat)(n j:Nat):List Int:=((List.range j).map fun (i:Nat)=>(i:Int)-n).filter fun v=>decide (g v≠0)
def o0t (g:Int->Nat)(n j:Nat):chV g n (j+1)=chV g n j++if g ((j:Int)-n)=0 then [] else [(j:Int)-n]:=by
 unfold chV;rw[My,Ay,Hc,List.map_singleton];by_cases h:g ((j:Int)-n)=0
 .simp[h]
 .simp[h]
def z0q {g:Int->Nat}{n j:Nat}{v:Int}:v∈chV g n j ↔ ∃ i:Nat,i<j/\v=(i:Int)-n/\g v≠0:=by
 unfold chV;rw[Kk,Gi,Fc]
 constructor
 .rintro⟨⟨i,hi,rfl⟩,h⟩;exact⟨i,Gj.1 hi,rfl,h⟩
 .rintro⟨i,hi,rfl,h⟩;exact⟨⟨i,Gj.2 hi,rfl⟩,h⟩
def Fv:=@List.length_filter_le
def p0V (g:Int->Nat)(n j:Nat):(chV g n j).length<=j:=by
 unfold chV;refine J0 (Fv _ _) ?_;simp
def smV (f:Int->Nat)(l:List Int):Nat:=(l.map f).sum
def n0s (f:Int->Nat)(l:List Int)(v:Int):smV f (l ++ [v])=smV f l+f v:=by simp[smV]
def n0r {f:Int->Nat}{l:List Int}{i:Nat}{v:Int}(h:l[i]?=some v):smV f (l.take (i+1))=smV f (l.take i)+f v:=by
 rw[Cr,h,<- n0s];rfl
def a1w {f:Int->Nat}{l:List Int}(i:Nat):smV f (l.take i)<=smV f l:=by
 have h:=Ej i l;have e:smV f l=smV f (l.take i)+smV f (l.drop i):=by
  conv=>lhs;rw[<- h]
  unfold smV;rw[Ay,Kq]
 omega
theorem q0O {f g:Int->Nat}(hf:∀ v,g v=0->f v=0)(n:Nat):∀ j,smV f (chV g n j)=a0m (fun i=>f ((i:Int)-n)) j
 | 0=>rfl
 | j+1=>by
  rw[o0t,a0m,<- q0O hf n j]
  split
  .rename_i h
   rw[Cz,hf _ h,At]
  .rw[n0s]
def l0Y {f g:Int->Nat}(hf:∀ v,g v=0->f v=0)(n:Nat):smV f (chV g n (2*n+1))=zS n f:=q0O hf n _
def chA (g:Int->Nat)(n:Nat):List Int:=chV g n (2*n+1)
def c1c {g:Int->Nat}{n:Nat}{v:Int}(h:v∈chA g n) : -(n:Int)<=v/\v<=n/\g v≠0:=by
 obtain⟨i,h1,rfl,h2⟩:=z0q.1 h;exact⟨by omega,by omega,h2⟩
def i0R (g:Int->Nat)(n:Nat):(chA g n).length<=2*n+1:=p0V g n _
def e0M {L:List (ByteArray×ByteArray)}{k p:ByteArray}(hnd:((L ++ [(k,p)]).map b0t).Nodup):i0T (a0p (L.filter f0O)) k p=a0p ((L ++ [(k,p)]).filter f0O):=by
 rw[Ay,Gn]at hnd;obtain⟨h1,-,h2⟩:=hnd;have hk:∀ x∈L,x.1≠k:=fun x hx e=>h2 (b0t x) (List.mem_map_of_mem hx) (b0t (k,p)) (by simp) (by unfold b0t;rw[e])
 have hp:L.Pairwise (fun x y=>x.1≠y.1):=by
  rw[List.Nodup,List.pairwise_map]at h1;exact h1.imp fun h e=>h (by unfold b0t;rw[e])
 rw[Hc];by_cases h0:p=⟨#[48]⟩
 .subst h0;have e:List.filter f0O [(k,(⟨#[48]⟩:ByteArray))] = []:=by simp[f0O]
  rw[e,Cz,i0T,J3 rfl]
 .have e:List.filter f0O [(k,p)] = [(k,p)]:=by simp[f0O,h0]
  rw[e];exact f0C h0 (fun x hx=>hk x (Kk.1 hx).1) (hp.filter _)
open Go.Shelf
def e0l (x m:Nat):(dyB x m).size<=1000000:=by
 have:=c0W (qmk false x (2 ^ m));show (c0b _).size<=_
 omega
end
section
def w0n (q:Rat) : -1<=sgQ q/\sgQ q<=1:=by
 unfold sgQ
 split
 .omega
 .split<;>omega
def y0l (a b:Nat) : -1<=b0g a b/\b0g a b<=1:=by
 unfold b0g
 split
 .omega
 .split<;>omega
def d1a (w:World)(v u:Value)(p q:Rat)(hp:IsQ .u64 w v p)(hq:IsQ .u64 w u q)
 (h1:(limbs p.num.natAbs).length<=100000) (h2:(limbs p.den).length<=100000) (h3:(limbs q.num.natAbs).length<=100000) (h4:(limbs q.den).length<=100000):
 qb 189 #[v,u] w (.int .i64 (cmF p q)):=by
 have PS1:=fun V v h=>hid (s0E V v p h)
 have PS2:=fun V v h=>hid (s0E V v q h)
 have PM1:=fun V v u hv hu=>hid (i0b V v u p.num.natAbs q.den hv hu (J0 h1 (by omega)) (J0 h4 (by omega)))
 have PM2:=fun V v u hv hu=>hid (i0b V v u q.num.natAbs p.den hv hu (J0 h3 (by omega)) (J0 h2 (by omega)))
 have lx:=d0H h1 h4;have PC:=fun V v u hv hu=>hid (m0A V v u (p.num.natAbs*q.den) (q.num.natAbs*p.den) hv hu (J0 lx (by omega)))
 have bp:=w0n p;have bq:=w0n q;have bo:=y0l (p.num.natAbs*q.den) (q.num.natAbs*p.den);obtain⟨Z,hZ⟩:=gn (cmF p q);rw[hZ];unfold cmF at hZ;obtain⟨s1,hs1⟩:=gn (sgQ p);obtain⟨s2,hs2⟩:=gn (sgQ q);obtain⟨oc,hoc⟩:=gn (b0g (p.num.natAbs*q.den) (q.num.natAbs*p.den));rw[hs1]at PS1 bp hZ;rw[hs2]at PS2 bq hZ;rw[hoc]at PC bo hZ;obtain⟨HZ,HP,HQ⟩:=zg hZ hp hq;obtain⟨N1,D1,rfl,hn1,hd1⟩:=hp.ex;obtain⟨N2,D2,rfl,hn2,hd2⟩:=hq.ex;obtain⟨HN1,HD1,HN2,HD2⟩:=zc hn1 hd1 hn2 hd2;obtain⟨a1,c1,rfl,_⟩:=hn1.openI;obtain⟨a2,c2,rfl,_⟩:=hd1.openI;obtain⟨a3,c3,rfl,_⟩:=hn2.openI;obtain⟨a4,c4,rfl,_⟩:=hd2.openI;obtain⟨k1,hk1⟩:=gn ((limbs p.num.natAbs).length);obtain⟨k2,hk2⟩:=gn ((limbs p.den).length);obtain⟨k3,hk3⟩:=gn ((limbs q.num.natAbs).length);obtain⟨k4,hk4⟩:=gn ((limbs q.den).length);obtain⟨m1,hm1⟩:=gn (decide (p.num<0));obtain⟨m2,hm2⟩:=gn (decide (q.num<0));rw[hk1]at HN1;rw[hk2]at HD1;rw[hk3]at HN2;rw[hk4]at HD2;rw[hk1,hk2,hm1]at HP |-;rw[hk3,hk4,hm2]at HQ |-;have HM1:Hid ((p.num<0)↔m1=true):=by rw[<- hm1];simp[Hid]
 clear hZ hk1 hk2 hk3 hk4 hm1 hm2 hn1 hn2 hd1 hd2 hp hq h1 h2 h3 h4 lx hs1 hs2 hoc;have W12:IntKind.i64.wrap (s1-s2)=s1-s2:=U0 _ ⟨by omega,by omega⟩;have WO:IntKind.i64.wrap (-oc) = -oc:=U0 _ ⟨by omega,by omega⟩;clear bp bq bo;go_enter func189,ntmps189;go_wp2_with fail;obtain⟨W,hW⟩:=gn ((w.alloc (.cells #[.bool m1,.slice a1 k1 c1,.slice a2 k2 c2] 126)).alloc (.cells #[.bool m2,.slice a3 k3 c3,.slice a4 k4 c4] 126));have Y0:Blk W w.heap.size #[.bool m1,.slice a1 k1 c1,.slice a2 k2 c2] 126:=by rw[<- hW];exact (Blk.new w _ _).alloc _
 have Y1:Blk W (w.heap.size+1) #[.bool m2,.slice a3 k3 c3,.slice a4 k4 c4] 126:=by rw[<- hW];exact Blk.made _ _ _ (by simp)
 have y0:Below w.heap.size w W:=by rw[<- hW];exact (br0.alloc nr _).alloc (by simp) _
 rw[hW];have KK:Hid (∀ w',Below W.heap.size W w'->w'.cell? ⟨w.heap.size,0,none⟩=some (.bool m1)/\w'.cell? ⟨w.heap.size,1,none⟩=some (.slice a1 k1 c1)/\w'.cell? ⟨w.heap.size,2,none⟩=some (.slice a2 k2 c2)/\w'.cell? ⟨w.heap.size+1,0,none⟩=some (.bool m2)/\w'.cell? ⟨w.heap.size+1,1,none⟩=some (.slice a3 k3 c3)/\w'.cell? ⟨w.heap.size+1,2,none⟩=some (.slice a4 k4 c4)):=fun w' hb=>
  ⟨(Y0.call hb).cell 0,(Y0.call hb).cell 1,(Y0.call hb).cell 2,(Y1.call hb).cell 0,(Y1.call hb).cell 1,(Y1.call hb).cell 2⟩
 obtain⟨Q1,Q2,N1',D1',N2',D2',HY⟩:=kx (HP.out.call y0) (HQ.out.call y0) (HN1.out.call y0) (HD1.out.call y0) (HN2.out.call y0) (HD2.out.call y0) y0;clear Y0 Y1 y0 hW HN1 HD1 HN2 HD2 HP HQ;refine a0j [0,2] 4 (fun w'=>w'.cell? ⟨w.heap.size,0,none⟩=some (.bool m1)/\w'.cell? ⟨w.heap.size,1,none⟩=some (.slice a1 k1 c1)/\w'.cell? ⟨w.heap.size,2,none⟩=some (.slice a2 k2 c2)/\w'.cell? ⟨w.heap.size+1,0,none⟩=some (.bool m2)/\w'.cell? ⟨w.heap.size+1,1,none⟩=some (.slice a3 k3 c3)/\w'.cell? ⟨w.heap.size+1,2,none⟩=some (.slice a4 k4 c4)) (by kernel_rfl) (by kernel_rfl) (by kernel_rfl) (by kernel_rfl) (KK.out _ br0.drew) ?_
 iterate 2
  refine⟨_,rfl,?_⟩;apply Exists.intro
  refine⟨.inl ⟨by rfl,?_⟩,?_⟩
  .rintro W' ⟨q1,q2,q3,q4,q5,q6⟩;go_simp;try with_reducible rfl
  go_frame
 refine a0c (i:=1) (by kernel_rfl) rfl rfl ?_;go_wp2_with fail;refine ny (PS1 _ _ (Q1.out.call br0.drew)) fun w1 hb1=>?_;have x1:=hid (show Below W.heap.size W w1 from br0.drew.trans hb1);clear hb1;go_wp2_with fail;refine⟨KK.out _ x1.out,?_⟩;refine a0c (i:=3) (by kernel_rfl) rfl rfl ?_;go_wp2_with fail;refine nw (PS2 _ _ (Q2.out.call x1.out)) x1 fun w2 x2=>?_;go_wp2_with fail;refine⟨KK.out _ x2.out,?_⟩;refine a0V (is:=[4,5]) (g:=0) (by kernel_rfl) rfl (KK.out _ x2.out) (by kernel_rfl) ?_
 iterate 2
  refine⟨_,rfl,?_⟩;apply Exists.intro
  refine⟨.inl ⟨by rfl,?_⟩,?_⟩
  .rintro W' ⟨q1,q2,q3,q4,q5,q6⟩;go_simp;try with_reducible rfl
  go_frame
 refine J8 (by kernel_rfl) ?_ _;simp only[b0b];by_cases hne:s1=s2
 .subst hne;have t0:(s1 != s1)=false:=by simp
  go_wp2_with fail;refine a0j [0,1,2,3,5,6,7,8] 4 (fun w'=>w'.cell? ⟨w.heap.size,0,none⟩=some (.bool m1)/\w'.cell? ⟨w.heap.size,1,none⟩=some (.slice a1 k1 c1)/\w'.cell? ⟨w.heap.size,2,none⟩=some (.slice a2 k2 c2)/\w'.cell? ⟨w.heap.size+1,0,none⟩=some (.bool m2)/\w'.cell? ⟨w.heap.size+1,1,none⟩=some (.slice a3 k3 c3)/\w'.cell? ⟨w.heap.size+1,2,none⟩=some (.slice a4 k4 c4)) (by kernel_rfl) (by kernel_rfl) (by kernel_rfl) (by kernel_rfl) (KK.out _ x2.out.drew) ?_
  iterate 8
   refine⟨_,rfl,?_⟩;apply Exists.intro
   refine⟨.inl ⟨by rfl,?_⟩,?_⟩
   .rintro W' ⟨q1,q2,q3,q4,q5,q6⟩;go_simp;try with_reducible rfl
   go_frame
  refine a0c (i:=4) (by kernel_rfl) rfl rfl ?_;go_wp2_with fail;refine nu (PM1 _ _ _ (N1'.out.call x2.out.drew) (D2'.out.call x2.out.drew)) fun v3 w3 hv3 hb3=>?_;obtain⟨x3,V3⟩:=zu (show Below W.heap.size W w3 from a0a x2.out.drew hb3) hv3;clear hb3 hv3;go_wp2_with fail;refine⟨KK.out _ x3.out,?_⟩;refine a0c (i:=9) (by kernel_rfl) rfl rfl ?_;go_wp2_with fail;refine nu (PM2 _ _ _ (N2'.out.call x3.out) (D1'.out.call x3.out)) fun v4 w4 hv4 hb4=>?_;have x4:=qx x3 hb4;obtain⟨V4,V34⟩:=zu hv4 (V3.out.call hb4);clear hb4 hv4;go_wp2_with fail;refine⟨KK.out _ x4.out,?_⟩;refine a0c (i:=10) (by kernel_rfl) rfl rfl ?_;go_wp2_with fail;refine nw (PC _ _ _ V34.out V4.out) x4 fun w5 x5=>?_;go_wp2_with fail;refine⟨KK.out _ x5.out,?_⟩;refine a0V (is:=[11]) (g:=0) (by kernel_rfl) rfl (KK.out _ x5.out) (by kernel_rfl) ?_
  iterate 1
   refine⟨_,rfl,?_⟩;apply Exists.intro
   refine⟨.inl ⟨by rfl,?_⟩,?_⟩
   .rintro W' ⟨q1,q2,q3,q4,q5,q6⟩;go_simp;try with_reducible rfl
   go_frame
  refine J8 (by kernel_rfl) ?_ _;simp only[b0b];obtain⟨e0,e1,e2,e3,e4,e5⟩:=KK.out _ x5.out;have yy:=qx HY x5.out;cases m1
  .go_wp2_with fail;go_ret
   exact⟨by rw[<- HZ.out,J2 (fun h=>h rfl),J2 (fun h=>by have:=HM1.out.1 h;simp at this)];rfl,yy.out⟩
  .go_wp2_with fail;go_ret
   exact⟨by rw[<- HZ.out,J2 (fun h=>h rfl),J3 (HM1.out.2 (by simp))];rfl,yy.out⟩
 .have t0:(s1 != s2)=true:=by simpa using hne
  have HNE:=hid hne;have yy:=qx HY x2.out;clear hne;go_wp2_with fail;go_ret
  exact⟨by rw[<- HZ.out,J3 HNE.out];rfl,yy.out⟩
open Go.Shelf
def wI (z:Int)(s:ByteArray):Int:=if qE s=0 then z else 0
def xE (x:Int)(s t:ByteArray):Int:=wE (wE x t) s
def tI (z:Int)(s t:ByteArray):Int:=wI (wI z t) s
def r0o (w:World)(s:ByteArray)(F:Nat)(cs:Array Value)(R:Int)(x:Int)(hs:s.size<=1000000)(hL:Lay w)
 (hen:∀ args w,(callFunc F args).run prog w=.ok (.enter F args) w)
 (hF:∀ W v,qE s=0->Below w.heap.size w W->IsQ .u64 W v (vQ s)->Lay W->Calls prog F (#[v]++cs) W fun e w'=>e=.returned (.tuple #[.int .i64 R,.int .i64 x])/\Below W.heap.size W w'):
 qb 246 #[.string s,.func (.func F) #[] cs] w (.tuple #[.int .i64 (wI R s),.int .i64 (wE x s)]):=by
 obtain⟨HP,HL,HF⟩:=zg (j0R w s hs hL) hL hF;clear hF hs hL;by_cases h1:qE s=0
 .have e1:wI R s=R:=J3 h1;have e2:wE x s=x:=J3 h1;rw[e1,e2];have HQ:=hid h1;rw[h1]at HP;clear h1 e1 e2;go_enter func246,ntmps246;go_wp2_with fail;refine HP.out.mono ?_;rintro e w1 ⟨⟨v,rfl,hv,-⟩,hb1⟩;have hq:=s0l HQ.out (hv rfl);have y1:=hid hb1;obtain⟨N,D,hvv,hN,hD⟩:=hv rfl;subst hvv;obtain⟨a,c,rfl,_⟩:=hN.openI;obtain⟨a',c',rfl,_⟩:=hD.openI;obtain⟨k,hk⟩:=gn ((limbs (bN (iD (cW s)))).length);obtain⟨k',hk'⟩:=gn ((limbs (bN (qD s))).length);obtain⟨m,hm⟩:=gn (iM (cW s));rw[hk,hk',hm]at hq;rw[hk,hk',hm];obtain⟨X2,b2⟩:=zu (Blk.new w1 #[.bool m,.slice a k c,.slice a' k' c'] 126) ((J4 w1.heap.size w1).alloc nr (.cells #[.bool m,.slice a k c,.slice a' k' c'] 126));have y2:=qx y1 b2.out;have Q2:=hid (hq.call b2.out);obtain⟨r0,r1,r2⟩:=qz X2.out;clear hb1 hv hN hD hk hk' hm hq b2;go_wp2_with fail;refine nk (HF.out _ _ HQ.out y2.out Q2.out (HL.out.call y2.out)) y2 fun w3 y3=>?_;go_wp2_with fail;go_ret2
  exact⟨rfl,y3.out⟩
 .have e1:wI R s=0:=J2 h1;have e2:wE x s=qE s:=J2 h1;rw[e1,e2];obtain⟨y,hy⟩:=gn (qE s);rw[hy]at HP h1 |-;have q1:(y != 0)=true:=by simpa using h1
  have H1:=hid h1;clear e1 e2 hy h1;go_enter func246,ntmps246;go_wp2_with fail;refine HP.out.mono ?_;rintro e w1 ⟨⟨v,rfl,-,hv⟩,hb1⟩;have hv':=hv H1.out;subst hv';have y1:=hid hb1;have y2:=hid (y1.out.alloc y1.out.size (.cells #[.bool false,.slice none 0 0,.slice none 0 0] 126));clear hb1 hv;go_wp2_with fail;go_ret2
  exact⟨rfl,y2.out⟩
def r0p (w:World)(v u:Value)(p q:Rat)(F g1 g2:Nat)(R:Int)(x:Int)(hv:IsQ .u64 w v p)(hu:IsQ .u64 w u q)(hL:Lay w)
 (hen:∀ args w,(callFunc F args).run prog w=.ok (.enter F args) w)
 (c1:w.cell? ⟨g1,0,none⟩=some (.func (.func F) #[] #[])) (m:Bool) (a a':Option Addr) (k c k' c':Nat) (hv0:v=.agg #[.bool m,.slice a k c,.slice a' k' c'])
 (c2:Blk w g2 #[.bool m,.slice a k c,.slice a' k' c'] 126)
 (hF:∀ W v u,IsQ .u64 W v p->IsQ .u64 W u q->Lay W->Calls prog F #[v,u] W fun e w'=>e=.returned (.tuple #[.int .i64 R,.int .i64 x])/\Below W.heap.size W w'):
 qb 248 #[u,.pointer (some ⟨g1,0,none⟩),.pointer (some ⟨g2,0,none⟩)] w (.tuple #[.int .i64 R,.int .i64 x]):=by
 obtain⟨HF,HL⟩:=zu hF hL;obtain⟨N,D,rfl,hN,hD⟩:=hu.ex;obtain⟨a1,d1,rfl,_⟩:=hN.openI;obtain⟨a2,d2,rfl,_⟩:=hD.openI;obtain⟨k1,hk1⟩:=gn ((limbs q.num.natAbs).length);obtain⟨k2,hk2⟩:=gn ((limbs q.den).length);obtain⟨mu,hmu⟩:=gn (decide (q.num<0));rw[hk1,hk2,hmu]at hu;rw[hk1,hk2,hmu];subst hv0;obtain⟨X2,b2⟩:=zu (Blk.new w #[.bool mu,.slice a1 k1 d1,.slice a2 k2 d2] 126) ((J4 w.heap.size w).alloc nr (.cells #[.bool mu,.slice a1 k1 d1,.slice a2 k2 d2] 126));obtain⟨V2,U2⟩:=zu (hv.call b2.out) (hu.call b2.out);have C1:=(b2.out.cell (a0e c1)).trans c1;have C2:=hid (c2.call b2.out);obtain⟨r0,r1,r2⟩:=qz X2.out;obtain⟨s0,s1,s2⟩:=qz C2.out;clear hk1 hk2 hmu hN hD hv hu c1 c2 hF hL;go_enter func248,ntmps248;go_wp2_with fail;refine nk (HF.out _ _ _ V2.out U2.out (HL.out.call b2.out)) b2 fun w3 y3=>?_;go_wp2_with fail;go_ret2
 exact⟨rfl,y3.out⟩
def u0H (w:World)(v:Value)(t:ByteArray)(p:Rat)(F g1 g2:Nat)(R:Int)(x:Int)(ht:t.size<=1000000)(hv:IsQ .u64 w v p)(hL:Lay w)
 (hen:∀ args w,(callFunc F args).run prog w=.ok (.enter F args) w)
 (c1:w.cell? ⟨g1,0,none⟩=some (.string t)) (c2:w.cell? ⟨g2,0,none⟩=some (.func (.func F) #[] #[]))
 (hF:∀ W v u,qE t=0->IsQ .u64 W v p->IsQ .u64 W u (vQ t)->Lay W->Calls prog F #[v,u] W fun e w'=>e=.returned (.tuple #[.int .i64 R,.int .i64 x])/\Below W.heap.size W w'):
 qb 247 #[v,.pointer (some ⟨g1,0,none⟩),.pointer (some ⟨g2,0,none⟩)] w (.tuple #[.int .i64 (wI R t),.int .i64 (wE x t)]):=by
 obtain⟨HF,HL,HEN⟩:=zg hF hL hen;obtain⟨N,D,rfl,hN,hD⟩:=hv.ex;obtain⟨a1,d1,rfl,_⟩:=hN.openI;obtain⟨a2,d2,rfl,_⟩:=hD.openI;obtain⟨k1,hk1⟩:=gn ((limbs p.num.natAbs).length);obtain⟨k2,hk2⟩:=gn ((limbs p.den).length);obtain⟨mu,hmu⟩:=gn (decide (p.num<0));rw[hk1,hk2,hmu]at hv;rw[hk1,hk2,hmu];obtain⟨X2,b2⟩:=zu (Blk.new w #[.bool mu,.slice a1 k1 d1,.slice a2 k2 d2] 126) ((J4 w.heap.size w).alloc nr (.cells #[.bool mu,.slice a1 k1 d1,.slice a2 k2 d2] 126));have V2:=hid (hv.call b2.out);have C1:=(b2.out.cell (a0e c1)).trans c1;obtain⟨C2,L2⟩:=zu ((b2.out.cell (a0e c2)).trans c2) (HL.out.call b2.out);obtain⟨w2,hw2⟩:=gn (w.alloc (.cells #[.bool mu,.slice a1 k1 d1,.slice a2 k2 d2] 126));obtain⟨g3,hg3⟩:=gn (w.heap.size)
 have W2:=hid (r0o w2 t 248 #[.pointer (some ⟨g2,0,none⟩),.pointer (some ⟨g3,0,none⟩)] R x ht (hw2 ▸ L2.out) (Cw func248 (by kernel_rfl) rfl)
  (fun W u hq hb hu hLW=>by
   subst hw2;subst hg3;have hVW:=V2.out.call hb;have hX:=X2.out.call hb;have hC:=(hb.cell (a0e C2.out)).trans C2.out;exact r0p W _ u p (vQ t) F g2 w.heap.size R x hVW hu hLW HEN.out hC mu a1 a2 k1 d1 k2 d2 rfl hX (fun W v u h1 h2 h3=>HF.out W v u hq h1 h2 h3)))
 rw[hw2]at C1;clear hk1 hk2 hmu hN hD hv c1 c2 hF hL hen;go_enter func247,ntmps247;go_wp2_with fail;refine ny W2 fun w3 hb3=>?_;have y3:=hid (a0a b2.out (hw2 ▸ hb3));clear hb3;go_wp2_with fail;go_ret2
 exact⟨rfl,y3.out⟩
def x0Z (w:World)(s t:ByteArray)(F:Nat)(R:Int)(x:Int)(hs:s.size<=1000000)(ht:t.size<=1000000)(hL:Lay w)
 (hen:∀ args w,(callFunc F args).run prog w=.ok (.enter F args) w)
 (hF:∀ W v u,qE s=0->qE t=0->IsQ .u64 W v (vQ s)->IsQ .u64 W u (vQ t)->Lay W->Calls prog F #[v,u] W fun e w'=>e=.returned (.tuple #[.int .i64 R,.int .i64 x])/\Below W.heap.size W w'):
 qb 187 #[.string s,.string t,.func (.func F) #[] #[]] w (.tuple #[.int .i64 (tI R s t),.int .i64 (xE x s t)]):=by
 obtain⟨HF,HL,HEN,HT,b1⟩:=zd hF hL hen ht ((J4 w.heap.size w).alloc nr (.cells #[.string t] 23));obtain⟨w1,hw1⟩:=gn (w.alloc (.cells #[.string t] 23));obtain⟨g1,hg1⟩:=gn (w.heap.size);have X1:=hid (Blk.new w #[.string t] 23);rw[hw1]at b1;rw[hw1,hg1]at X1;have b2:=hid ((J4 w1.heap.size w1).alloc nr (.cells #[.func (.func F) #[] #[]] 184));obtain⟨w2,hw2⟩:=gn (w1.alloc (.cells #[.func (.func F) #[] #[]] 184));obtain⟨X2,X12⟩:=zu (Blk.new w1 #[.func (.func F) #[] #[]] 184) (X1.out.call b2.out);have y2:=qx b1 b2.out;have hg2:w1.heap.size=g1+1:=by rw[<- hw1,<- hg1];simp
 rw[hw2]at b2 X12 y2;rw[hw2,hg2]at X2;have L2:=hid (HL.out.call y2.out)
 have W2:=hid (r0o w2 s 247 #[.pointer (some ⟨g1,0,none⟩),.pointer (some ⟨g1+1,0,none⟩)] (wI R t) (wE x t) hs L2.out (Cw func247 (by kernel_rfl) rfl)
  (fun W v hq hb hv hLW=>by
   have hX1:=(X12.out.call hb).cell 0;have hX2:=(X2.out.call hb).cell 0;exact u0H W v t (vQ s) F g1 (g1+1) R x HT.out hv hLW HEN.out hX1 hX2 (fun W v u h0 h1 h2 h3=>HF.out W v u hq h0 h1 h2 h3)))
 obtain⟨HW1,HW2,HG1⟩:=zg hw1 hw2 hg1;clear hF hL hen hs ht hw1 hw2 hg1 hg2 b1;go_enter func187,ntmps187;go_wp2_with fail;have hw1:=HW1.out;have hw2:=HW2.out;have hg1:=HG1.out;rw[hw1,hg1,hw2];refine nw W2 y2 fun w3 y3=>?_;clear hw1 hw2 hg1;go_wp2_with fail;go_ret2
 exact⟨rfl,by have:=y3.out;exact this⟩
def c2I (s t:ByteArray):tI (g0f (vQ s) (vQ t)) s t=cmB s t:=by
 unfold tI wI cmB;by_cases h1:qE s=0<;>by_cases h2:qE t=0<;>simp[h1,h2]
def c2E (s t:ByteArray):xE 0 s t=cmE s t:=by
 unfold xE wE cmE;by_cases h1:qE s=0<;>by_cases h2:qE t=0<;>simp[h1,h2]
def a1T (w:World)(v u:Value)(p q:Rat)(hp:IsQ .u64 w v p)(hq:IsQ .u64 w u q)(sp:Sml 1000 p)(sq:Sml 1000 q)(hL:Lay w):
 qb 188 #[v,u] w (.tuple #[.int .i64 (g0f p q),.int .i64 0]):=by
 have F1:=fun V v u hv hu=>hid (d1a V v u p q hv hu (J0 sp.n (by omega)) (J0 sp.d (by omega)) (J0 sq.n (by omega)) (J0 sq.d (by omega)))
 have HC:=hid (t0l p q);obtain⟨Z,hZ⟩:=gn (cmF p q);rw[hZ]at F1 HC;rw[<- HC.out];obtain⟨N1,D1,rfl,hn1,hd1⟩:=hp.ex;obtain⟨N2,D2,rfl,hn2,hd2⟩:=hq.ex;obtain⟨a1,c1,rfl,_⟩:=hn1.openI;obtain⟨a2,c2,rfl,_⟩:=hd1.openI;obtain⟨a3,c3,rfl,_⟩:=hn2.openI;obtain⟨a4,c4,rfl,_⟩:=hd2.openI;obtain⟨k1,hk1⟩:=gn ((limbs p.num.natAbs).length);obtain⟨k2,hk2⟩:=gn ((limbs p.den).length);obtain⟨k3,hk3⟩:=gn ((limbs q.num.natAbs).length);obtain⟨k4,hk4⟩:=gn ((limbs q.den).length);obtain⟨m1,hm1⟩:=gn (decide (p.num<0));obtain⟨m2,hm2⟩:=gn (decide (q.num<0));rw[hk1,hk2,hm1]at hp |-;rw[hk3,hk4,hm2]at hq |-;obtain⟨X1,b1⟩:=zu (Blk.new w #[.bool m1,.slice a1 k1 c1,.slice a2 k2 c2] 126) ((J4 w.heap.size w).alloc nr (.cells #[.bool m1,.slice a1 k1 c1,.slice a2 k2 c2] 126));obtain⟨Y1,X2,b2⟩:=zg (X1.out.alloc (.cells #[.bool m2,.slice a3 k3 c3,.slice a4 k4 c4] 126)) (Blk.new (w.alloc (.cells #[.bool m1,.slice a1 k1 c1,.slice a2 k2 c2] 126)) #[.bool m2,.slice a3 k3 c3,.slice a4 k4 c4] 126) (b1.out.alloc b1.out.size (.cells #[.bool m2,.slice a3 k3 c3,.slice a4 k4 c4] 126));obtain⟨P2,Q2⟩:=zu (hp.call b2.out) (hq.call b2.out);obtain⟨r0,r1,r2⟩:=qz Y1.out;obtain⟨s0,s1,s2⟩:=qz X2.out;clear hk1 hk2 hk3 hk4 hm1 hm2 hn1 hn2 hd1 hd2 hp hq hL sp sq hZ;go_enter func188,ntmps188;go_wp2_with fail;refine nw (F1 _ _ _ P2.out Q2.out) b2 fun w3 y3=>?_;go_wp2_with fail;go_ret2
 exact⟨rfl,y3.out⟩
def a1U (w:World)(s t:ByteArray)(hs:s.size<=1000000)(ht:t.size<=1000000)(hL:Lay w):
 qb 112 #[.string s,.string t] w (.tuple #[.int .i64 (cmB s t),.int .i64 (cmE s t)]):=by
 have H:=hid (x0Z w s t 188 (g0f (vQ s) (vQ t)) 0 hs ht hL (Cw func188 (by kernel_rfl) rfl)
  (fun W v u h1 h2 hv hu hLW=>a1T W v u _ _ hv hu (d0x h1) (d0x h2) hLW))
 rw[c2I,c2E]at H;obtain⟨B,hB⟩:=gn (cmB s t);obtain⟨E,hE⟩:=gn (cmE s t);rw[hB,hE]at H |-;clear hB hE hs ht hL;go_enter func112,ntmps112;go_wp2_with fail;refine nz H fun w3 y3=>?_;go_wp2_with fail;go_ret2
 exact⟨rfl,y3.out⟩
def m0l (w:World)(s t:ByteArray)(hs:s.size<=1000000)(ht:t.size<=1000000)(hL:Lay w):
 qb 146 #[.string s,.string t,.int .i64 1] w (.tuple #[.string (mnB s t),.int .i64 (cmE s t)]):=by
 have H:=hid (a1U w s t hs ht hL);unfold mnB;have h3:=l0A s t;obtain⟨B,hB⟩:=gn (cmB s t);obtain⟨E,hE⟩:=gn (cmE s t);rw[hB]at h3;rw[hB,hE]at H |-;clear hB hE hs ht hL;by_cases he:E=0
 .subst he;rcases h3 with rfl | rfl | rfl
  .go_enter func146,ntmps146;go_wp2_with fail;refine nz H fun w3 y3=>?_;go_wp2_with fail;go_ret2
   exact⟨rfl,y3.out⟩
  .go_enter func146,ntmps146;go_wp2_with fail;refine nz H fun w3 y3=>?_;go_wp2_with fail;go_ret2
   exact⟨rfl,y3.out⟩
  .go_enter func146,ntmps146;go_wp2_with fail;refine nz H fun w3 y3=>?_;go_wp2_with fail;go_ret2
   exact⟨rfl,y3.out⟩
 .rw[J2 he];have q1:(E != 0)=true:=by simpa using he
  clear he h3;go_enter func146,ntmps146;go_wp2_with fail;refine nz H fun w3 y3=>?_;go_wp2_with fail;go_ret2
  exact⟨rfl,y3.out⟩
def c1J (w:World)(s t:ByteArray)(hs:s.size<=1000000)(ht:t.size<=1000000)(hL:Lay w):
 qb 52 #[.string s,.string t] w (.tuple #[.string (mnB s t),.int .i64 (cmE s t)]):=by
 have H:=hid (m0l w s t hs ht hL);obtain⟨B,hB⟩:=gn (mnB s t);obtain⟨E,hE⟩:=gn (cmE s t);rw[hB,hE]at H |-;clear hB hE hs ht hL;go_enter func52,ntmps52;go_wp2_with fail;refine nz H fun w3 y3=>?_;go_wp2_with fail;go_ret2
 exact⟨rfl,y3.out⟩
def c1K (w:World)(n:Nat)(h:n<=9223372036854775807)(hL:Lay w):
 qb 51 #[.int .i64 (n:Nat)] w (.string (a0f n)):=by
 have H:=hid (w0p w n h hL);obtain⟨s,hs⟩:=gn (a0f n);rw[hs]at H |-;clear hs h hL;go_enter func51,ntmps51;go_wp2_with fail;refine nz H fun w3 y3=>?_;go_wp2_with fail;go_ret
 exact⟨rfl,y3.out⟩
def y0b (w:World)(v:Value)(q:Rat)(n g1:Nat)(z:Int)(hp:IsQ .u64 w v q)(sp:Sml 1000 q)(h0:q≠0)(hn1:1<=n)(hn:n<=1000000000)(hzn:z = -(n:Int))(hL:Lay w)(c1:w.cell? ⟨g1,0,none⟩=some (.int .i64 z)):
 qb 156 #[v,.pointer (some ⟨g1,0,none⟩)] w (.tuple #[.string (c0b (q⁻¹ ^ n)),.int .i64 (c0p (q⁻¹ ^ n))]):=by
 have FS:=fun V v hv=>hid (s0E V v q hv)
 have FI:=fun V v hv=>hid (b1P V v q hv h0)
 have sg:=c1E h0;have spi:=q0L h0 sp;obtain⟨sx,hz⟩:=gn (sgQ q);rw[hz]at FS sg;obtain⟨p,hpq⟩:=gn (q⁻¹);rw[hpq]at FI spi |-;have F1:=fun V v hv hV=>hid (s0e V v p.num.natAbs n hv (J0 spi.n (by omega)) (by omega) hV)
 have F2:=fun V v hv hV=>hid (s0e V v p.den n hv (J0 spi.d (by omega)) (by omega) hV)
 obtain⟨e1,e2,e3⟩:=h0u p n;have HOV:=hid (fun h=>n0R (q:=p) (n:=n) h);have F3:=fun V v hv hV (h1:nDigits (p.num.natAbs ^ n)<=4000) (h2:nDigits (p.den ^ n)<=4000)=>hid (s0F V v (p ^ n) hv (by rw[e2];exact J0 (a0n h1) (by omega)) (by rw[e3];exact J0 (a0n h2) (by omega)) hV)
 obtain⟨B,hB⟩:=gn (c0b (p ^ n));obtain⟨E,hE⟩:=gn (c0p (p ^ n));rw[hB,hE]at F3 HOV |-;clear hB hE;have HL:=hid hL;obtain⟨N1,D1,rfl,hn1',hd1⟩:=hp.ex;obtain⟨a1,c1',rfl,_⟩:=hn1'.openI;obtain⟨a2,c2',rfl,_⟩:=hd1.openI;obtain⟨k1,hk1⟩:=gn ((limbs q.num.natAbs).length);obtain⟨k2,hk2⟩:=gn ((limbs q.den).length);obtain⟨mq,hmq⟩:=gn (decide (q.num<0));rw[hk1,hk2,hmq]at hp |-;obtain⟨X1,b1⟩:=zu (Blk.new w #[.bool mq,.slice a1 k1 c1',.slice a2 k2 c2'] 126) ((J4 w.heap.size w).alloc nr (.cells #[.bool mq,.slice a1 k1 c1',.slice a2 k2 c2'] 126));have HP:=hid (hp.call b1.out);obtain⟨r0,r1,r2⟩:=qz X1.out;have C1:=(b1.out.cell (a0e c1)).trans c1;have q0:decide (z<0)=true:=Z7 (by omega);obtain⟨u,hu⟩:∃ u:Int,18446744073709551616-(n:Int)=u:=⟨_,rfl⟩;have w0:IntKind.u64.wrap z=u:=by simp[IntKind.wrap,IntKind.bits,IntKind.signed];omega
 have w1:IntKind.u64.wrap (-u)=(n:Int):=by simp[IntKind.wrap,IntKind.bits,IntKind.signed];omega
 obtain⟨E1,E2,E3⟩:=zg e1 e2 e3;clear hk1 hk2 hmq hn1' hd1 hp hL sp spi e1 e2 e3 c1 hn hn1 h0 hz hpq hzn hu;go_enter func156,ntmps156;go_wp2_with fail;refine ny (FS _ _ HP.out) fun w2 hb2=>?_;have y2:=qx b1 hb2;have X2:=hid (X1.out.call hb2);have C2:=(hb2.cell (a0e C1)).trans C1;have HP2:=hid (HP.out.call hb2);clear hb2 r0 r1 r2 C1;obtain⟨r0,r1,r2⟩:=qz X2.out;go_wp2_with fail;refine nu (FI _ _ HP2.out) fun vi w3 hvi hb3=>?_;have y3:=qx y2 hb3;have X3:=hid (X2.out.call hb3);obtain⟨N3,D3,rfl,hn3,hd3⟩:=hvi.ex;obtain⟨a3,c3,rfl,_⟩:=hn3.openI;obtain⟨a4,c4,rfl,_⟩:=hd3.openI;obtain⟨k3,hk3⟩:=gn ((limbs p.num.natAbs).length);obtain⟨k4,hk4⟩:=gn ((limbs p.den).length);obtain⟨m1,hm1⟩:=gn (decide (p.num<0));rw[hk3,hk4,hm1]at hvi |-;rw[hk3]at hn3;rw[hk4]at hd3;have E1':=E1.out;rw[hm1]at E1';obtain⟨E1,HN3,HD3⟩:=zg E1' hn3 hd3;clear hb3 r0 r1 r2 C2 hk3 hk4 hm1 hvi hn3 hd3 E1';obtain⟨r0,r1,r2⟩:=qz X3.out;obtain⟨f0,f1,f2⟩:=qq X3.out;obtain⟨s1,s2⟩:=c0C X3.out m1 a3 a4 k3 c3 k4 c4;obtain⟨N2,D2,X0⟩:=zg (s1 _ _ _ HN3.out) (s1 _ _ _ HD3.out) s2;have y0:Hid (Below w.heap.size w (((w3.setCell ⟨w.heap.size,0,none⟩ (.bool m1)).setCell ⟨w.heap.size,1,none⟩ (.slice a3 k3 c3)).setCell ⟨w.heap.size,2,none⟩ (.slice a4 k4 c4))):=((y3.out.setCell nr _).setCell nr _).setCell nr _;clear s1 s2;go_wp2_with fail;clear f0 f1 f2;refine (F1 _ _ N2.out (HL.out.call y0.out)).out.mono ?_;rintro e w3 ⟨hr3,hb3⟩;have y3:=qx y0 hb3;obtain⟨X3,D3⟩:=zu (X0.out.call hb3) (D2.out.call hb3);clear hb3 r0 r1 r2;obtain⟨r0,r1,r2⟩:=qz X3.out;rcases hr3 with ⟨l3,v3,rfl,hv3⟩ | ⟨l3,rfl⟩
 .obtain⟨a3,c3,rfl,_⟩:=hv3.openI;obtain⟨k3,hk3⟩:=gn ((limbs (p.num.natAbs ^ n)).length);rw[hk3]at hv3 |-;obtain⟨V3,L3⟩:=zu hv3 l3;clear hk3 hv3 l3;go_wp2_with fail;refine (F2 _ _ D3.out (HL.out.call y3.out)).out.mono ?_;rintro e w4 ⟨hr4,hb4⟩;have y4:=qx y3 hb4;obtain⟨X4,V4⟩:=zu (X3.out.call hb4) (V3.out.call hb4);clear hb4 r0 r1 r2;obtain⟨r0,r1,r2⟩:=qz X4.out;rcases hr4 with ⟨l4,v4,rfl,hv4⟩ | ⟨l4,rfl⟩
  .obtain⟨a4,c4,rfl,_⟩:=hv4.openI;obtain⟨k4,hk4⟩:=gn ((limbs (p.den ^ n)).length);rw[hk4]at hv4 |-;obtain⟨W4,L4⟩:=zu hv4 l4;clear hk4 hv4 l4;have M:=hid (show IsQ .u64 w4 (.agg #[.bool (m1 && decide (n%2=1)),.slice a3 k3 c3,.slice a4 k4 c4]) (p ^ n) from⟨_,_,by rw[E1.out],by rw[E2.out];exact V4.out,by rw[E3.out];exact W4.out⟩);obtain⟨Q,hQ⟩:=gn (p ^ n);rw[hQ]at F3 M;clear hQ HOV F1 F2;have F4:=F3 _ _ M.out (HL.out.call y4.out) L3.out L4.out;cases m1
   focus
    simp only[Jd]at F4
   rotate_left
   focus
    simp only[Dn]at F4;have e9:((n:Int)%2==1)=decide (n%2=1):=by
     rw[Bk,Fi,H7];omega
    rw[<- e9]at F4;clear e9
   all_goals
    go_wp2_with fail;refine nw F4 y4 fun w5 y5=>?_;go_wp2_with fail;go_ret2
    exact⟨rfl,y5.out⟩
  .have e7:=hid (HOV.out (.inr l4));clear l4;go_wp2_with fail;go_ret2
   exact⟨by rw[e7.out.1,e7.out.2];rfl,y4.out⟩
 .have e7:=hid (HOV.out (.inl l3));clear l3;go_wp2_with fail;refine (F2 _ _ D3.out (HL.out.call y3.out)).out.mono ?_;rintro e w4 ⟨hr4,hb4⟩;have y4:=qx y3 hb4;rcases hr4 with ⟨l4,v4,rfl,hv4⟩ | ⟨l4,rfl⟩
  .obtain⟨a4,c4,rfl,_⟩:=hv4.openI;obtain⟨k4,hk4⟩:=gn ((limbs (p.den ^ n)).length);rw[hk4];clear hk4 hv4 l4 hb4;go_wp2_with fail;go_ret2
   exact⟨by rw[e7.out.1,e7.out.2];rfl,y4.out⟩
  .clear l4 hb4;go_wp2_with fail;go_ret2
   exact⟨by rw[e7.out.1,e7.out.2];rfl,y4.out⟩
def pnB (n:Nat)(s:ByteArray):ByteArray:=z0U (fun q=>q⁻¹ ^ n) s
def pnE (n:Nat)(s:ByteArray):Int:=b1b (fun q=>q⁻¹ ^ n) s
def w0x (w:World)(s:ByteArray)(n:Nat)(z:Int)(hs:s.size<=1000000)(hq:qE s=0)(h0:vQ s≠0)(hn:n<=1000000000)(hzn:z = -(n:Int))(hL:Lay w):
 qb 57 #[.string s,.int .i64 z] w (.tuple #[.string (pnB n s),.int .i64 (pnE n s)]):=by
 by_cases hn0:n=0
 .subst hn0;obtain rfl:z=((0:Nat):Int):=by omega
  refine nj (c1I w s 0 hs (by omega) hL) fun w' hb=>?_;refine⟨?_,hb⟩;unfold pwB pwE pnB pnE z0U b1b;simp only[Oa]
 obtain⟨HL,b1,X1⟩:=zg hL ((J4 w.heap.size w).alloc nr (.cells #[.int .i64 z] 3)) (Blk.new w #[.int .i64 z] 3);obtain⟨g1,hg1⟩:=gn (w.heap.size);obtain⟨w1,hw1⟩:=gn (w.alloc (.cells #[.int .i64 z] 3));have L1:=hid (HL.out.call b1.out);rw[hw1]at b1 X1 L1;rw[hg1]at X1
 have W1:=hid (n0P w1 s 156 #[.pointer (some ⟨g1,0,none⟩)] (c0b ((vQ s)⁻¹ ^ n)) (c0p ((vQ s)⁻¹ ^ n)) hs L1.out (Cw func156 (by kernel_rfl) rfl)
  (fun W v hq hb hv hLW=>y0b W v (vQ s) n g1 z hv (d0x hq) h0 (by omega) hn hzn hLW ((X1.out.call hb).cell 0)))
 have e1:wB (c0b ((vQ s)⁻¹ ^ n)) s=pnB n s:=rfl;have e2:wE (c0p ((vQ s)⁻¹ ^ n)) s=pnE n s:=rfl;rw[e1,e2]at W1;obtain⟨B,hB⟩:=gn (pnB n s);obtain⟨E,hE⟩:=gn (pnE n s);rw[hB,hE]at W1 |-;obtain⟨HW,HG⟩:=zu hw1 hg1;clear hB hE hs hL hn e1 e2 hw1 hg1 hq h0 hn0 hzn;go_enter func57,ntmps57;go_wp2_with fail;have hw1:=HW.out;have hg1:=HG.out;rw[hw1,hg1];refine nw W1 b1 fun w2 y2=>?_;clear hw1 hg1;go_wp2_with fail;go_ret2
 exact⟨rfl,y2.out⟩
end
end Go.Proofs.YtfkpfpobmobnbaaGreatDoor
