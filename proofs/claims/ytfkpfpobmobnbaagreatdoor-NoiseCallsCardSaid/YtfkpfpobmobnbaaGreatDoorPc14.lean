/- Texts that the proof rests on, merged: Nla, Na2, Fd12, Nap, Nad, FrC, Rt4i, RtC, ChLt, Rt8, Na5, Sn0, Nn0, PkL, Lits, KsI, Nlv, KoB, NpC. -/
import Derived.Test.YtfkpfpobmobnbaaGreatDoorPc13
import Derived.IntWalk
import Derived.RangeFuncBox
import Derived.Scope
set_option linter.defProp false
set_option linter.unusedVariables false
set_option linter.unusedSimpArgs false
set_option linter.unusedSectionVars false
set_option maxRecDepth 100000
set_option maxHeartbeats 8000000
namespace Go.Proofs.YtfkpfpobmobnbaaGreatDoor
section
open Go.RowKit Go.Sort Go.Shelf Go.Maps
open Go.Lib (decDigits nDigits)
def m0Y (p q:ByteArray×ByteArray)(w:World):Calls Tryz.prog 66 #[.agg #[.string p.1,.string p.2],.agg #[.string q.1,.string q.2]] w fun e w'=>e=.returned (.int .i64 (o0V p q))/\∃ n os',w'=grow (w.drewN n) os':=by
 obtain⟨p1,p2⟩:=p;obtain⟨q1,q2⟩:=q;dsimp only;have HC:=fun V=>hid (k0b V p1 q1)
 unfold o0V b0C;dsimp only;obtain⟨r,hr⟩:∃ r:Int,(if p1.data.toList<q1.data.toList then (-1:Int) else if q1.data.toList<p1.data.toList then 1 else 0)=r:=⟨_,rfl⟩;rw[hr]at HC |-;clear hr;go_enter Tryz.func66,Tryz.ntmps66;go_wp2_with fail;refine zx (HC _) ?_;go_wp2_with fail;go_ret
 exact⟨rfl,0,_,by rw[Lr,Lr,grow_grow];rfl⟩
def q0O (w:World)(v:Value)(c:List Int)(a:ByteArray)(n:Nat)(hv:Row w v (zs c))(ha:a.size<=100000)(h0:nlE c a (n:Nat)=0)(h9:(2*n+1) ^ c.length<=2300)(hL:LayB w):
 Calls Tryz.prog 16 #[v,.string a,.int .i64 (n:Nat)] w fun e w'=>(∃ u,e=.returned (.tuple #[u,.int .i64 0])/\MRow w' u (nlR c a (n:Nat)))/\Below w.heap.size w w':=by
 obtain⟨i0,hi,hz0,hz1,hz2⟩:=Cl e0N;obtain⟨hzE,hg,-,hn32,-⟩:=h0W h0;have hn:n<=32:=by omega
 obtain⟨hcl,hcr⟩:=d0Y hzE;have hgl0:glE a (n:Nat) 32=0:=by unfold glE;rw[Q0 (by simpa using hg),Q0 (by omega)]
 have hglR:glR a (n:Nat) true=a0B (glP (gV (bN (cW a)) (bN (qD a)) true n) (2 ^ n) n (gL (bN (cW a)) (bN (qD a)) true n)):=by unfold glR;rw[U0 hgl0,An]
 have hR:=q0J h0;have hO:=q0K hg (n:Nat);have hA:=x0x hg (n:Nat);rw[An]at hR hO hA;have hGG:nlG a (n:Nat)=gV (bN (cW a)) (bN (qD a)) true n:=rfl;rw[hR];have HCK:=fun V hV=>hid (i0Q V v c hV)
 have HTL:=fun V hV=>hid (n0j V a (n:Nat) ha hV)
 simp only[hzE]at HCK;simp only[hgl0,hglR]at HTL;have hN1:2*n+1<=1000:=by omega
 have HMY:=fun V=>hid (q0N V (2*n+1) c.length (by omega) hN1 (by omega))
 rw[I7 (show ¬ 5000<(2*n+1) ^ c.length by omega)]at HMY;rw[<- hGG]at HTL;obtain⟨g,hgg⟩:=gn (nlG a (n:Nat));obtain⟨r,hrr⟩:=gn (gL (bN (cW a)) (bN (qD a)) true n);rw[hgg]at hO hA |-;rw[hrr]at hA;simp only[hgg,hrr]at HTL;have hMs:∀ p∈a0B (glP g (2 ^ n) n r),(∃ v:Int,-(n:Int)<=v/\v<=n/\p.1=zB v/\kz p.1=some v/\p.2=dyB (g v) n)\/(p.1=b0h/\kz p.1=none):=fun p hp=>u0S hp
 have hRun:=t0i g (2 ^ n) n r;have hPerm:=s0o g (2 ^ n) n r;have hlen:(a0B (glP g (2 ^ n) n r)).length<=100:=by
  rw[c0f];have:(glP g (2 ^ n) n r).length<=2*n+2:=by
   unfold glP glM;rw[J4];have h:=Hd (fun (j:Nat)=>if g ((j:Int)-n)=0 then none else some (zB ((j:Int)-n),shB (g ((j:Int)-n)) (2 ^ n))) (List.range (2*n+1));rw[Nm]at h;have h2:(if r=0 then ([]:List (ByteArray×ByteArray)) else [(b0h,shB r (2 ^ n))]).length<=1:=by split<;>simp
   omega
  omega
 obtain⟨d,hd⟩:=gn (a0B (glP g (2 ^ n) n r));simp only[hd]at HTL;rw[hd]at hMs hRun hPerm hlen;have HCH:=fun V u hu hV=>hid (o0p V u d g n hu hMs hlen hn hV)
 have hcT:chT g n d d.length=(chS d).map fun v=>(v,dyB (g v) n):=by unfold chT;rw[Bq]
 simp only[hcT]at HCH;obtain⟨vs,hvs⟩:=gn (chS d);rw[hvs]at hPerm hRun;simp only[hvs]at HCH;have hsum:sV g vs=zS n g:=hRun g fun v h=>h
 have hTz:zS n g<=2 ^ n:=by omega
 have hgv:∀ v∈vs,g v<=2 ^ n /\ -1000<=v/\v<=1000:=fun v hv=>by
  have:=u0V (hPerm.mem_iff.1 hv);exact⟨E0 (w0g hO v) hTz,by omega,by omega⟩
 have hnv:vs.length<=2*n+1:=by rw[hPerm.length_eq];exact i0o g n
 have hnvp:vs.length ^ c.length<=2300:=E0 (Dn hnv _) h9;have hM5:n*c.length<=900:=by
  obtain⟨-,-,-,h32,-⟩:=h0W h0;by_cases h00:n=0
  .rw[h00,Fi];omega
  .have hK:c.length<=7:=by
    refine J8 fun hc=>?_
    have h1:3 ^ 8<=(2*n+1) ^ c.length:=E0 (Dn (show 3<=2*n+1 by omega) 8) (Z4 (by omega) (by omega));have h2:(3:Nat) ^ 8=6561:=by decide
    omega
   have h3:n*c.length<=32*7:=Aw (by omega) hK;omega
 have hnd:vs.Nodup:=hPerm.nodup_iff.2 (n0x g n);rw[<- t0O hO hPerm c];have hND:=q0G (g:=g) (n:=n) hnd c;obtain⟨M,hM⟩:=gn (n*c.length);have hPP:nyP g vs n c=nyD g vs M c [] 1++if nzR g n c.length=0 then [] else [(b0h,dyB (nzR g n c.length) M)]:=by unfold nyP nyD;rw[hM]
 have hDl:(nyD g vs M c [] 1).length<=2300:=by rw[f0d];exact hnvp
 have hRl:nzR g n c.length<=2 ^ M:=by rw[<- hM];exact v0t g n _
 have hRd:2 ^ M-1*zS n g ^ c.length=nzR g n c.length:=by unfold nzR;rw[Ds,hM]
 have hpw:1*zS n g ^ c.length<=2 ^ M:=by rw[Ds,<- hM];exact v0f hTz _
 obtain⟨HV,HL⟩:=zg hv hL;have hcap:∀ k,c ≠ []->v.ownBlock=some k->k<w.heap.size:=fun k hne e=>by
  obtain⟨s,cp,rfl,-,-,q3⟩:=hv.openZ;obtain⟨x,hx⟩:∃ x,c[0]?=some x:=⟨_,J0 (Ea.2 hne)⟩;obtain⟨g',o',rfl,hg',-⟩:=q3 0 x hx;cases e;exact hg'
 obtain⟨s,cp,rfl,q1,q2,q3⟩:=hv.openZ;obtain⟨HCAP,HSUM,HTZ,HGV,HNV,HCR,HCL,HM,HM5,HPP,HDL,HRL⟩:=kg hcap hsum hTz hgv hnv hcr hcl hM hM5 hPP hDl hRl;obtain⟨HRD,HPW,HND,HNVP,HN32⟩:=zf hRd hpw hND hnvp hn;obtain⟨T,hT⟩:=gn (zS n g);obtain⟨L,hLc⟩:=gn (c.length);obtain⟨R,hRR⟩:=gn (nzR g n c.length);rw[hT]at HSUM HTZ HRD HPW;rw[hRR]at HPP HRL HRD;have HLC:=hid hLc;rw[hLc]at HV HMY HCAP q1 |-;simp only[hLc]at HCK;obtain⟨Ld,hLd⟩:=gn (d.length);have HLD:=hid hLd;have wm1:IntKind.i64.wrap (2*(n:Int))=2*(n:Int):=by rw[O0 _ ⟨by omega,by omega⟩]
 have wm2:IntKind.i64.wrap (2*(n:Int)+1)=((2*n+1:Nat):Int):=by rw[O0 _ ⟨by omega,by omega⟩];omega
 obtain⟨N2,hN2⟩:=gn (2*n+1);rw[hN2]at HMY wm2;obtain⟨A0,X0⟩:=zg ((J3 w.heap.size w).alloc nr (.cells #[.slice s L cp] 22)) (Blk.new w #[.slice s L cp] 22);clear hv ha h0 h9 hL hzE hg hn32 hn hcl hcr hgl0 hglR hR hO hA hGG hgg hrr hMs hRun hPerm hlen hcT hvs hsum hTz hgv hnv hnvp hM5 hnd hND hPP hDl hRl hRd hpw hcap q3 hd hM hN1 hT hRR hLc hN2;go_enter Tryz.func16,Tryz.ntmps16;go_wp2_with fail;refine zx (HCK _ (HV.out.call A0.out)) ?_;obtain⟨w0,hw0⟩:=gn (w.alloc (.cells #[.slice s L cp] 22));rw[hw0]at A0 X0 |-;clear hw0;have x00:=X0.out.cell 0;simp at x00;go_wp2_with fail;refine (HTL _ (HL.out.call A0.out).l).out.mono ?_;rintro e w2 ⟨⟨u2,rfl,hu2⟩,hb2⟩;obtain⟨B2,X2,U2⟩:=zc (a0a A0.out hb2) (X0.out.call hb2) hu2;obtain⟨ad,cd,rfl,-,-,-⟩:=hu2.ex;rw[HLD.out]at U2 |-;have x20:=X2.out.cell 0;simp at x20;clear hb2 hu2 x00;go_wp2_with fail;refine (HMY _).out.mono ?_;rintro e w3 ⟨rfl,rfl⟩;go_wp2_with fail;refine (HCH _ _ U2.out (HL.out.call B2.out)).out.mono ?_;rintro e w3 ⟨⟨u3,rfl,ho3⟩,hb3⟩;obtain⟨B3,X3,O3,P3⟩:=zd (a0a B2.out hb3) (X2.out.call hb3) ho3 (PRow.of_owns ho3);obtain⟨a3,c3,e3,-,-,-⟩:=P3.out.ex;clear hb3 ho3 x20;subst e3;rw[Aa]at P3 O3;obtain⟨G,hG⟩:=gn (w3.heap.size);obtain⟨HG,S3,XE,XR,XD,XL,XC,BD,ZS⟩:=ky hG B3.out.size (Blk.made (((w3.alloc (.cells #[.slice a3 vs.length c3] 69)).alloc (.cells #[.slice none 0 0] 37)).alloc (.cells #[.string ⟨#[49]⟩] 23)) #[.nilFunc] 71 (n:=w3.heap.size+1+1+1) (by simp)) ((Blk.made ((w3.alloc (.cells #[.slice a3 vs.length c3] 69)).alloc (.cells #[.slice none 0 0] 37)) #[.string ⟨#[49]⟩] 23 (n:=w3.heap.size+1+1) (by simp)).alloc (.cells #[.nilFunc] 71)) (((Blk.made (w3.alloc (.cells #[.slice a3 vs.length c3] 69)) #[.slice none 0 0] 37 (n:=w3.heap.size+1) (by simp)).alloc (.cells #[.string ⟨#[49]⟩] 23)).alloc (.cells #[.nilFunc] 71)) ((((Blk.new w3 #[.slice a3 vs.length c3] 69).alloc (.cells #[.slice none 0 0] 37)).alloc (.cells #[.string ⟨#[49]⟩] 23)).alloc (.cells #[.nilFunc] 71)) ((((X3.out.alloc (.cells #[.slice a3 vs.length c3] 69)).alloc (.cells #[.slice none 0 0] 37)).alloc (.cells #[.string ⟨#[49]⟩] 23)).alloc (.cells #[.nilFunc] 71)) (((((J3 w3.heap.size w3).alloc nr (.cells #[.slice a3 vs.length c3] 69)).alloc (by simp) (.cells #[.slice none 0 0] 37)).alloc (by simp<;>omega) (.cells #[.string ⟨#[49]⟩] 23)).alloc (by simp<;>omega) (.cells #[.nilFunc] 71)) (show ((((w3.alloc (.cells #[.slice a3 vs.length c3] 69)).alloc (.cells #[.slice none 0 0] 37)).alloc (.cells #[.string ⟨#[49]⟩] 23)).alloc (.cells #[.nilFunc] 71)).heap.size=w3.heap.size+1+1+1+1 by simp);rw[hG]at XE XR XD XL ZS S3;have s3:=S3.out
 go_upto_region 13 with fail
 obtain⟨W0,hW0⟩:=gn (((((w3.alloc (.cells #[.slice a3 vs.length c3] 69)).alloc (.cells #[.slice none 0 0] 37)).alloc (.cells #[.string ⟨#[49]⟩] 23)).alloc (.cells #[.nilFunc] 71)));rw[hW0]at XE XR XD XL XC BD ZS |-;clear hW0;have e0:=XE.out.cell 0;have e1:=XE.out.free 0;simp at e0;have e2:=(XE.out.set 0 (.func (.func 62) #[] #[.pointer (some ⟨w.heap.size,0,none⟩),.pointer (some ⟨G+1,0,none⟩),.pointer (some ⟨G+1+1,0,none⟩),.pointer (some ⟨G,0,none⟩),.pointer (some ⟨G+1+1+1,0,none⟩)])).cell 0;simp at e2;have hsf:=fun (ad:Addr) (cs:Array Value) (V:World)=>run_store Tryz.prog V ad (.func (.func 62) #[] cs) .plain rfl
 clear hG;go_wp2_with fail;clear hsf;obtain⟨W1,hW1⟩:=gn (W0.setCell ⟨G+1+1+1,0,none⟩ (.func (.func 62) #[] #[.pointer (some ⟨w.heap.size,0,none⟩),.pointer (some ⟨G+1,0,none⟩),.pointer (some ⟨G+1+1,0,none⟩),.pointer (some ⟨G,0,none⟩),.pointer (some ⟨G+1+1+1,0,none⟩)]));have YE:Hid (Blk W1 (G+1+1+1) #[.func (.func 62) #[] #[.pointer (some ⟨w.heap.size,0,none⟩),.pointer (some ⟨G+1,0,none⟩),.pointer (some ⟨G+1+1,0,none⟩),.pointer (some ⟨G,0,none⟩),.pointer (some ⟨G+1+1+1,0,none⟩)]] 71):=by rw[<- hW1];show Blk _ _ _ _;have:=XE.out.set 0 (.func (.func 62) #[] #[.pointer (some ⟨w.heap.size,0,none⟩),.pointer (some ⟨G+1,0,none⟩),.pointer (some ⟨G+1+1,0,none⟩),.pointer (some ⟨G,0,none⟩),.pointer (some ⟨G+1+1+1,0,none⟩)]);simpa using this
 have YR:Hid (Blk W1 (G+1+1) #[.string ⟨#[49]⟩] 23):=by rw[<- hW1];exact XR.out.other (by simp) _
 have YD:Hid (Blk W1 (G+1) #[.slice none 0 0] 37):=by rw[<- hW1];exact XD.out.other (by simp<;>omega) _
 have YL:Hid (Blk W1 G #[.slice a3 vs.length c3] 69):=by rw[<- hW1];exact XL.out.other (by simp<;>omega) _
 have YC:Hid (Blk W1 w.heap.size #[.slice s L cp] 22):=by rw[<- hW1];exact XC.out.other (by simp<;>omega) _
 have BW:Hid (Below w3.heap.size w3 W1):=by rw[<- hW1];exact BD.out.setCell (by rw[HG.out];simp<;>omega) _
 have ZW:Hid (W1.heap.size=G+1+1+1+1):=by rw[<- hW1];show (World.setCell _ _ _).heap.size=_;rw[Gw];exact ZS.out
 rw[hW1];clear e0 e1 e2 XE XR XD XL XC BD ZS hW1;have zw:=ZW.out;have hES:ExS w W1 (G+1) (G+1+1) [] (2 ^ M) M W1:=by
  refine⟨by omega,by omega,by omega,by omega,by omega,by omega,Z3 _,fun _ _ _ _=>rfl,⟨_,YD.out,Ba _ _ _ _⟩,?_,?_⟩
  .rw[y0e];exact YR.out
  .exact B3.out.trans (BW.out.mono (by rw[HG.out];exact s3))
 have hrl:PRow W1 (.slice a3 vs.length c3) (vs.map fun v=>(v,dyB (g v) n)):=P3.out.call BW.out;have hrc:Row W1 (.slice s L cp) (zs c):=HV.out.call hES.bel;have hap:∀ k,(c ≠ []/\(Value.slice s L cp).ownBlock=some k)\/(vs ≠ []/\(Value.slice a3 vs.length c3).ownBlock=some k)->k≠G+1/\k≠G+1+1:=fun k hk=>by
  rcases hk with ⟨h1,h2⟩ | ⟨h1,h2⟩
  .have:=HCAP.out k h1 h2;omega
  .have:k<w3.heap.size:=(O3.out.lt k h2).2;rw[HG.out]at this;omega
 have HX0:=a1a w W1 w.heap.size (G+1) (G+1+1) G (G+1+1+1) (.slice s L cp) (.slice a3 vs.length c3) c g n vs.length T vs M YC.out hrc YL.out hrl YE.out ⟨by omega,by omega,by omega,by omega,by omega,by omega⟩ hap HL.out.l HSUM.out HTZ.out HGV.out rfl (by have:=HNV.out;have:=HN32.out;omega) HCR.out HCL.out HM.out (by have:=HM5.out;have:=HM.out;omega) L 0 [] 1 [] (2 ^ M) W1 rfl (by rw[HLC.out];omega) hES (by rw[Eu];exact Z3 _) (by have:=HPW.out;rw[HLC.out]at this;exact this) nr (by have:=HNVP.out;rw[HLC.out]at this;simp;omega) (by simp);rw[Eu,v0U,Dk,A9]at HX0;have hrd:=HRD.out;rw[HLC.out]at hrd;rw[hrd]at HX0;have HX:=hid HX0;have LD:Hid (vs.length ^ L=(nyD g vs M c [] 1).length):=by show _=_;rw[f0d,HLC.out]
 clear hES hrl hrc hap HX0 hrd YE YR YD YL YC X3 U2 P3 O3;refine HX.out.mono ?_;rintro e w4 ⟨⟨uu,rfl⟩,hE4⟩;have E4:=hid hE4;clear hE4;by_cases hR0:R=0
 .have r0:=E4.out.rr.cell 0;rw[hR0,l0L]at r0;simp at r0;have hPP:=HPP.out;rw[U0 hR0,Bw]at hPP;have EF:=hid E4.out;rw[<- hPP]at EF;have HFL:Hid ((nyP g vs n c).length<=3000):=by show _<=_;rw[hPP];have:=HDL.out;omega
  have HPOS:Hid (0<(nyP g vs n c).length):=by
   show 0<_
   rw[hPP,<- LD.out];have h1:=HRD.out;rw[HLC.out,hR0,Ds]at h1;have h2:=HPW.out;rw[HLC.out,Ds]at h2;have h3:0<2 ^ M:=Ej (by omega);by_cases hL0:L=0
   .rw[hL0,Db];omega
   .refine Ej (Bv fun hv0=>?_);have h4:T=0:=by rw[<- HSUM.out,Ct.1 hv0];rfl
    rw[h4,Nat.zero_pow (by omega)]at h1;omega
  obtain⟨VV,hVV⟩:=gn w4;subst hVV;clear hPP hR0;obtain⟨vd,h1,h2⟩:=EF.out.d;obtain⟨gd,cap,rfl,-,-⟩:=h2.form HPOS.out;have y1:=h1.cell 0;simp at y1;have hlt1:=EF.out.ltd;have hfl:=HFL.out;rcases h2.2 with ⟨e1,_⟩ | ⟨g',cap',cur,e1,hgb,hgh,p1,p2,p3,p4⟩
  .simp at e1
  simp only[Ic,At,Ia,and_true,true_and]at e1;obtain⟨rfl,rfl⟩:=e1;have hSM:=l0g 66 gd cap W1.heap.size (nyP g vs n c).toArray w4 cur hgb hgh (by simp;omega) p2 p3 (by simp;exact p4) (by simp;omega) (by simpa using HND.out) (Cx Tryz.func66 (by kernel_rfl) rfl) (fun x y W=>m0Y x y W);simp only[Ae]at hSM;have HSM:=hid hSM;obtain⟨FL,hFLe⟩:=gn ((nyP g vs n c).length);rw[hFLe]at HSM y1;clear hSM p1 p2 p3 p4 hgh hgb hfl h1 h2 hFLe;go_wp2_with fail;refine HSM.out.mono ?_;rintro e w8 ⟨rfl,ho8,hb8⟩;have y8:=(hb8.cell (p:=⟨G+1,0,none⟩) hlt1).trans y1;obtain⟨M8,B8⟩:=zg (MRow.of_owns ho8) (EF.out.bel.trans (hb8.mono EF.out.big));clear ho8 hb8 y1;go_wp2_with fail;go_ret2
  exact⟨⟨_,rfl,M8.out⟩,B8.out⟩
 .have hRle:=HRL.out;have hne:dyB R M≠⟨#[48]⟩:=fun e=>hR0 ((f0q hRle (by have:=HM5.out;have:=HM.out;omega)).1 e)
  have r0:=E4.out.rr.cell 0;simp at r0;obtain⟨RT,hRT⟩:=gn (dyB R M);rw[hRT]at r0 hne;have t0:(RT.toList == [48])=false:=a0I hne;have hPP:=HPP.out;rw[Q0 hR0,hRT]at hPP;have HPP2:=hid hPP;obtain⟨v0,h1,h2⟩:=E4.out.d;obtain⟨H1,H2⟩:=zg h1 h2;have y0:=h1.cell 0;simp at y0;have hDl:=HDL.out;clear h1 h2 hRle hne hPP hR0 hRT
  go_wp2_with (at_builtin;refine Bo _ rfl _ _ 37 rfl W1.heap.size 42 i0 (.agg #[.string ⟨#[]⟩,.string ⟨#[]⟩]) 2 32 Br hi hz0 hz1 hz2 rfl (by decide) _ (nyD g vs M c [] 1).length _ rfl (H2.out.alloc _) ⟨w4.heap.size,0,none⟩ 1 1 [.string ⟨#[108,97,116,101]⟩,.string RT] rfl rfl (Nh w4 (.string ⟨#[108,97,116,101]⟩) (.string RT) 42) (by simp[Value.oneCell']) (by unfold maxLen;omega) (by omega) (by have:=E4.out.size;simp;omega) ?_
               intro v' w5 hown hgrow _;obtain⟨g5,cap5,rfl⟩:=Jd hown;have E5:=hid (E4.out.app (p:=(⟨#[108,97,116,101]⟩,RT)) H1.out H2.out hown hgrow);have n1:v0.ownBlock≠some (G+1):=fun e=>by have:=(H2.out.lt _ e).1;have:=E4.out.ltd;omega
               have k0:=((H1.out.alloc (.cells #[.string ⟨#[108,97,116,101]⟩,.string RT] 42)).grown hgrow n1).cell 0;have k1:=((H1.out.alloc (.cells #[.string ⟨#[108,97,116,101]⟩,.string RT] 42)).grown hgrow n1).free 0;simp at k0;have k2:(w5.setCell ⟨G+1,0,none⟩ (.slice (some ⟨g5,0,none⟩) ((nyD g vs M c [] 1).length+1) cap5)).cell? ⟨G+1,0,none⟩=some (.slice (some ⟨g5,0,none⟩) ((nyD g vs M c [] 1).length+1) cap5):=by
                have:=(((H1.out.alloc (.cells #[.string ⟨#[108,97,116,101]⟩,.string RT] 42)).grown hgrow n1).set 0 (.slice (some ⟨g5,0,none⟩) ((nyD g vs M c [] 1).length+1) cap5)).cell 0;simpa using this
               have O5:=hid (show (w5.setCell ⟨G+1,0,none⟩ (.slice (some ⟨g5,0,none⟩) ((nyD g vs M c [] 1).length+1) cap5)).ownsRow W1.heap.size 42 2 (.slice (some ⟨g5,0,none⟩) ((nyD g vs M c [] 1).length+1) cap5) ((nyD g vs M c [] 1).length+1) (a0R (nyP g vs n c)) from by
                have h3:=Cr (a:=⟨G+1,0,none⟩) hown E4.out.ltd (.slice (some ⟨g5,0,none⟩) ((nyD g vs M c [] 1).length+1) cap5);rw[HPP2.out,b0m];exact h3)
               have hl:(nyD g vs M c [] 1).length+1=(nyP g vs n c).length:=by rw[HPP2.out,J4];rfl
               rw[hl]at E5 O5 k2;obtain⟨V5,hV5⟩:=gn (w5.setCell ⟨G+1,0,none⟩ (.slice (some ⟨g5,0,none⟩) (nyP g vs n c).length cap5));rw[hV5]at E5 O5 k2;have HV5:=hid hV5;clear hown hgrow n1 y0 hV5)
  rw[HV5.out];have h2:=O5.out;have y1:=k2;have hlt1:=E5.out.ltd;have hfl:(nyP g vs n c).length<=3000:=by have:=HDL.out;omega
  rcases h2.2 with ⟨e1,_⟩ | ⟨g',cap',cur,e1,hgb,hgh,p1,p2,p3,p4⟩
  .simp at e1
  simp only[Ic,At,Ia,and_true,true_and]at e1;obtain⟨rfl,rfl⟩:=e1;have hSM:=l0g 66 g5 cap5 W1.heap.size (nyP g vs n c).toArray V5 cur hgb hgh (by simp;omega) p2 p3 (by simp;exact p4) (by simp;omega) (by simpa using HND.out) (Cx Tryz.func66 (by kernel_rfl) rfl) (fun x y W=>m0Y x y W);simp only[Ae]at hSM;have HSM:=hid hSM;obtain⟨FL,hFLe⟩:=gn ((nyP g vs n c).length);rw[hFLe]at HSM y1 |-;clear hSM p1 p2 p3 p4 hgh hgb hfl h2 hFLe k2 hl k0 k1 r0
  try go_wp2_with fail
  refine HSM.out.mono ?_;rintro e w8 ⟨rfl,ho8,hb8⟩;have y8:=(hb8.cell (p:=⟨G+1,0,none⟩) hlt1).trans y1;obtain⟨M8,B8⟩:=zg (MRow.of_owns ho8) (E5.out.bel.trans (hb8.mono E5.out.big));clear ho8 hb8 y1;go_wp2_with fail;go_ret2
  exact⟨⟨_,rfl,M8.out⟩,B8.out⟩
def v0z (w:World)(v:Value)(c:List Int)(a:ByteArray)(n:Int)(hv:Row w v (zs c))(ha:a.size<=100000)(h9:nlE c a n=0->(2*n.toNat+1) ^ c.length<=2300)(hL:LayB w):
 Calls Tryz.prog 16 #[v,.string a,.int .i64 n] w fun e w'=>(∃ u,e=.returned (.tuple #[u,.int .i64 (nlE c a n)])/\MRow w' u (nlR c a n))/\Below w.heap.size w w':=by
 by_cases h0:nlE c a n=0
 .obtain⟨-,-,hn0,-,-⟩:=h0W h0;obtain⟨m,rfl⟩:∃ m:Nat,n=(m:Nat):=⟨n.toNat,by omega⟩;have h:=h9 h0;rw[An]at h;rw[h0];exact q0O w v c a m hv ha h0 h hL
 .have e2:nlR c a n = []:=Q0 h0;rw[e2];have HCK:=fun V hV=>hid (i0Q V v c hV)
  have HTL:=fun V hV=>hid (n0j V a n ha hV)
  obtain⟨s,cp,rfl,q1,q2,q3⟩:=hv.openZ;obtain⟨HV,HL⟩:=zg hv hL;obtain⟨L,hLc⟩:=gn (c.length);unfold nlE at h0 |-;obtain⟨z,hz⟩:=gn (zE c);have hz0:=hz;rw[hz]at h0 |-;simp only[hz,hLc]at HCK;rw[hLc]at HV h0 q1 |-;obtain⟨A0,X0⟩:=zg ((J3 w.heap.size w).alloc nr (.cells #[.slice s L cp] 22)) (Blk.new w #[.slice s L cp] 22);by_cases c0:z=0
  case neg=>
   rw[U0 c0];have t0:(z==0)=false:=by rw[U4];exact c0
   clear hv q3 hLc hz hz0 h0 c0 ha hL h9;go_enter Tryz.func16,Tryz.ntmps16;go_wp2_with fail;refine (HCK _ (HV.out.call A0.out)).out.mono ?_;rintro e w1 ⟨rfl,rfl⟩;go_wp2_with fail;go_ret2
   exact⟨⟨_,rfl,MRow.nil _⟩,A0.out⟩
  subst c0;rw[Q0 (by simp)]at h0 |-;obtain⟨y,hy⟩:=gn (glE a n 32);obtain⟨LR,hLR⟩:=gn (glR a n true);have hy0:=hy;rw[hy]at h0 |-;simp only[hy,hLR]at HTL;obtain⟨LL,hLL⟩:=gn (LR.length);by_cases c1:y=0
  case neg=>
   rw[U0 c1];have t0:(y==0)=false:=by rw[U4];exact c1
   clear hv q3 hLc hz hz0 h0 c1 ha hL h9 hy hy0 hLR hLL;go_enter Tryz.func16,Tryz.ntmps16;go_wp2_with fail;refine (HCK _ (HV.out.call A0.out)).out.mono ?_;rintro e w1 ⟨rfl,rfl⟩;go_wp2_with fail;refine (HTL _ (HL.out.call A0.out).l).out.mono ?_;rintro e w2 ⟨⟨u2,rfl,hu2⟩,hb2⟩;have B2:=hid (a0a A0.out hb2);obtain⟨ad,cd,rfl,-,-,-⟩:=hu2.ex;clear hu2 hb2;go_wp2_with fail;go_ret2
   exact⟨⟨_,rfl,MRow.nil _⟩,B2.out⟩
  subst c1;rw[Q0 (by simp)]at h0 |-;have h5:5000<(2*n.toNat+1) ^ L:=J8 fun h=>h0 (Q0 h)
  rw[U0 h5];obtain⟨-,hn0,hn32⟩:=r0D hy0;obtain⟨m,rfl⟩:∃ m:Nat,n=(m:Nat):=⟨n.toNat,by omega⟩;rw[An]at h5;have hl256:L<=256:=by rw[<- hLc];exact (d0Y hz0).1
  have HMY:=fun V=>hid (q0N V (2*m+1) L (by omega) (by omega) (by omega))
  rw[I8 h5]at HMY;have wm1:IntKind.i64.wrap (2*(m:Int))=2*(m:Int):=by rw[O0 _ ⟨by omega,by omega⟩]
  have wm2:IntKind.i64.wrap (2*(m:Int)+1)=((2*m+1:Nat):Int):=by rw[O0 _ ⟨by omega,by omega⟩];omega
  obtain⟨N2,hN2⟩:=gn (2*m+1);rw[hN2]at HMY wm2;clear hv q3 hLc hz hz0 h0 ha hL h9 hy hy0 hLR hLL h5 hn0 hn32 hl256 hN2;go_enter Tryz.func16,Tryz.ntmps16;go_wp2_with fail;refine zx (HCK _ (HV.out.call A0.out)) ?_;obtain⟨w0,hw0⟩:=gn (w.alloc (.cells #[.slice s L cp] 22));rw[hw0]at A0 X0 |-;clear hw0;go_wp2_with fail;refine (HTL _ (HL.out.call A0.out).l).out.mono ?_;rintro e w2 ⟨⟨u2,rfl,hu2⟩,hb2⟩;have B2:=hid (a0a A0.out hb2);have x20:=(X0.out.call hb2).cell 0;simp at x20;obtain⟨ad,cd,rfl,-,-,-⟩:=hu2.ex;clear hu2 hb2;go_wp2_with fail;refine zx (HMY _) ?_;go_wp2_with fail;go_ret2
  exact⟨⟨_,rfl,MRow.nil _⟩,B2.out⟩
end
section
open Go.RowKit Go.Shelf
open Go.Lib (decDigits nDigits)
def t0Z (w:World)(v:Value)(l:List ByteArray)(m:Int)(h:Row w v (e0p l))(hsz:∀ b∈l,b.size<=100000000):
 Calls Tryz.prog 42 #[v,.int .i64 m] w fun e w'=>e=.returned (.int .i64 (wdE l m))/\Below w.heap.size w w':=by
 obtain⟨a,c,rfl,h1,h2,h3⟩:=h.openS;obtain⟨n,hn⟩:=gn (l.length);unfold wdE;rw[hn]at h1 |-;by_cases hm:(n:Int)=m
 .rw[U0 hm];obtain⟨H3,HN,HSZ⟩:=zc h3 hn hsz;have q0:((n:Int)==m)=true:=by rw[Ei];exact hm
  obtain⟨X,hX⟩:∃ X:Int,bsE l=X:=⟨_,rfl⟩;have HX:=hid hX;rw[hX];subst hm;clear h h3 hn hX hsz q0;go_enter Tryz.func42,Tryz.ntmps42;go_wp2_with fail
  go_loopw [14] (fun ii wr=>∃ i:Nat,ii=.int .i64 i/\i<=n/\Hid (∀ (j:Nat) (b:ByteArray),j<i->l[j]?=some b->c0t b=0)/\Hid (Below w.heap.size w wr)) (fun ii wr=>n-(intOf ii).toNat)
  case atStart=>exact⟨0,rfl,J5 _,fun j b hj=>absurd hj (by omega),J3 _ _⟩
  case round=>
   obtain⟨i,rfl,hi,hI,hB⟩:=hrel;by_cases hlt:i<n
   .obtain⟨x,hx⟩:∃ x,l[i]?=some x:=⟨_,J0 (by rw[HN.out];exact hlt)⟩;obtain⟨g,o,rfl,hg,hc⟩:=H3.out i x hx;have d0:=(hB.out.cell (p:=⟨g,o+i,none⟩) hg).trans hc;have b1:(0:Int)<=(i:Int):=by omega
    have b2:(i:Int)<(n:Int):=by omega
    have wi:IntKind.i64.wrap ((i:Int)+1)=(i:Int)+1:=by rw[O0 _ ⟨by omega,by omega⟩]
    have PN:=fun W=>hid (m0f W x (HSZ.out x (E7 hx)))
    have hce:=u0Q x;obtain⟨y,hy⟩:=gn (j0E x);rw[hy]at PN hce;obtain⟨HXX,HC⟩:=zg hx hce;have hdrop:l.drop i=x::l.drop (i+1):=by
     have hil:i<l.length:=by rw[HN.out];exact hlt
     rw[J9 hil];have:=J0 hil;rw[hx]at this;rw[K9 this]
    have HD:=hid hdrop;clear hx hy hc hdrop hce;by_cases hy0:y=0
    focus
     subst hy0;by_cases hl:256<x.size
     focus
      have q2:decide ((256:Int)<(x.size:Int))=true:=by simp;omega
      have HE:Hid (X=4):=by
       show X=4
       have e:c0t x=4:=by rw[HC.out,Q0 (by simp),U0 hl]
       rw[<- HX.out,i0p hI.out,HD.out,bsE,e,U0 (by decide)]
      clear hl
     rotate_left
     .have q2:decide ((256:Int)<(x.size:Int))=false:=by simp;omega
      have HE:Hid (c0t x=0):=by
       show c0t x=0
       rw[HC.out,Q0 (by simp),Q0 hl]
      clear hl;go_wp2_with fail;refine (PN _).out.mono ?_;rintro e w1 ⟨rfl,hb1⟩;have y1:=hid (a0a hB.out hb1);clear hb1;go_wp2_with fail;go_roundw
      case rel=>exact⟨i+1,rfl,by omega,fun j b hj hjb=>by
       by_cases e:j=i
       .subst e;rw[HXX.out]at hjb;cases hjb;exact HE.out
       .exact hI.out j b (by omega) hjb,y1.out⟩
      case measure=>simp[intOf]<;>omega
    rotate_left
    focus
     have q3:(y==0)=false:=by rw[U4];exact hy0
     have HE:Hid (X=y):=by
      show X=y
      have e:c0t x=y:=by rw[HC.out,U0 hy0]
      rw[<- HX.out,i0p hI.out,HD.out,bsE,e,U0 hy0]
     clear hy0
    all_goals
     go_wp2_with fail;refine (PN _).out.mono ?_;rintro e w1 ⟨rfl,hb1⟩;have y1:=hid (a0a hB.out hb1);clear hb1;go_wp2_with fail;go_ret
     exact⟨by rw[HE.out];rfl,y1.out⟩
   .obtain rfl:i=n:=by omega
    have HE:Hid (X=0):=by
     show X=0
     have hd:l.drop i = []:=Gl (by rw[HN.out];exact Z3 _);rw[<- HX.out,i0p hI.out,hd];rfl
    go_wp2_with fail;go_ret
    exact⟨by rw[HE.out];rfl,hB.out⟩
 .rw[Q0 hm];have q0:((n:Int)==m)=false:=by rw[U4];exact hm
  clear h h3 hn hsz hm;go_enter Tryz.func42,Tryz.ntmps42;go_wp2_with fail;go_ret
  exact⟨rfl,J3 _ _⟩
end
section
open Go.RowKit Go.Shelf
attribute [local go_sem] Oper.semAt_some
def f0B {B:Nat}{W W':World}(h:Below W.heap.size W W'):KeepsFrom B W W':=⟨h.size,fun k o hk ho hc=>(h.block k (S4.1 ho).1).trans ho⟩
open Go.Lib (decDigits nDigits)
attribute [local go_sem] Oper.semAt_some
def u0a (w:World)(s:Option Addr)(n k:Nat)(t:Option Addr)(n2 k2:Nat):
 Calls Tryz.prog 43 #[.slice s n k,.slice t n2 k2] w fun e w'=>e=.returned (.func (.func 135) #[] #[.pointer (some ⟨w.heap.size,0,none⟩),.pointer (some ⟨w.heap.size+1,0,none⟩)])/\w'=(w.alloc (.cells #[.slice s n k] 22)).alloc (.cells #[.slice t n2 k2] 24):=by
 go_enter Tryz.func43,Tryz.ntmps43;go_wp2_with fail;go_ret
 exact⟨rfl,rfl⟩
def v0q (c:List Int)(bs:List ByteArray)(pre:List (Int×ByteArray))(x:Int×ByteArray):Prop:=c[pre.length]?=some x.1/\bs[pre.length]?=some x.2
def l0u {Kp:World->World->Prop}(n:Nat)(hn:1<=n)(w:World)(bl bm:Nat)(vc vb:Value)(c:List Int)(bs:List ByteArray)(hlen:c.length=bs.length)(hcl:c.length<=256)
 (hKr:∀ W,Kp W W) (hKt:∀ {A B C:World},Kp A B->Kp B C->Kp A C)
 (hread:∀ W1 W2,Below w.heap.size w W1->Kp W1 W2->W2.cell? ⟨bl,0,none⟩=some vc/\W2.cell? ⟨bm,0,none⟩=some vb/\Row W2 vc (zs c)/\Row W2 vb (e0p bs)) (hKb:∀ W1 W2,Below W1.heap.size W1 W2->Kp W1 W2):
 b1i n Tryz.prog 135 #[.pointer (some ⟨bl,0,none⟩),.pointer (some ⟨bm,0,none⟩)] (fun x:Int×ByteArray=>#[.int .i64 x.1,.string x.2]) Kp (v0q c bs) (fun xs=>xs.length=c.length) (fun _=>True) w:=by
 intro l J Jx W hW hJ hJx hY _ h0;obtain⟨HR,HY,HW,HKr⟩:=zd hread hY hW hKr;have HKt:Hid (∀ A B C:World,Kp A B->Kp B C->Kp A C):=fun A B C h k=>hKt h k
 have HLN:=hid hlen;obtain⟨c0,-,r0,-⟩:=hread W W hW (hKr W);obtain⟨s,cp,rfl,q1,q2,-⟩:=r0.openZ;obtain⟨N,hN⟩:=gn (c.length);have HN:=hid hN;rw[hN]at HR c0 q1 hcl;clear hread hY hW hJ hJx hKr hKt hKb hlen r0 hN;refine callsIn_of_wp Tryz.func135 rfl trivial ?_ rfl;simp only[Tryz.ntmps135,Ae,J7,Bx,Nat.reduceAdd,Nat.reduceSub,Bi,Ce,Cy,Cs,Dk,Bk]
 gi_wp2
 gi_loopw [8] (fun ii wr=>∃ p:List (Int×ByteArray),ii=.int .i64 (p.length:Nat)/\p.length<=N/\Hid (J p wr)/\Hid (Kp W wr)) (fun ii wr=>N-(intOf ii).toNat)
 case atStart=>exact⟨[],rfl,J5 _,h0,HKr.out W⟩
 case round=>
  obtain⟨pre,rfl,hp,hJ,hK⟩:=hrel;obtain⟨i,hi⟩:=gn (pre.length);have HI:=hid hi;rw[hi]at hp |-;clear hi;by_cases hlt:i<N
  .obtain⟨x,hx⟩:∃ x,c[i]?=some x:=⟨_,J0 (by rw[HN.out];exact hlt)⟩;obtain⟨b,hb⟩:∃ b,bs[i]?=some b:=⟨_,J0 (by have:=HLN.out;have:=HN.out;omega)⟩;obtain⟨-,c2,hrow,hrowb⟩:=HR.out W wr HW.out hK.out;obtain⟨a',c',e,-,-,hcell⟩:=hrow.openZ;simp only[Ic]at e;obtain⟨rfl,-,rfl⟩:=e;obtain⟨g,o,rfl,hg,hc⟩:=hcell i x hx;obtain⟨a2,k2,rfl,-,-,hcell2⟩:=hrowb.openS;obtain⟨g2,o2,rfl,hg2,hc2⟩:=hcell2 i b hb;obtain⟨N2,hN2⟩:=gn (bs.length);have hi2:i<N2:=by have:=HLN.out;have:=HN.out;omega
   rw[hN2]at c2;obtain⟨HX,HB⟩:=zg hx hb;have b1:(0:Int)<=(i:Int):=by omega
   have b2:(i:Int)<(N:Int):=by omega
   have b3:(i:Int)<(N2:Int):=by omega
   have wi:IntKind.i64.wrap ((i:Int)+1)=(i:Int)+1:=by rw[O0 _ ⟨by omega,by omega⟩]
   have HLT:=hid hlt;have hok:v0q c bs pre (x,b):=⟨by rw[HI.out];exact HX.out,by rw[HI.out];exact HB.out⟩;obtain⟨fn,tmps,assign,body,hy,hR⟩:=HY.out pre (x,b) wr hok hJ.out;have HYR:=hid hR;clear hx hb hrow hrowb hcell hcell2 hN2 hi2 hok hR hlt hp hg hg2
   gi_wp2_with fail
   refine HYR.out.mono ?_;rintro e W3 (⟨rfl,hJ3,hk3⟩ | ⟨rfl,hJx3⟩)
   .obtain⟨HJ3,HK3⟩:=zg hJ3 (HKt.out _ _ _ hK.out hk3);clear hJ3 hk3 hy
    gi_wp2_with fail
    go_roundw
    case rel=>exact⟨pre ++ [(x,b)],by rw[J4,HI.out];rfl,by rw[J4,HI.out];exact HLT.out,HJ3,HK3⟩
    case measure=>simp[intOf]<;>(have:=HLT.out;omega)
   .clear hy
    gi_wp2_with fail
    refine J6 (Ja rfl _ _ _) rfl ?_;exact⟨⟨_,rfl⟩,.inr ⟨_,trivial,hJx3⟩⟩
  .obtain rfl:i=N:=by omega
   gi_wp2_with fail
   refine bodyPost_end (Ja rfl _ _ _) rfl ?_;exact⟨⟨_,rfl⟩,.inl ⟨pre,by rw[HI.out,HN.out],hJ.out⟩⟩
attribute [local go_sem] Oper.semAt_some
def o0r {n:Nat}{P:Program}{fn:Func}{R:Ending->World->Prop}{tmps:Array Value}{W:World}{v:Value}(hv:(results fn tmps).run P W=.ok v W)(hR:R (.returned v) W):
 bodyPostM Fence.wide n P fn R .ret { tmps:=tmps,defers:=[] } W:=⟨v,hv,hR⟩
def q0v (x y z:Int):orZ [x,y,z]=if x≠0 then x else if y≠0 then y else z:=by
 unfold orZ orZ orZ orZ;by_cases h1:x=0
 .by_cases h2:y=0
  .by_cases h3:z=0<;>simp[h1,h2,h3]
  .simp[h1,h2]
 .simp[h1]
structure AdS (w W0:World)(bd bt:Nat)(ys:List Int)(fl:Bool)(W:World):Prop where
 ltd:bd<W0.heap.size
 ltt:bt<W0.heap.size
 ged:w.heap.size<=bd
 get:w.heap.size<=bt
 ne:bd≠bt
 big:w.heap.size<=W0.heap.size
 size:W0.heap.size<=W.heap.size
 rest:∀ k,k<W0.heap.size->k≠bd->k≠bt->W.heap[k]?=W0.heap[k]?
 d:∃ v,Blk W bd #[v] 22/\W.ownsRow W0.heap.size 3 1 v ys.length (zs ys)
 tt:Blk W bt #[.bool fl] 4
 bel:Below w.heap.size w W
theorem AdS.cell {w W0:World}{bd bt:Nat}{ys:List Int}{fl:Bool}{W:World}(h:AdS w W0 bd bt ys fl W){p:Addr}(h1:p.block<W0.heap.size)(h2:p.block≠bd)(h3:p.block≠bt):W.cell? p=W0.cell? p:=Ln (w:=W0) (h.rest p.block h1 h2 h3)
theorem AdS.call {w W0:World}{bd bt:Nat}{ys:List Int}{fl:Bool}{W W':World}(h:AdS w W0 bd bt ys fl W)(hb:Below W.heap.size W W'):AdS w W0 bd bt ys fl W':=by
 obtain⟨v,h1,h2⟩:=h.d;exact⟨h.ltd,h.ltt,h.ged,h.get,h.ne,h.big,E0 h.size hb.size,fun k hk a b=>(hb.block k (H6 hk h.size)).trans (h.rest k hk a b),⟨v,h1.call hb,a0T h2 hb⟩,h.tt.call hb,a0a h.bel hb⟩
theorem AdS.sett {w W0:World}{bd bt:Nat}{ys:List Int}{fl:Bool}{W:World}(h:AdS w W0 bd bt ys fl W)(q:Bool):AdS w W0 bd bt ys q (W.setCell ⟨bt,0,none⟩ (.bool q)):=by
 obtain⟨v,h1,h2⟩:=h.d;refine⟨h.ltd,h.ltt,h.ged,h.get,h.ne,h.big,by rw[Gw];exact h.size,fun k hk a b=>(Ac _ _ _ _ b).trans (h.rest k hk a b),⟨v,h1.other (a:=⟨bt,0,none⟩) (fun e=>h.ne e.symm) _,Cr h2 h.ltt _⟩,?_,h.bel.setCell h.get _⟩;have:=h.tt.set 0 (.bool q);simpa using this
theorem AdS.app {w W0:World}{bd bt:Nat}{ys:List Int}{fl:Bool}{W w3:World}{v v':Value}{o:Obj}{y:Int}(h:AdS w W0 bd bt ys fl W)(hv:Blk W bd #[v] 22)(ho:W.ownsRow W0.heap.size 3 1 v ys.length (zs ys))(hown:w3.ownsRow W0.heap.size 3 1 v' (ys.length+1) (zs ys ++ [.int .i64 y]))(hg:(W.alloc o).grownBy w3 v.ownBlock):
 AdS w W0 bd bt (ys ++ [y]) fl (w3.setCell ⟨bd,0,none⟩ v'):=by
 have hrow:∀ k,v.ownBlock=some k->W0.heap.size<=k:=fun k e=>(ho.lt k e).1
 have hs:W.heap.size<=w3.heap.size:=by have:=hg.size;simp at this;omega
 have n1:v.ownBlock≠some bd:=fun e=>by have:=hrow bd e;have:=h.ltd;omega
 have n2:v.ownBlock≠some bt:=fun e=>by have:=hrow bt e;have:=h.ltt;omega
 refine⟨h.ltd,h.ltt,h.ged,h.get,h.ne,h.big,by rw[Gw];exact E0 h.size hs,fun k hk a b=>?_,⟨v',?_,?_⟩,?_,?_⟩
 .have hkW:k<W.heap.size:=H6 hk h.size;refine (Ac _ _ _ _ a).trans (((hg.block k (by simp;omega) (fun e=>?_)).trans (Li _ _ _ hkW)).trans (h.rest k hk a b));have:=hrow k e.symm;omega
 .have:=(((hv.alloc o).grown hg n1).set 0 v');simpa using this
 .have e1:(ys ++ [y]).length=ys.length+1:=by simp
  have e2:zs (ys ++ [y])=zs ys ++ [.int .i64 y]:=by simp[zs]
  rw[e1,e2];exact Cr hown h.ltd _
 .exact ((h.tt.alloc o).grown hg n2).other (a:=⟨bd,0,none⟩) h.ne _
 .exact ((h.bel.alloc h.bel.size o).grown hg (by have:=h.bel.size;simp;omega) (fun k e=>E0 h.big (hrow k e))).setCell h.ged _
theorem AdS.keptX {w W0:World}{bd bt:Nat}{ys:List Int}{fl:Bool}{X Y:World}{row:Option Nat}(h:AdS w W0 bd bt ys fl X)(hg:X.grownBy Y row)(hrow:∀ r,row=some r->W0.heap.size<=r/\∃ o:Obj,X.heap[r]?=some o/\o.isCells=false):AdS w W0 bd bt ys fl Y:=by
 obtain⟨v,h1,h2⟩:=h.d;refine⟨h.ltd,h.ltt,h.ged,h.get,h.ne,h.big,E0 h.size hg.size,fun k hk a b=>?_,⟨v,h1.kept hg (fun r e=>(hrow r e).2),?_⟩,h.tt.kept hg (fun r e=>(hrow r e).2),?_⟩
 .refine (hg.block k (H6 hk h.size) (fun e=>?_)).trans (h.rest k hk a b);have:=(hrow k e.symm).1;omega
 .refine h2.kept hg ?_;rcases h2.2 with ⟨rfl,_⟩ | ⟨g,cap,cur,rfl,_,hgb,_⟩
  .exact .inl rfl
  .refine .inr fun e'=>?_
   obtain⟨-,o,ho,hc⟩:=hrow g (by simpa[Value.ownBlock]using e'.symm);rw[hgb]at ho;cases ho;cases hc
 .exact h.bel.grown hg h.bel.size (fun k e=>E0 h.big (hrow k e).1)
def o0B {B:Nat}{W w3:World}{bd base n:Nat}{v u x:Value}{t:TypeId}{o:Obj}{xs:List Value}{e:TypeId}(hv:Blk W bd #[x] t)(ho:W.ownsRow base e 1 v n xs)(hg:(W.alloc o).grownBy w3 v.ownBlock):KeepsFrom B W (w3.setCell ⟨bd,0,none⟩ u):=by
 have hs:W.heap.size<=w3.heap.size:=by have:=hg.size;simp at this;omega
 refine⟨by rw[Gw];exact hs,fun k ob hk hob hc=>?_⟩;have hkW:k<W.heap.size:=(S4.1 hob).1;have h1:k≠bd:=fun e=>by
  subst e;rw[show W.heap[k]? = _ from hv]at hob;cases hob;cases hc
 refine (Ac _ _ _ _ h1).trans (((hg.block k (by simp;omega) (fun e'=>?_)).trans (Li _ _ _ hkW)).trans hob);rcases ho.2 with ⟨rfl,_⟩ | ⟨g,cap,cur,rfl,_,hgb,_⟩
 .cases e'
 .have:k=g:=by simpa[Value.ownBlock]using e'
  subst this;rw[hgb]at hob;cases hob;cases hc
theorem AdS.kp {w W0:World}{bd bt b1 b2:Nat}{ys zs':List Int}{f1 f2:Bool}{W X:World}(h:AdS w W0 bd bt ys f1 W)(k:AdS w W0 bd bt zs' f2 X)(hs:W.heap.size<=X.heap.size)(h1:b1<W0.heap.size/\b1≠bd/\b1≠bt)(h2:b2<W0.heap.size/\b2≠bd/\b2≠bt):KpS w.heap.size b1 b2 W X:=
 ⟨hs,fun _ _ _=>⟨⟨k.bel.os.trans h.bel.os.symm,k.bel.tape.trans h.bel.tape.symm,k.bel.output.trans h.bel.output.symm,hs,fun j hj=>(k.bel.block j hj).trans (h.bel.block j hj).symm⟩,(k.rest b1 h1.1 h1.2.1 h1.2.2).trans (h.rest b1 h1.1 h1.2.1 h1.2.2).symm,(k.rest b2 h2.1 h2.2.1 h2.2.2).trans (h.rest b2 h2.1 h2.2.1 h2.2.2).symm⟩⟩
def v0A (w:World)(v u:Value)(c:List Int)(a:ByteArray)(bs:List ByteArray)(hv:Row w v (zs c))(hu:Row w u (e0p bs))(ha:a.size<=100000)(hb:∀ x∈bs,x.size<=100000000)(hL:LayB w):
 Calls Tryz.prog 7 #[v,.string a,u] w fun e w'=>(∃ y,e=.returned (.tuple #[y,.bool (naO c a bs).isSome,.int .i64 (naE c a bs)])/\Row w' y (zs ((naO c a bs).getD [])))/\Below w.heap.size w w':=by
 have HCK:=fun V hV=>hid (i0Q V v c hV)
 have HRA:=fun V hV=>hid (m0X V a ha hV)
 have HW:=fun V h=>hid (t0Z V u bs ((c.length:Nat):Int) h hb)
 have HFI:=fun V x h=>hid (u0b V x [zE c,gPE a,wdE bs ((c.length:Nat):Int)] h)
 rw[q0v]at HFI;have e1:(if zE c≠0 then zE c else if gPE a≠0 then gPE a else wdE bs ((c.length:Nat):Int))=naE c a bs:=rfl;rw[e1]at HFI;obtain⟨HV,HU,HL,PT⟩:=zd hv hu hL (fun V x (hx:c0t x=0) hV=>b1P V a x ha (by have:=d0g hx;omega) hV);obtain⟨s,cp,rfl,q1,q2,q3⟩:=hv.openZ;obtain⟨t,cq,rfl,p1,p2,p3⟩:=hu.openS;have HNA:Hid (naE c a bs=0->NaOk c a bs):=fun h=>v0B h
 obtain⟨z,hz⟩:=gn (naE c a bs);obtain⟨z1,hz1⟩:=gn (zE c);obtain⟨z2,hz2⟩:=gn (gPE a);obtain⟨z3,hz3⟩:=gn (wdE bs ((c.length:Nat):Int));obtain⟨ro,hro⟩:=gn (naO c a bs);have HRO:Hid (naE c a bs=0->ro=nzO true a c bs):=fun h=>by rw[<- hro];exact q0Q h rfl
 have HRB:Hid (naE c a bs≠0->ro=none):=fun h=>by rw[<- hro];exact q0R h
 obtain⟨n,hn⟩:=gn (c.length);obtain⟨n2,hn2⟩:=gn (bs.length);have HN:=hid hn;rw[hz]at HNA HRO HRB;rw[hz,hz1,hz2,hz3]at HFI;simp only[hz1]at HCK;simp only[hz2]at HRA;simp only[hz3]at HW;rw[hz,hro];rw[hn]at HV q1 |-;simp only[hn]at HCK HW;rw[hn2]at HU p1 |-;simp only[hn2]at HW;clear hv hu q3 p3 e1 ha hb hL hz hz1 hz2 hz3 hro hn hn2;refine (Aj (n:=9)).1 ?_;refine Ez Tryz.func7 rfl trivial ?_ rfl;simp only[Tryz.ntmps7,Ae,J7,Bx,Nat.reduceAdd,Nat.reduceSub,Bi,Ce,Cy,Cs,Dk,Bk]
 gi_wp2_with fail
 obtain⟨W2,hW2⟩:=gn ((w.alloc (.cells #[.string a] 23)).alloc (.cells #[.slice none 0 0] 22));have XA:Hid (Blk W2 w.heap.size #[.string a] 23):=by rw[<- hW2];exact (Blk.new w _ _).alloc _
 have XD:Hid (Blk W2 (w.heap.size+1) #[.slice none 0 0] 22):=by rw[<- hW2];exact Blk.made _ _ _ (by simp)
 have B2:Hid (Below w.heap.size w W2):=by rw[<- hW2];exact (br0.alloc nr _).alloc (by simp) _
 have Z2:Hid (W2.heap.size=w.heap.size+1+1):=by rw[<- hW2];exact hid (by simp)
 rw[hW2];clear hW2;have KK:Hid (∀ V,Below W2.heap.size W2 V->V.cell? ⟨w.heap.size,0,none⟩=some (.string a)):=fun V hV=>(XA.out.call hV).cell 0
 refine h0J ?_
 gi_wp2_with fail
 refine Oa.2 ?_;refine a0k [0,2,4,5,6] 6 (fun V=>V.cell? ⟨w.heap.size,0,none⟩=some (.string a)) (by kernel_rfl) (by kernel_rfl) (by kernel_rfl) (by kernel_rfl) (KK.out _ br0.drew) ?_
 iterate 5
  refine⟨_,rfl,?_⟩;apply Exists.intro
  refine⟨.inl ⟨by rfl,?_⟩,?_⟩
  ·(intro W' hW';obtain q9:=hW';go_simp;try (with_reducible rfl))
  go_frame
 refine a0c (i:=1) (by kernel_rfl) rfl rfl ?_;go_wp2_with fail;refine (HCK _ (HV.out.call (a0a B2.out br0.drew))).out.mono ?_;rintro e w3 ⟨rfl,rfl⟩;go_wp2_with fail;refine⟨KK.out _ br0.drew,?_⟩;refine a0c (i:=3) (by kernel_rfl) rfl rfl ?_;go_wp2_with fail;refine (HRA _ (HL.out.call (a0a B2.out br0.drew)).l).out.mono ?_;rintro e w4 ⟨rfl,hb4⟩;have y4:=hid (show Below W2.heap.size W2 w4 from br0.drew.trans hb4);clear hb4;go_wp2_with fail;refine⟨KK.out _ y4.out,?_⟩;refine a0c (i:=7) (by kernel_rfl) rfl rfl ?_;go_wp2_with fail;refine (HW _ (HU.out.call (a0a B2.out y4.out))).out.mono ?_;rintro e w5 ⟨rfl,hb5⟩;have y5:=hid (a0a y4.out hb5);clear hb5;go_wp2_with fail;refine⟨KK.out _ y5.out,?_⟩;refine a0c (i:=8) (by kernel_rfl) rfl rfl ?_;go_wp2_with fail;have y6:=hid (y5.out.alloc y5.out.size (.cells #[.int .i64 z1,.int .i64 z2,.int .i64 z3] 27));refine⟨KK.out _ y6.out,?_⟩;refine a0c (i:=9) (by kernel_rfl) rfl rfl ?_;go_wp2_with fail;refine zx (HFI _ _ (p0Q _ _ _ _ _)) ?_;obtain⟨W7,hW7⟩:=gn (w5.alloc (.cells #[.int .i64 z1,.int .i64 z2,.int .i64 z3] 27));rw[hW7]at y6 |-;clear hW7;go_wp2_with fail;refine⟨KK.out _ y6.out,?_⟩;refine b0d (is:=[10]) (g:=0) (by kernel_rfl) rfl (KK.out _ y6.out) (by kernel_rfl) ?_
 iterate 1
  refine⟨_,rfl,?_⟩;apply Exists.intro
  refine⟨.inl ⟨by rfl,?_⟩,?_⟩
  ·(intro W' hW';obtain q9:=hW';go_simp;try (with_reducible rfl))
  go_frame
 refine Z7 (by kernel_rfl) ?_ _;simp only[a0Z];obtain⟨B7,XA7,XD7⟩:=zc (a0a B2.out y6.out) (XA.out.call y6.out) (XD.out.call y6.out);clear XA XD KK HFI HCK HRA HW;by_cases h0:z=0
 case neg=>
  have t0:(z != 0)=true:=by simpa using h0
  have HR:=HRB.out h0;subst HR;have d0:=XD7.out.cell 0;have d1:=XD7.out.free 0;simp at d0;clear h0
  gi_wp2_with fail
  have d2:=(XD7.out.set 0 (.slice none 0 0)).cell 0;simp at d2;refine o0r (v:=.tuple #[.slice none 0 0,.bool false,.int .i64 z]) (by simp[results,Tryz.results7,go_sem,d2]) ⟨⟨_,rfl,?_⟩,?_⟩
  .exact⟨none,0,rfl,Z3 _,by unfold maxLen;omega,fun i x h=>by simp[zs]at h⟩
  .exact B7.out.setCell (by simp) _
 subst h0;have OK:=HNA.out rfl;have HRO2:=hid (HRO.out rfl);have hle:=OK.le;rw[HN.out]at hle;have HOK:=hid OK;clear OK HNA HRO HRB
 gi_wp2_with fail
 refine wpIn_label ?_
 gi_wp2_with (refine⟨trivial,?_⟩;gi_at_call 43;refine (Aj.2 (u0a _ _ _ _ _ _ _)).mono ?_;rintro e w' ⟨rfl,rfl⟩)
 obtain⟨i0,hi,hz0,hz1,hz2⟩:=Cl h0i;obtain⟨W0,hW0⟩:=gn (((W7.alloc (.cells #[.bool false] 4)).alloc (.cells #[.slice s n cp] 22)).alloc (.cells #[.slice t n2 cq] 24));have y0:Blk W0 w.heap.size #[.string a] 23:=by rw[<- hW0];exact ((XA7.out.alloc _).alloc _).alloc _
 have y1:Blk W0 (w.heap.size+1) #[.slice none 0 0] 22:=by rw[<- hW0];exact ((XD7.out.alloc _).alloc _).alloc _
 have y2:Blk W0 W7.heap.size #[.bool false] 4:=by rw[<- hW0];exact ((Blk.new W7 _ _).alloc _).alloc _
 have y3:Blk W0 (W7.heap.size+1) #[.slice s n cp] 22:=by rw[<- hW0];exact (Blk.made _ _ _ (by simp)).alloc _
 have y4:Blk W0 (W7.heap.size+1+1) #[.slice t n2 cq] 24:=by rw[<- hW0];exact Blk.made _ _ _ (by simp)
 have z7:=B7.out.size;have b0:Below w.heap.size w W0:=by rw[<- hW0];exact ((B7.out.alloc z7 _).alloc (by simp<;>omega) _).alloc (by simp<;>omega) _
 have z0:W0.heap.size=W7.heap.size+1+1+1:=by rw[<- hW0];simp
 have zT:w.heap.size+1+1<=W7.heap.size:=by have:=y6.out.size;have:=Z2.out;omega
 rw[hW0];obtain⟨T,hT⟩:=gn (W7.heap.size);rw[hT]at y2 y3 y4 z0 zT |-;obtain⟨Y0,Y3,Y4,HB0,Z0,ZT⟩:=kx y0 y3 y4 b0 z0 zT;have S0:Hid (AdS w W0 (w.heap.size+1) T [] false W0):=⟨by omega,by omega,by omega,by omega,by omega,by omega,Z3 _,fun _ _ _ _=>rfl,⟨_,y1,Ba _ _ _ _⟩,y2,b0⟩;clear y0 y1 y2 y3 y4 b0 hW0 hT z7 XA7 XD7 B7 B2 Z2 y5 y6;have hread:∀ W1 W2,Below W0.heap.size W0 W1->KpS w.heap.size (T+1) (T+1+1) W1 W2->W2.cell? ⟨T+1,0,none⟩=some (.slice s n cp)/\W2.cell? ⟨T+1+1,0,none⟩=some (.slice t n2 cq)/\Row W2 (.slice s n cp) (zs c)/\Row W2 (.slice t n2 cq) (e0p bs):=fun W1 W2 b1 b2=>by
  have hs:=b1.size;have hz:=Z0.out;obtain⟨r1,r2,r3⟩:=b2.rest (by omega) (by omega) (by omega);have g1:Blk W2 (T+1) #[.slice s n cp] 22:=r2.trans (Y3.out.call b1);have g2:Blk W2 (T+1+1) #[.slice t n2 cq] 24:=r3.trans (Y4.out.call b1);have hb:Below w.heap.size w W2:=(HB0.out.trans (b1.mono (by omega))).trans r1;exact⟨g1.cell 0,g2.cell 0,HV.out.call hb,HU.out.call hb⟩
 refine c0N (hM:=fun _ _ _=>trivial) (by omega) (gf:=135) (lb:=#[.pointer (some ⟨T+1,0,none⟩),.pointer (some ⟨T+1+1,0,none⟩)]) rfl (Cx Tryz.func135 (by kernel_rfl) rfl)
  (l0u (Kp:=KpS w.heap.size (T+1) (T+1+1)) 8 (by omega) W0 (T+1) (T+1+1) (.slice s n cp) (.slice t n2 cq) c bs HOK.out.len.symm HOK.out.le (KpS.refl _ _ _) KpS.trans hread (fun _ _=>KpS.of_below)) KpS.trans (KpS.put (by omega) (by omega) (by omega)) br0 (fun _=>rfl)
  (fun p W=>∃ ys,NdT a c bs p.length ys/\AdS w W0 (w.heap.size+1) T ys false W)
  (fun cc p W=>cc=.exit 0/\nzO true a c bs=none/\∃ ys,AdS w W0 (w.heap.size+1) T ys true W)
  (fun s X Y row hs hg hr=>by obtain⟨ys,h1,h2⟩:=hs;exact⟨ys,h1,h2.keptX hg hr⟩)
  (fun c s X Y row hs hg hr=>by obtain⟨h0,h1,ys,h2⟩:=hs;exact⟨h0,h1,ys,h2.keptX hg hr⟩)
  ⟨[],NdT.zero _ _ _,S0.out⟩ ?act ?assign ?body ?done ?stop
 case assign=>
  intro l x W K hK
  gi_wp2
  exact hK
 case body=>
  rintro l p ⟨x,b⟩ W ⟨hx,hb⟩ ⟨ys,hN,hS⟩;dsimp only at hx hb;have hch:=HOK.out.b b (List.mem_of_getElem? hb);have hsz:=d0g hch;have hxr:=HOK.out.rng x (List.mem_of_getElem? hx);have PTb:=fun V hV=>hid (PT.out V b hch hV)
  have hvb:=m0i a b hsz;have hz1':nz1 true a x b=if (wT a b).1=true then some (x+(wT a b).2.1) else none:=by unfold nz1;simp only[Fp]
  obtain⟨k,hk⟩:=gn (p.length);rw[hk]at hx hb hN;have hk256:k<256:=by have:=(O4.1 hx).1;have:=HOK.out.le;omega
  obtain⟨TT,hTT⟩:=gn (wT a b);obtain⟨ge,hge⟩:=gn (gE a b);rw[hTT]at hvb hz1';simp only[hTT,hge]at PTb;obtain⟨d,v1,u1⟩:=TT;simp only[d3]at PTb;dsimp only at hvb hz1';have c0:=(hS.cell (p:=⟨w.heap.size,0,none⟩) Y0.out.lt (by simp) (by simp;omega)).trans (Y0.out.cell 0);simp at c0;have wxv:IntKind.i64.wrap (x+v1)=x+v1:=by rw[IntWalk.i64_in _ ⟨by omega,by omega⟩]
  obtain⟨HX,HB,HN1,HS,HZ1,HK,HK2⟩:=kq hx hb hN hS hz1' hk hk256;clear hx hb hN hS hch hsz hxr hvb hz1' hk hTT hge hk256 zT z0;cases d
  .have hnone:nzO true a c bs=none:=i0P k x b HX.out HB.out (by rw[HZ1.out,Q0 (by simp)]);have HNO:=hid hnone;clear hnone
   gi_wp2_with fail
   refine⟨trivial,?_⟩;refine (CallsIn.inRound _ (Aj.2 (PTb _ (HL.out.call HS.out.bel).l).out)).mono ?_;rintro e w1 ⟨rfl,hb1⟩;obtain⟨y1,A1⟩:=zg hb1 (hb1.alloc hb1.size (.cells #[.bool false,.int .i64 v1,.int .i64 u1] 62));have S2:=hid (HS.out.call A1.out);have r0:=S2.out.tt.cell 0;have r1:=S2.out.tt.free 0;simp at r0;clear hb1 c0
   gi_wp2_with fail
   exact⟨(f0B A1.out).trans ((Am _ _ _).from _),rfl,HNO.out,ys,S2.out.sett true⟩
  .gi_wp2_with fail
   refine⟨trivial,?_⟩;refine (CallsIn.inRound _ (Aj.2 (PTb _ (HL.out.call HS.out.bel).l).out)).mono ?_;rintro e w1 ⟨rfl,hb1⟩;have A1:=hid (hb1.alloc hb1.size (.cells #[.bool true,.int .i64 v1,.int .i64 u1] 62));have S2:=hid (HS.out.call A1.out);obtain⟨v0,h1,h2⟩:=S2.out.d;obtain⟨H1,H2⟩:=zg h1 h2;have r0:=h1.cell 0;have r1:=h1.free 0;simp at r0;have hyl:ys.length<=256:=by have:=HN1.out.len;have:=HK2.out;omega
   have CN:((w1.alloc (.cells #[.bool true,.int .i64 v1,.int .i64 u1] 62)).alloc (.cells #[.int .i64 (x+v1)] 3)).cell? ⟨w1.heap.size+1,0,none⟩=some (.int .i64 (x+v1)):=(Blk.made (w1.alloc (.cells #[.bool true,.int .i64 v1,.int .i64 u1] 62)) #[.int .i64 (x+v1)] 3 (n:=w1.heap.size+1) (by simp)).cell 0;have HCN:=hid CN;clear hb1 c0 h1 h2 CN
   gi_wp2_with (gi_at_builtin;refine Mj _ rfl _ _ 22 rfl W0.heap.size 3 i0 (.int .i64 0) 1 8 Ib hi hz0 hz1 hz2 rfl (by decide) _ ys.length _ rfl (H2.out.alloc _) ⟨w1.heap.size+1,0,none⟩ 1 1 [.int .i64 (x+v1)] rfl rfl (fun j u hj=>by
    cases j with
    | zero=>cases hj;exact HCN.out
    | succ j=>simp at hj) (by simp[Value.oneCell']) (by unfold maxLen;omega) (by omega) (by have:=S2.out.size;simp at this |-;omega) ?_;intro v' w3 hown hgrow _
                obtain⟨g2,cap2,rfl⟩:=Jd hown;have S3:=hid (S2.out.app H1.out H2.out hown hgrow);have n1:v0.ownBlock≠some (w.heap.size+1):=fun e=>by have:=(H2.out.lt _ e).1;have:=S2.out.ltd;omega
                have k0:=((H1.out.alloc (.cells #[.int .i64 (x+v1)] 3)).grown hgrow n1).cell 0;have k1:=((H1.out.alloc (.cells #[.int .i64 (x+v1)] 3)).grown hgrow n1).free 0;simp at k0;have KF:=hid ((f0B (B:=W0.heap.size) A1.out).trans (o0B (u:=.slice (some ⟨g2,0,none⟩) (ys.length+1) cap2) H1.out H2.out hgrow));clear hown hgrow n1 r0 r1)
   refine⟨KF.out,HS.out.kp S3.out KF.out.size ⟨by have:=Z0.out;omega,by have:=ZT.out;omega,by omega⟩ ⟨by have:=Z0.out;omega,by have:=ZT.out;omega,by omega⟩,ys ++ [x+v1],?_,S3.out⟩;rw[J4,E8,HK.out];exact HN1.out.next HX.out HB.out (by rw[HZ1.out];simp)
 case' done=>
  rintro D' xs W hD hS ⟨ys,hN,hA⟩ hK;rw[hS]at hN;have hro:=HRO2.out.trans (hN.all HOK.out.len);subst hro;obtain⟨v0,h1,h2⟩:=hA.d;have r0:=h1.cell 0;have r1:=h1.free 0;have r2:=hA.tt.cell 0;simp at r0 r2;obtain⟨HA,H1,H2,HK,HDD⟩:=zf hA h1 h2 hK hD;obtain⟨a0,cc0,rfl⟩:=b0k h2;clear hS hN hA h1 h2 hK hD
  gi_wp2_with fail
  have q1:=H1.out.set 0 (.slice a0 ys.length cc0);have q2:=Cr (a:=⟨w.heap.size+1,0,none⟩) H2.out HA.out.ltd (.slice a0 ys.length cc0);have hk3:=(Am W ⟨w.heap.size+1,0,none⟩ (.slice a0 ys.length cc0)).same D' _ HK.out rfl;have p1:=(q1.put hk3 (.deferred none)).cell 0;simp at p1;have hrow:=Row.put (Row.of_owns q2) hk3 (.deferred none);have h9:=HDD.out;refine b0N hk3 (v:=.tuple #[.slice a0 ys.length cc0,.bool true,.int .i64 0]) (by simp[results,Tryz.results7,go_sem,p1]) ⟨⟨_,rfl,hrow⟩,?_⟩
 rotate_left
 case' stop=>
  rintro D' cc p W hD-⟨rfl,hnone,ys,hA⟩ hK;have hro:=HRO2.out.trans hnone;subst hro;obtain⟨v0,h1,h2⟩:=hA.d;have r0:=h1.cell 0;have r1:=h1.free 0;have r2:=hA.tt.cell 0;simp at r0 r2;obtain⟨HA,H1,HK,HDD⟩:=zd hA h1 hK hD;clear hA h1 h2 hK hD hnone
  gi_wp2_with fail
  have q1:=H1.out.set 0 (.slice none 0 0);have hk3:=(Am W ⟨w.heap.size+1,0,none⟩ (.slice none 0 0)).same D' _ HK.out rfl;have p1:=(q1.put hk3 (.deferred none)).cell 0;simp at p1;have h9:=HDD.out;refine b0N hk3 (v:=.tuple #[.slice none 0 0,.bool false,.int .i64 0]) (by simp[results,Tryz.results7,go_sem,p1]) ⟨⟨_,rfl,?_⟩,?_⟩
  .exact⟨none,0,rfl,Z3 _,by unfold maxLen;omega,fun i x h=>by simp[zs]at h⟩
 all_goals exact (HA.out.bel.setCell (by simp) _).trans (Lv (w:=w) nr _ D' _ _ (by omega) hk3 rfl rfl)
end
section
open Go.RowKit
def v0l (q:Rat) : -1<=sgQ q/\sgQ q<=1:=by
 unfold sgQ
 split
 .omega
 .split<;>omega
def x0n (a b:Nat) : -1<=b0e a b/\b0e a b<=1:=by
 unfold b0e
 split
 .omega
 .split<;>omega
def b1V (w:World)(v u:Value)(p q:Rat)(hp:IsQ .u64 w v p)(hq:IsQ .u64 w u q)
 (h1:(limbs p.num.natAbs).length<=100000) (h2:(limbs p.den).length<=100000) (h3:(limbs q.num.natAbs).length<=100000) (h4:(limbs q.den).length<=100000):
 Calls Tryz.prog 189 #[v,u] w fun e w'=>e=.returned (.int .i64 (cmF p q))/\Below w.heap.size w w':=by
 have PS1:=fun V v h=>hid (r0K V v p h)
 have PS2:=fun V v h=>hid (r0K V v q h)
 have PM1:=fun V v u hv hu=>hid (h0C V v u p.num.natAbs q.den hv hu (E0 h1 (by omega)) (E0 h4 (by omega)))
 have PM2:=fun V v u hv hu=>hid (h0C V v u q.num.natAbs p.den hv hu (E0 h3 (by omega)) (E0 h2 (by omega)))
 have lx:=d0r h1 h4;have PC:=fun V v u hv hu=>hid (l0E V v u (p.num.natAbs*q.den) (q.num.natAbs*p.den) hv hu (E0 lx (by omega)))
 have bp:=v0l p;have bq:=v0l q;have bo:=x0n (p.num.natAbs*q.den) (q.num.natAbs*p.den);obtain⟨Z,hZ⟩:=gn (cmF p q);rw[hZ];unfold cmF at hZ;obtain⟨s1,hs1⟩:=gn (sgQ p);obtain⟨s2,hs2⟩:=gn (sgQ q);obtain⟨oc,hoc⟩:=gn (b0e (p.num.natAbs*q.den) (q.num.natAbs*p.den));rw[hs1]at PS1 bp hZ;rw[hs2]at PS2 bq hZ;rw[hoc]at PC bo hZ;obtain⟨HZ,HP,HQ⟩:=zc hZ hp hq;obtain⟨N1,D1,rfl,hn1,hd1⟩:=hp.ex;obtain⟨N2,D2,rfl,hn2,hd2⟩:=hq.ex;obtain⟨HN1,HD1,HN2,HD2⟩:=zd hn1 hd1 hn2 hd2;obtain⟨a1,c1,rfl,_⟩:=hn1.openI;obtain⟨a2,c2,rfl,_⟩:=hd1.openI;obtain⟨a3,c3,rfl,_⟩:=hn2.openI;obtain⟨a4,c4,rfl,_⟩:=hd2.openI;obtain⟨k1,hk1⟩:=gn ((limbs p.num.natAbs).length);obtain⟨k2,hk2⟩:=gn ((limbs p.den).length);obtain⟨k3,hk3⟩:=gn ((limbs q.num.natAbs).length);obtain⟨k4,hk4⟩:=gn ((limbs q.den).length);obtain⟨m1,hm1⟩:=gn (decide (p.num<0));obtain⟨m2,hm2⟩:=gn (decide (q.num<0));rw[hk1]at HN1;rw[hk2]at HD1;rw[hk3]at HN2;rw[hk4]at HD2;rw[hk1,hk2,hm1]at HP |-;rw[hk3,hk4,hm2]at HQ |-;have HM1:Hid ((p.num<0)↔m1=true):=by rw[<- hm1];simp[Hid]
 clear hZ hk1 hk2 hk3 hk4 hm1 hm2 hn1 hn2 hd1 hd2 hp hq h1 h2 h3 h4 lx hs1 hs2 hoc;have W12:IntKind.i64.wrap (s1-s2)=s1-s2:=O0 _ ⟨by omega,by omega⟩;have WO:IntKind.i64.wrap (-oc) = -oc:=O0 _ ⟨by omega,by omega⟩;clear bp bq bo;go_enter Tryz.func189,Tryz.ntmps189;go_wp2_with fail;obtain⟨W,hW⟩:=gn ((w.alloc (.cells #[.bool m1,.slice a1 k1 c1,.slice a2 k2 c2] 126)).alloc (.cells #[.bool m2,.slice a3 k3 c3,.slice a4 k4 c4] 126));have Y0:Blk W w.heap.size #[.bool m1,.slice a1 k1 c1,.slice a2 k2 c2] 126:=by rw[<- hW];exact (Blk.new w _ _).alloc _
 have Y1:Blk W (w.heap.size+1) #[.bool m2,.slice a3 k3 c3,.slice a4 k4 c4] 126:=by rw[<- hW];exact Blk.made _ _ _ (by simp)
 have y0:Below w.heap.size w W:=by rw[<- hW];exact (br0.alloc nr _).alloc (by simp) _
 rw[hW];have KK:Hid (∀ w',Below W.heap.size W w'->w'.cell? ⟨w.heap.size,0,none⟩=some (.bool m1)/\w'.cell? ⟨w.heap.size,1,none⟩=some (.slice a1 k1 c1)/\w'.cell? ⟨w.heap.size,2,none⟩=some (.slice a2 k2 c2)/\w'.cell? ⟨w.heap.size+1,0,none⟩=some (.bool m2)/\w'.cell? ⟨w.heap.size+1,1,none⟩=some (.slice a3 k3 c3)/\w'.cell? ⟨w.heap.size+1,2,none⟩=some (.slice a4 k4 c4)):=fun w' hb=>
  ⟨(Y0.call hb).cell 0,(Y0.call hb).cell 1,(Y0.call hb).cell 2,(Y1.call hb).cell 0,(Y1.call hb).cell 1,(Y1.call hb).cell 2⟩
 obtain⟨Q1,Q2,N1',D1',N2',D2',HY⟩:=kq (HP.out.call y0) (HQ.out.call y0) (HN1.out.call y0) (HD1.out.call y0) (HN2.out.call y0) (HD2.out.call y0) y0;clear Y0 Y1 y0 hW HN1 HD1 HN2 HD2 HP HQ;refine a0k [0,2] 4 (fun w'=>w'.cell? ⟨w.heap.size,0,none⟩=some (.bool m1)/\w'.cell? ⟨w.heap.size,1,none⟩=some (.slice a1 k1 c1)/\w'.cell? ⟨w.heap.size,2,none⟩=some (.slice a2 k2 c2)/\w'.cell? ⟨w.heap.size+1,0,none⟩=some (.bool m2)/\w'.cell? ⟨w.heap.size+1,1,none⟩=some (.slice a3 k3 c3)/\w'.cell? ⟨w.heap.size+1,2,none⟩=some (.slice a4 k4 c4)) (by kernel_rfl) (by kernel_rfl) (by kernel_rfl) (by kernel_rfl) (KK.out _ br0.drew) ?_
 iterate 2
  refine⟨_,rfl,?_⟩;apply Exists.intro
  refine⟨.inl ⟨by rfl,?_⟩,?_⟩
  .rintro W' ⟨q1,q2,q3,q4,q5,q6⟩;go_simp;try with_reducible rfl
  go_frame
 refine a0c (i:=1) (by kernel_rfl) rfl rfl ?_;go_wp2_with fail;refine (PS1 _ _ (Q1.out.call br0.drew)).out.mono ?_;rintro e w1 ⟨rfl,hb1⟩;have x1:=hid (show Below W.heap.size W w1 from br0.drew.trans hb1);clear hb1;go_wp2_with fail;refine⟨KK.out _ x1.out,?_⟩;refine a0c (i:=3) (by kernel_rfl) rfl rfl ?_;go_wp2_with fail;refine (PS2 _ _ (Q2.out.call x1.out)).out.mono ?_;rintro e w2 ⟨rfl,hb2⟩;have x2:=hid (a0a x1.out hb2);clear hb2;go_wp2_with fail;refine⟨KK.out _ x2.out,?_⟩;refine b0d (is:=[4,5]) (g:=0) (by kernel_rfl) rfl (KK.out _ x2.out) (by kernel_rfl) ?_
 iterate 2
  refine⟨_,rfl,?_⟩;apply Exists.intro
  refine⟨.inl ⟨by rfl,?_⟩,?_⟩
  .rintro W' ⟨q1,q2,q3,q4,q5,q6⟩;go_simp;try with_reducible rfl
  go_frame
 refine Z7 (by kernel_rfl) ?_ _;simp only[a0Z];by_cases hne:s1=s2
 .subst hne;have t0:(s1 != s1)=false:=by simp
  go_wp2_with fail;refine a0k [0,1,2,3,5,6,7,8] 4 (fun w'=>w'.cell? ⟨w.heap.size,0,none⟩=some (.bool m1)/\w'.cell? ⟨w.heap.size,1,none⟩=some (.slice a1 k1 c1)/\w'.cell? ⟨w.heap.size,2,none⟩=some (.slice a2 k2 c2)/\w'.cell? ⟨w.heap.size+1,0,none⟩=some (.bool m2)/\w'.cell? ⟨w.heap.size+1,1,none⟩=some (.slice a3 k3 c3)/\w'.cell? ⟨w.heap.size+1,2,none⟩=some (.slice a4 k4 c4)) (by kernel_rfl) (by kernel_rfl) (by kernel_rfl) (by kernel_rfl) (KK.out _ x2.out.drew) ?_
  iterate 8
   refine⟨_,rfl,?_⟩;apply Exists.intro
   refine⟨.inl ⟨by rfl,?_⟩,?_⟩
   .rintro W' ⟨q1,q2,q3,q4,q5,q6⟩;go_simp;try with_reducible rfl
   go_frame
  refine a0c (i:=4) (by kernel_rfl) rfl rfl ?_;go_wp2_with fail;refine (PM1 _ _ _ (N1'.out.call x2.out.drew) (D2'.out.call x2.out.drew)).out.mono ?_;rintro e w3 ⟨⟨v3,rfl,hv3⟩,hb3⟩;obtain⟨x3,V3⟩:=zg (show Below W.heap.size W w3 from a0a x2.out.drew hb3) hv3;clear hb3 hv3;go_wp2_with fail;refine⟨KK.out _ x3.out,?_⟩;refine a0c (i:=9) (by kernel_rfl) rfl rfl ?_;go_wp2_with fail;refine (PM2 _ _ _ (N2'.out.call x3.out) (D1'.out.call x3.out)).out.mono ?_;rintro e w4 ⟨⟨v4,rfl,hv4⟩,hb4⟩;obtain⟨x4,V4,V34⟩:=zc (a0a x3.out hb4) hv4 (V3.out.call hb4);clear hb4 hv4;go_wp2_with fail;refine⟨KK.out _ x4.out,?_⟩;refine a0c (i:=10) (by kernel_rfl) rfl rfl ?_;go_wp2_with fail;refine (PC _ _ _ V34.out V4.out).out.mono ?_;rintro e w5 ⟨rfl,hb5⟩;have x5:=hid (a0a x4.out hb5);clear hb5;go_wp2_with fail;refine⟨KK.out _ x5.out,?_⟩;refine b0d (is:=[11]) (g:=0) (by kernel_rfl) rfl (KK.out _ x5.out) (by kernel_rfl) ?_
  iterate 1
   refine⟨_,rfl,?_⟩;apply Exists.intro
   refine⟨.inl ⟨by rfl,?_⟩,?_⟩
   .rintro W' ⟨q1,q2,q3,q4,q5,q6⟩;go_simp;try with_reducible rfl
   go_frame
  refine Z7 (by kernel_rfl) ?_ _;simp only[a0Z];obtain⟨e0,e1,e2,e3,e4,e5⟩:=KK.out _ x5.out;have yy:=hid (a0a HY.out x5.out);cases m1
  .go_wp2_with fail;go_ret
   exact⟨by rw[<- HZ.out,Q0 (fun h=>h rfl),Q0 (fun h=>by have:=HM1.out.1 h;simp at this)];rfl,yy.out⟩
  .go_wp2_with fail;go_ret
   exact⟨by rw[<- HZ.out,Q0 (fun h=>h rfl),U0 (HM1.out.2 (by simp))];rfl,yy.out⟩
 .have t0:(s1 != s2)=true:=by simpa using hne
  obtain⟨HNE,yy⟩:=zg hne (a0a HY.out x2.out);clear hne;go_wp2_with fail;go_ret
  exact⟨by rw[<- HZ.out,U0 HNE.out];rfl,yy.out⟩
open Go.Shelf
open Go.Lib (decDigits nDigits)
def wI (z:Int)(s:ByteArray):Int:=if qE s=0 then z else 0
def xE (x:Int)(s t:ByteArray):Int:=wE (wE x t) s
def tI (z:Int)(s t:ByteArray):Int:=wI (wI z t) s
def q0c (w:World)(s:ByteArray)(F:Nat)(cs:Array Value)(R:Int)(x:Int)(hs:s.size<=1000000)(hL:Lay w)
 (hen:∀ args w,(callFunc F args).run Tryz.prog w=.ok (.enter F args) w)
 (hF:∀ W v,qE s=0->Below w.heap.size w W->IsQ .u64 W v (vQ s)->Lay W->Calls Tryz.prog F (#[v]++cs) W fun e w'=>e=.returned (.tuple #[.int .i64 R,.int .i64 x])/\Below W.heap.size W w'):
 Calls Tryz.prog 246 #[.string s,.func (.func F) #[] cs] w fun e w'=>e=.returned (.tuple #[.int .i64 (wI R s),.int .i64 (wE x s)])/\Below w.heap.size w w':=by
 obtain⟨HP,HL,HF⟩:=zc (l0K w s hs hL) hL hF;clear hF hs hL;by_cases h1:qE s=0
 .have e1:wI R s=R:=U0 h1;have e2:wE x s=x:=U0 h1;rw[e1,e2];have HQ:=hid h1;rw[h1]at HP;clear h1 e1 e2;go_enter Tryz.func246,Tryz.ntmps246;go_wp2_with fail;refine HP.out.mono ?_;rintro e w1 ⟨⟨v,rfl,hv,-⟩,hb1⟩;have hq:=v0J HQ.out (hv rfl);have y1:=hid hb1;obtain⟨N,D,hvv,hN,hD⟩:=hv rfl;subst hvv;obtain⟨a,c,rfl,_⟩:=hN.openI;obtain⟨a',c',rfl,_⟩:=hD.openI;obtain⟨k,hk⟩:=gn ((limbs (bN (iD (cW s)))).length);obtain⟨k',hk'⟩:=gn ((limbs (bN (qD s))).length);obtain⟨m,hm⟩:=gn (iM (cW s));rw[hk,hk',hm]at hq;rw[hk,hk',hm];obtain⟨X2,b2⟩:=zg (Blk.new w1 #[.bool m,.slice a k c,.slice a' k' c'] 126) ((J3 w1.heap.size w1).alloc nr (.cells #[.bool m,.slice a k c,.slice a' k' c'] 126));obtain⟨y2,Q2⟩:=zg (a0a y1.out b2.out) (hq.call b2.out);have r0:=X2.out.cell 0;have r1:=X2.out.cell 1;have r2:=X2.out.cell 2;simp at r0 r1 r2;clear hb1 hv hN hD hk hk' hm hq b2;go_wp2_with fail;refine (HF.out _ _ HQ.out y2.out Q2.out (HL.out.call y2.out)).mono ?_;rintro e w3 ⟨rfl,hb3⟩;have y3:=hid (a0a y2.out hb3);clear hb3;go_wp2_with fail;go_ret2
  exact⟨rfl,y3.out⟩
 .have e1:wI R s=0:=Q0 h1;have e2:wE x s=qE s:=Q0 h1;rw[e1,e2];obtain⟨y,hy⟩:=gn (qE s);rw[hy]at HP h1 |-;have q1:(y != 0)=true:=by simpa using h1
  have H1:=hid h1;clear e1 e2 hy h1;go_enter Tryz.func246,Tryz.ntmps246;go_wp2_with fail;refine HP.out.mono ?_;rintro e w1 ⟨⟨v,rfl,-,hv⟩,hb1⟩;have hv':=hv H1.out;subst hv';have y1:=hid hb1;have y2:=hid (y1.out.alloc y1.out.size (.cells #[.bool false,.slice none 0 0,.slice none 0 0] 126));clear hb1 hv;go_wp2_with fail;go_ret2
  exact⟨rfl,y2.out⟩
def q0d (w:World)(v u:Value)(p q:Rat)(F g1 g2:Nat)(R:Int)(x:Int)(hv:IsQ .u64 w v p)(hu:IsQ .u64 w u q)(hL:Lay w)
 (hen:∀ args w,(callFunc F args).run Tryz.prog w=.ok (.enter F args) w)
 (c1:w.cell? ⟨g1,0,none⟩=some (.func (.func F) #[] #[])) (m:Bool) (a a':Option Addr) (k c k' c':Nat) (hv0:v=.agg #[.bool m,.slice a k c,.slice a' k' c'])
 (c2:Blk w g2 #[.bool m,.slice a k c,.slice a' k' c'] 126)
 (hF:∀ W v u,IsQ .u64 W v p->IsQ .u64 W u q->Lay W->Calls Tryz.prog F #[v,u] W fun e w'=>e=.returned (.tuple #[.int .i64 R,.int .i64 x])/\Below W.heap.size W w'):
 Calls Tryz.prog 248 #[u,.pointer (some ⟨g1,0,none⟩),.pointer (some ⟨g2,0,none⟩)] w fun e w'=>e=.returned (.tuple #[.int .i64 R,.int .i64 x])/\Below w.heap.size w w':=by
 obtain⟨HF,HL⟩:=zg hF hL;obtain⟨N,D,rfl,hN,hD⟩:=hu.ex;obtain⟨a1,d1,rfl,_⟩:=hN.openI;obtain⟨a2,d2,rfl,_⟩:=hD.openI;obtain⟨k1,hk1⟩:=gn ((limbs q.num.natAbs).length);obtain⟨k2,hk2⟩:=gn ((limbs q.den).length);obtain⟨mu,hmu⟩:=gn (decide (q.num<0));rw[hk1,hk2,hmu]at hu;rw[hk1,hk2,hmu];subst hv0;obtain⟨X2,b2⟩:=zg (Blk.new w #[.bool mu,.slice a1 k1 d1,.slice a2 k2 d2] 126) ((J3 w.heap.size w).alloc nr (.cells #[.bool mu,.slice a1 k1 d1,.slice a2 k2 d2] 126));obtain⟨V2,U2⟩:=zg (hv.call b2.out) (hu.call b2.out);have C1:=(b2.out.cell (a0e c1)).trans c1;have C2:=hid (c2.call b2.out);have r0:=X2.out.cell 0;have r1:=X2.out.cell 1;have r2:=X2.out.cell 2;have s0:=C2.out.cell 0;have s1:=C2.out.cell 1;have s2:=C2.out.cell 2;simp at r0 r1 r2 s0 s1 s2;clear hk1 hk2 hmu hN hD hv hu c1 c2 hF hL;go_enter Tryz.func248,Tryz.ntmps248;go_wp2_with fail;refine (HF.out _ _ _ V2.out U2.out (HL.out.call b2.out)).mono ?_;rintro e w3 ⟨rfl,hb3⟩;have y3:=hid (a0a b2.out hb3);clear hb3;go_wp2_with fail;go_ret2
 exact⟨rfl,y3.out⟩
def t0C (w:World)(v:Value)(t:ByteArray)(p:Rat)(F g1 g2:Nat)(R:Int)(x:Int)(ht:t.size<=1000000)(hv:IsQ .u64 w v p)(hL:Lay w)
 (hen:∀ args w,(callFunc F args).run Tryz.prog w=.ok (.enter F args) w)
 (c1:w.cell? ⟨g1,0,none⟩=some (.string t)) (c2:w.cell? ⟨g2,0,none⟩=some (.func (.func F) #[] #[]))
 (hF:∀ W v u,qE t=0->IsQ .u64 W v p->IsQ .u64 W u (vQ t)->Lay W->Calls Tryz.prog F #[v,u] W fun e w'=>e=.returned (.tuple #[.int .i64 R,.int .i64 x])/\Below W.heap.size W w'):
 Calls Tryz.prog 247 #[v,.pointer (some ⟨g1,0,none⟩),.pointer (some ⟨g2,0,none⟩)] w fun e w'=>e=.returned (.tuple #[.int .i64 (wI R t),.int .i64 (wE x t)])/\Below w.heap.size w w':=by
 obtain⟨HF,HL,HEN⟩:=zc hF hL hen;obtain⟨N,D,rfl,hN,hD⟩:=hv.ex;obtain⟨a1,d1,rfl,_⟩:=hN.openI;obtain⟨a2,d2,rfl,_⟩:=hD.openI;obtain⟨k1,hk1⟩:=gn ((limbs p.num.natAbs).length);obtain⟨k2,hk2⟩:=gn ((limbs p.den).length);obtain⟨mu,hmu⟩:=gn (decide (p.num<0));rw[hk1,hk2,hmu]at hv;rw[hk1,hk2,hmu];obtain⟨X2,b2⟩:=zg (Blk.new w #[.bool mu,.slice a1 k1 d1,.slice a2 k2 d2] 126) ((J3 w.heap.size w).alloc nr (.cells #[.bool mu,.slice a1 k1 d1,.slice a2 k2 d2] 126));have V2:=hid (hv.call b2.out);have C1:=(b2.out.cell (a0e c1)).trans c1;obtain⟨C2,L2⟩:=zg ((b2.out.cell (a0e c2)).trans c2) (HL.out.call b2.out);obtain⟨w2,hw2⟩:=gn (w.alloc (.cells #[.bool mu,.slice a1 k1 d1,.slice a2 k2 d2] 126));obtain⟨g3,hg3⟩:=gn (w.heap.size)
 have W2:=hid (q0c w2 t 248 #[.pointer (some ⟨g2,0,none⟩),.pointer (some ⟨g3,0,none⟩)] R x ht (hw2 ▸ L2.out) (Cx Tryz.func248 (by kernel_rfl) rfl)
  (fun W u hq hb hu hLW=>by
   subst hw2;subst hg3;have hVW:=V2.out.call hb;have hX:=X2.out.call hb;have hC:=(hb.cell (a0e C2.out)).trans C2.out;exact q0d W _ u p (vQ t) F g2 w.heap.size R x hVW hu hLW HEN.out hC mu a1 a2 k1 d1 k2 d2 rfl hX (fun W v u h1 h2 h3=>HF.out W v u hq h1 h2 h3)))
 rw[hw2]at C1;clear hk1 hk2 hmu hN hD hv c1 c2 hF hL hen;go_enter Tryz.func247,Tryz.ntmps247;go_wp2_with fail;refine W2.out.mono ?_;rintro e w3 ⟨rfl,hb3⟩;have y3:=hid (a0a b2.out (hw2 ▸ hb3));clear hb3;go_wp2_with fail;go_ret2
 exact⟨rfl,y3.out⟩
def x0b (w:World)(s t:ByteArray)(F:Nat)(R:Int)(x:Int)(hs:s.size<=1000000)(ht:t.size<=1000000)(hL:Lay w)
 (hen:∀ args w,(callFunc F args).run Tryz.prog w=.ok (.enter F args) w)
 (hF:∀ W v u,qE s=0->qE t=0->IsQ .u64 W v (vQ s)->IsQ .u64 W u (vQ t)->Lay W->Calls Tryz.prog F #[v,u] W fun e w'=>e=.returned (.tuple #[.int .i64 R,.int .i64 x])/\Below W.heap.size W w'):
 Calls Tryz.prog 187 #[.string s,.string t,.func (.func F) #[] #[]] w fun e w'=>e=.returned (.tuple #[.int .i64 (tI R s t),.int .i64 (xE x s t)])/\Below w.heap.size w w':=by
 obtain⟨HF,HL,HEN,HT,b1⟩:=zf hF hL hen ht ((J3 w.heap.size w).alloc nr (.cells #[.string t] 23));obtain⟨w1,hw1⟩:=gn (w.alloc (.cells #[.string t] 23));obtain⟨g1,hg1⟩:=gn (w.heap.size);have X1:=hid (Blk.new w #[.string t] 23);rw[hw1]at b1;rw[hw1,hg1]at X1;have b2:=hid ((J3 w1.heap.size w1).alloc nr (.cells #[.func (.func F) #[] #[]] 184));obtain⟨w2,hw2⟩:=gn (w1.alloc (.cells #[.func (.func F) #[] #[]] 184));obtain⟨X2,X12,y2⟩:=zc (Blk.new w1 #[.func (.func F) #[] #[]] 184) (X1.out.call b2.out) (a0a b1.out b2.out);have hg2:w1.heap.size=g1+1:=by rw[<- hw1,<- hg1];simp
 rw[hw2]at b2 X12 y2;rw[hw2,hg2]at X2;have L2:=hid (HL.out.call y2.out)
 have W2:=hid (q0c w2 s 247 #[.pointer (some ⟨g1,0,none⟩),.pointer (some ⟨g1+1,0,none⟩)] (wI R t) (wE x t) hs L2.out (Cx Tryz.func247 (by kernel_rfl) rfl)
  (fun W v hq hb hv hLW=>by
   have hX1:=(X12.out.call hb).cell 0;have hX2:=(X2.out.call hb).cell 0;exact t0C W v t (vQ s) F g1 (g1+1) R x HT.out hv hLW HEN.out hX1 hX2 (fun W v u h0 h1 h2 h3=>HF.out W v u hq h0 h1 h2 h3)))
 obtain⟨HW1,HW2,HG1⟩:=zc hw1 hw2 hg1;clear hF hL hen hs ht hw1 hw2 hg1 hg2 b1;go_enter Tryz.func187,Tryz.ntmps187;go_wp2_with fail;have hw1:=HW1.out;have hw2:=HW2.out;have hg1:=HG1.out;rw[hw1,hg1,hw2];refine W2.out.mono ?_;rintro e w3 ⟨rfl,hb3⟩;have y3:=hid (a0a y2.out hb3);clear hb3 hw1 hw2 hg1;go_wp2_with fail;go_ret2
 exact⟨rfl,by have:=y3.out;exact this⟩
def c2I (s t:ByteArray):tI (m0Q (vQ s) (vQ t)) s t=cmB s t:=by
 unfold tI wI cmB;by_cases h1:qE s=0<;>by_cases h2:qE t=0<;>simp[h1,h2]
def c2E (s t:ByteArray):xE 0 s t=cmE s t:=by
 unfold xE wE cmE;by_cases h1:qE s=0<;>by_cases h2:qE t=0<;>simp[h1,h2]
def z0N (w:World)(v u:Value)(p q:Rat)(hp:IsQ .u64 w v p)(hq:IsQ .u64 w u q)(sp:Sml 1000 p)(sq:Sml 1000 q)(hL:Lay w):
 Calls Tryz.prog 188 #[v,u] w fun e w'=>e=.returned (.tuple #[.int .i64 (m0Q p q),.int .i64 0])/\Below w.heap.size w w':=by
 have F1:=fun V v u hv hu=>hid (b1V V v u p q hv hu (E0 sp.n (by omega)) (E0 sp.d (by omega)) (E0 sq.n (by omega)) (E0 sq.d (by omega)))
 have HC:=hid (s0l p q);obtain⟨Z,hZ⟩:=gn (cmF p q);rw[hZ]at F1 HC;rw[<- HC.out];obtain⟨N1,D1,rfl,hn1,hd1⟩:=hp.ex;obtain⟨N2,D2,rfl,hn2,hd2⟩:=hq.ex;obtain⟨a1,c1,rfl,_⟩:=hn1.openI;obtain⟨a2,c2,rfl,_⟩:=hd1.openI;obtain⟨a3,c3,rfl,_⟩:=hn2.openI;obtain⟨a4,c4,rfl,_⟩:=hd2.openI;obtain⟨k1,hk1⟩:=gn ((limbs p.num.natAbs).length);obtain⟨k2,hk2⟩:=gn ((limbs p.den).length);obtain⟨k3,hk3⟩:=gn ((limbs q.num.natAbs).length);obtain⟨k4,hk4⟩:=gn ((limbs q.den).length);obtain⟨m1,hm1⟩:=gn (decide (p.num<0));obtain⟨m2,hm2⟩:=gn (decide (q.num<0));rw[hk1,hk2,hm1]at hp |-;rw[hk3,hk4,hm2]at hq |-;obtain⟨X1,b1⟩:=zg (Blk.new w #[.bool m1,.slice a1 k1 c1,.slice a2 k2 c2] 126) ((J3 w.heap.size w).alloc nr (.cells #[.bool m1,.slice a1 k1 c1,.slice a2 k2 c2] 126));obtain⟨Y1,X2,b2⟩:=zc (X1.out.alloc (.cells #[.bool m2,.slice a3 k3 c3,.slice a4 k4 c4] 126)) (Blk.new (w.alloc (.cells #[.bool m1,.slice a1 k1 c1,.slice a2 k2 c2] 126)) #[.bool m2,.slice a3 k3 c3,.slice a4 k4 c4] 126) (b1.out.alloc b1.out.size (.cells #[.bool m2,.slice a3 k3 c3,.slice a4 k4 c4] 126));obtain⟨P2,Q2⟩:=zg (hp.call b2.out) (hq.call b2.out);have r0:=Y1.out.cell 0;have r1:=Y1.out.cell 1;have r2:=Y1.out.cell 2;have s0:=X2.out.cell 0;have s1:=X2.out.cell 1;have s2:=X2.out.cell 2;simp at r0 r1 r2 s0 s1 s2;clear hk1 hk2 hk3 hk4 hm1 hm2 hn1 hn2 hd1 hd2 hp hq hL sp sq hZ;go_enter Tryz.func188,Tryz.ntmps188;go_wp2_with fail;refine (F1 _ _ _ P2.out Q2.out).out.mono ?_;rintro e w3 ⟨rfl,hb3⟩;have y3:=hid (a0a b2.out hb3);clear hb3;go_wp2_with fail;go_ret2
 exact⟨rfl,y3.out⟩
def b1z (w:World)(s t:ByteArray)(hs:s.size<=1000000)(ht:t.size<=1000000)(hL:Lay w):
 Calls Tryz.prog 112 #[.string s,.string t] w fun e w'=>e=.returned (.tuple #[.int .i64 (cmB s t),.int .i64 (cmE s t)])/\Below w.heap.size w w':=by
 have H:=hid (x0b w s t 188 (m0Q (vQ s) (vQ t)) 0 hs ht hL (Cx Tryz.func188 (by kernel_rfl) rfl)
  (fun W v u h1 h2 hv hu hLW=>z0N W v u _ _ hv hu (f0w h1) (f0w h2) hLW))
 rw[c2I,c2E]at H;obtain⟨B,hB⟩:=gn (cmB s t);obtain⟨E,hE⟩:=gn (cmE s t);rw[hB,hE]at H |-;clear hB hE hs ht hL;go_enter Tryz.func112,Tryz.ntmps112;go_wp2_with fail;refine H.out.mono ?_;rintro e w3 ⟨rfl,hb3⟩;have y3:=hid hb3;clear hb3;go_wp2_with fail;go_ret2
 exact⟨rfl,y3.out⟩
def l0r (w:World)(s t:ByteArray)(hs:s.size<=1000000)(ht:t.size<=1000000)(hL:Lay w):
 Calls Tryz.prog 146 #[.string s,.string t,.int .i64 1] w fun e w'=>e=.returned (.tuple #[.string (mnB s t),.int .i64 (cmE s t)])/\Below w.heap.size w w':=by
 have H:=hid (b1z w s t hs ht hL);unfold mnB;have h3:=k0O s t;obtain⟨B,hB⟩:=gn (cmB s t);obtain⟨E,hE⟩:=gn (cmE s t);rw[hB]at h3;rw[hB,hE]at H |-;clear hB hE hs ht hL;by_cases he:E=0
 .subst he;rcases h3 with rfl | rfl | rfl
  .go_enter Tryz.func146,Tryz.ntmps146;go_wp2_with fail;refine H.out.mono ?_;rintro e w3 ⟨rfl,hb3⟩;have y3:=hid hb3;clear hb3;go_wp2_with fail;go_ret2
   exact⟨rfl,y3.out⟩
  .go_enter Tryz.func146,Tryz.ntmps146;go_wp2_with fail;refine H.out.mono ?_;rintro e w3 ⟨rfl,hb3⟩;have y3:=hid hb3;clear hb3;go_wp2_with fail;go_ret2
   exact⟨rfl,y3.out⟩
  .go_enter Tryz.func146,Tryz.ntmps146;go_wp2_with fail;refine H.out.mono ?_;rintro e w3 ⟨rfl,hb3⟩;have y3:=hid hb3;clear hb3;go_wp2_with fail;go_ret2
   exact⟨rfl,y3.out⟩
 .rw[Q0 he];have q1:(E != 0)=true:=by simpa using he
  clear he h3;go_enter Tryz.func146,Tryz.ntmps146;go_wp2_with fail;refine H.out.mono ?_;rintro e w3 ⟨rfl,hb3⟩;have y3:=hid hb3;clear hb3;go_wp2_with fail;go_ret2
  exact⟨rfl,y3.out⟩
def b1x (w:World)(s t:ByteArray)(hs:s.size<=1000000)(ht:t.size<=1000000)(hL:Lay w):
 Calls Tryz.prog 52 #[.string s,.string t] w fun e w'=>e=.returned (.tuple #[.string (mnB s t),.int .i64 (cmE s t)])/\Below w.heap.size w w':=by
 have H:=hid (l0r w s t hs ht hL);obtain⟨B,hB⟩:=gn (mnB s t);obtain⟨E,hE⟩:=gn (cmE s t);rw[hB,hE]at H |-;clear hB hE hs ht hL;go_enter Tryz.func52,Tryz.ntmps52;go_wp2_with fail;refine H.out.mono ?_;rintro e w3 ⟨rfl,hb3⟩;have y3:=hid hb3;clear hb3;go_wp2_with fail;go_ret2
 exact⟨rfl,y3.out⟩
def b1y (w:World)(n:Nat)(h:n<=9223372036854775807)(hL:Lay w):
 Calls Tryz.prog 51 #[.int .i64 (n:Nat)] w fun e w'=>e=.returned (.string (a0g n))/\Below w.heap.size w w':=by
 have H:=hid (z0w w n h hL);obtain⟨s,hs⟩:=gn (a0g n);rw[hs]at H |-;clear hs h hL;go_enter Tryz.func51,Tryz.ntmps51;go_wp2_with fail;refine H.out.mono ?_;rintro e w3 ⟨rfl,hb3⟩;have y3:=hid hb3;clear hb3;go_wp2_with fail;go_ret
 exact⟨rfl,y3.out⟩
def x0d (w:World)(v:Value)(q:Rat)(n g1:Nat)(z:Int)(hp:IsQ .u64 w v q)(sp:Sml 1000 q)(h0:q≠0)(hn1:1<=n)(hn:n<=1000000000)(hzn:z = -(n:Int))(hL:Lay w)(c1:w.cell? ⟨g1,0,none⟩=some (.int .i64 z)):
 Calls Tryz.prog 156 #[v,.pointer (some ⟨g1,0,none⟩)] w fun e w'=>e=.returned (.tuple #[.string (c0u (q⁻¹ ^ n)),.int .i64 (c0J (q⁻¹ ^ n))])/\Below w.heap.size w w':=by
 have FS:=fun V v hv=>hid (r0K V v q hv)
 have FI:=fun V v hv=>hid (b1U V v q hv h0)
 have sg:=b1r h0;have spi:=w0w h0 sp;obtain⟨sx,hz⟩:=gn (sgQ q);rw[hz]at FS sg;obtain⟨p,hpq⟩:=gn (q⁻¹);rw[hpq]at FI spi |-;have F1:=fun V v hv hV=>hid (r0d V v p.num.natAbs n hv (E0 spi.n (by omega)) (by omega) hV)
 have F2:=fun V v hv hV=>hid (r0d V v p.den n hv (E0 spi.d (by omega)) (by omega) hV)
 obtain⟨e1,e2,e3⟩:=g0S p n;have HOV:=hid (fun h=>m0P (q:=p) (n:=n) h);have F3:=fun V v hv hV (h1:nDigits (p.num.natAbs ^ n)<=4000) (h2:nDigits (p.den ^ n)<=4000)=>hid (u0B V v (p ^ n) hv (by rw[e2];exact E0 (a0l h1) (by omega)) (by rw[e3];exact E0 (a0l h2) (by omega)) hV)
 obtain⟨B,hB⟩:=gn (c0u (p ^ n));obtain⟨E,hE⟩:=gn (c0J (p ^ n));rw[hB,hE]at F3 HOV |-;clear hB hE;have HL:=hid hL;obtain⟨N1,D1,rfl,hn1',hd1⟩:=hp.ex;obtain⟨a1,c1',rfl,_⟩:=hn1'.openI;obtain⟨a2,c2',rfl,_⟩:=hd1.openI;obtain⟨k1,hk1⟩:=gn ((limbs q.num.natAbs).length);obtain⟨k2,hk2⟩:=gn ((limbs q.den).length);obtain⟨mq,hmq⟩:=gn (decide (q.num<0));rw[hk1,hk2,hmq]at hp |-;obtain⟨X1,b1⟩:=zg (Blk.new w #[.bool mq,.slice a1 k1 c1',.slice a2 k2 c2'] 126) ((J3 w.heap.size w).alloc nr (.cells #[.bool mq,.slice a1 k1 c1',.slice a2 k2 c2'] 126));have HP:=hid (hp.call b1.out);have r0:=X1.out.cell 0;have r1:=X1.out.cell 1;have r2:=X1.out.cell 2;have C1:=(b1.out.cell (a0e c1)).trans c1;simp at r0 r1 r2;have q0:decide (z<0)=true:=I8 (by omega);obtain⟨u,hu⟩:∃ u:Int,18446744073709551616-(n:Int)=u:=⟨_,rfl⟩;have w0:IntKind.u64.wrap z=u:=by simp[IntKind.wrap,IntKind.bits,IntKind.signed];omega
 have w1:IntKind.u64.wrap (-u)=(n:Int):=by simp[IntKind.wrap,IntKind.bits,IntKind.signed];omega
 obtain⟨E1,E2,E3⟩:=zc e1 e2 e3;clear hk1 hk2 hmq hn1' hd1 hp hL sp spi e1 e2 e3 c1 hn hn1 h0 hz hpq hzn hu;go_enter Tryz.func156,Tryz.ntmps156;go_wp2_with fail;refine (FS _ _ HP.out).out.mono ?_;rintro e w2 ⟨rfl,hb2⟩;obtain⟨y2,X2⟩:=zg (a0a b1.out hb2) (X1.out.call hb2);have C2:=(hb2.cell (a0e C1)).trans C1;have HP2:=hid (HP.out.call hb2);clear hb2 r0 r1 r2 C1;have r0:=X2.out.cell 0;have r1:=X2.out.cell 1;have r2:=X2.out.cell 2;simp at r0 r1 r2;go_wp2_with fail;refine (FI _ _ HP2.out).out.mono ?_;rintro e w3 ⟨⟨vi,rfl,hvi⟩,hb3⟩;obtain⟨y3,X3⟩:=zg (a0a y2.out hb3) (X2.out.call hb3);obtain⟨N3,D3,rfl,hn3,hd3⟩:=hvi.ex;obtain⟨a3,c3,rfl,_⟩:=hn3.openI;obtain⟨a4,c4,rfl,_⟩:=hd3.openI;obtain⟨k3,hk3⟩:=gn ((limbs p.num.natAbs).length);obtain⟨k4,hk4⟩:=gn ((limbs p.den).length);obtain⟨m1,hm1⟩:=gn (decide (p.num<0));rw[hk3,hk4,hm1]at hvi |-;rw[hk3]at hn3;rw[hk4]at hd3;have E1':=E1.out;rw[hm1]at E1';obtain⟨E1,HN3,HD3⟩:=zc E1' hn3 hd3;clear hb3 r0 r1 r2 C2 hk3 hk4 hm1 hvi hn3 hd3 E1';have r0:=X3.out.cell 0;have r1:=X3.out.cell 1;have r2:=X3.out.cell 2;have f0:=X3.out.free 0;have f1:=X3.out.free 1;have f2:=X3.out.free 2;simp at r0 r1 r2;obtain⟨s1,s2⟩:=d0k X3.out m1 a3 a4 k3 c3 k4 c4;obtain⟨N2,D2,X0⟩:=zc (s1 _ _ _ HN3.out) (s1 _ _ _ HD3.out) s2;have y0:Hid (Below w.heap.size w (((w3.setCell ⟨w.heap.size,0,none⟩ (.bool m1)).setCell ⟨w.heap.size,1,none⟩ (.slice a3 k3 c3)).setCell ⟨w.heap.size,2,none⟩ (.slice a4 k4 c4))):=((y3.out.setCell nr _).setCell nr _).setCell nr _;clear s1 s2;go_wp2_with fail;clear f0 f1 f2;refine (F1 _ _ N2.out (HL.out.call y0.out)).out.mono ?_;rintro e w3 ⟨hr3,hb3⟩;obtain⟨y3,X3,D3⟩:=zc (a0a y0.out hb3) (X0.out.call hb3) (D2.out.call hb3);clear hb3 r0 r1 r2;have r0:=X3.out.cell 0;have r1:=X3.out.cell 1;have r2:=X3.out.cell 2;simp at r0 r1 r2;rcases hr3 with ⟨l3,v3,rfl,hv3⟩ | ⟨l3,rfl⟩
 .obtain⟨a3,c3,rfl,_⟩:=hv3.openI;obtain⟨k3,hk3⟩:=gn ((limbs (p.num.natAbs ^ n)).length);rw[hk3]at hv3 |-;obtain⟨V3,L3⟩:=zg hv3 l3;clear hk3 hv3 l3;go_wp2_with fail;refine (F2 _ _ D3.out (HL.out.call y3.out)).out.mono ?_;rintro e w4 ⟨hr4,hb4⟩;obtain⟨y4,X4,V4⟩:=zc (a0a y3.out hb4) (X3.out.call hb4) (V3.out.call hb4);clear hb4 r0 r1 r2;have r0:=X4.out.cell 0;have r1:=X4.out.cell 1;have r2:=X4.out.cell 2;simp at r0 r1 r2;rcases hr4 with ⟨l4,v4,rfl,hv4⟩ | ⟨l4,rfl⟩
  .obtain⟨a4,c4,rfl,_⟩:=hv4.openI;obtain⟨k4,hk4⟩:=gn ((limbs (p.den ^ n)).length);rw[hk4]at hv4 |-;obtain⟨W4,L4⟩:=zg hv4 l4;clear hk4 hv4 l4;have M:=hid (show IsQ .u64 w4 (.agg #[.bool (m1 && decide (n%2=1)),.slice a3 k3 c3,.slice a4 k4 c4]) (p ^ n) from⟨_,_,by rw[E1.out],by rw[E2.out];exact V4.out,by rw[E3.out];exact W4.out⟩);obtain⟨Q,hQ⟩:=gn (p ^ n);rw[hQ]at F3 M;clear hQ HOV F1 F2;have F4:=F3 _ _ M.out (HL.out.call y4.out) L3.out L4.out;cases m1
   focus
    simp only[Nj]at F4
   rotate_left
   focus
    simp only[Fd]at F4;have e9:((n:Int)%2==1)=decide (n%2=1):=by
     rw[Bc,Ei,S5];omega
    rw[<- e9]at F4;clear e9
   all_goals
    go_wp2_with fail;refine F4.out.mono ?_;rintro e w5 ⟨rfl,hb5⟩;have y5:=hid (a0a y4.out hb5);clear hb5;go_wp2_with fail;go_ret2
    exact⟨rfl,y5.out⟩
  .have e7:=hid (HOV.out (.inr l4));clear l4;go_wp2_with fail;go_ret2
   exact⟨by rw[e7.out.1,e7.out.2];rfl,y4.out⟩
 .have e7:=hid (HOV.out (.inl l3));clear l3;go_wp2_with fail;refine (F2 _ _ D3.out (HL.out.call y3.out)).out.mono ?_;rintro e w4 ⟨hr4,hb4⟩;have y4:=hid (a0a y3.out hb4);rcases hr4 with ⟨l4,v4,rfl,hv4⟩ | ⟨l4,rfl⟩
  .obtain⟨a4,c4,rfl,_⟩:=hv4.openI;obtain⟨k4,hk4⟩:=gn ((limbs (p.den ^ n)).length);rw[hk4];clear hk4 hv4 l4 hb4;go_wp2_with fail;go_ret2
   exact⟨by rw[e7.out.1,e7.out.2];rfl,y4.out⟩
  .clear l4 hb4;go_wp2_with fail;go_ret2
   exact⟨by rw[e7.out.1,e7.out.2];rfl,y4.out⟩
def pnB (n:Nat)(s:ByteArray):ByteArray:=z0S (fun q=>q⁻¹ ^ n) s
def pnE (n:Nat)(s:ByteArray):Int:=z0R (fun q=>q⁻¹ ^ n) s
def z0J (w:World)(s:ByteArray)(n:Nat)(z:Int)(hs:s.size<=1000000)(hq:qE s=0)(h0:vQ s≠0)(hn:n<=1000000000)(hzn:z = -(n:Int))(hL:Lay w):
 Calls Tryz.prog 57 #[.string s,.int .i64 z] w fun e w'=>e=.returned (.tuple #[.string (pnB n s),.int .i64 (pnE n s)])/\Below w.heap.size w w':=by
 by_cases hn0:n=0
 .subst hn0;obtain rfl:z=((0:Nat):Int):=by omega
  refine (b1w w s 0 hs (by omega) hL).mono ?_;rintro e w' ⟨rfl,hb⟩;refine⟨?_,hb⟩;unfold pwB pwE pnB pnE z0S z0R;simp only[Ni]
 obtain⟨HL,b1,X1⟩:=zc hL ((J3 w.heap.size w).alloc nr (.cells #[.int .i64 z] 3)) (Blk.new w #[.int .i64 z] 3);obtain⟨g1,hg1⟩:=gn (w.heap.size);obtain⟨w1,hw1⟩:=gn (w.alloc (.cells #[.int .i64 z] 3));have L1:=hid (HL.out.call b1.out);rw[hw1]at b1 X1 L1;rw[hg1]at X1
 have W1:=hid (m0N w1 s 156 #[.pointer (some ⟨g1,0,none⟩)] (c0u ((vQ s)⁻¹ ^ n)) (c0J ((vQ s)⁻¹ ^ n)) hs L1.out (Cx Tryz.func156 (by kernel_rfl) rfl)
  (fun W v hq hb hv hLW=>x0d W v (vQ s) n g1 z hv (f0w hq) h0 (by omega) hn hzn hLW ((X1.out.call hb).cell 0)))
 have e1:wB (c0u ((vQ s)⁻¹ ^ n)) s=pnB n s:=rfl;have e2:wE (c0J ((vQ s)⁻¹ ^ n)) s=pnE n s:=rfl;rw[e1,e2]at W1;obtain⟨B,hB⟩:=gn (pnB n s);obtain⟨E,hE⟩:=gn (pnE n s);rw[hB,hE]at W1 |-;obtain⟨HW,HG⟩:=zg hw1 hg1;clear hB hE hs hL hn e1 e2 hw1 hg1 hq h0 hn0 hzn;go_enter Tryz.func57,Tryz.ntmps57;go_wp2_with fail;have hw1:=HW.out;have hg1:=HG.out;rw[hw1,hg1];refine W1.out.mono ?_;rintro e w2 ⟨rfl,hb2⟩;have y2:=hid (a0a b1.out hb2);clear hb2 hw1 hg1;go_wp2_with fail;go_ret2
 exact⟨rfl,y2.out⟩
def x0B (w:World)(a:ByteArray)(n many:Int)(ha:a.size<=100000)(hL:Lay w):
 Calls Tryz.prog 11 #[.string a,.int .i64 n,.int .i64 many] w fun e w'=>e=.returned (.tuple #[.string (ntB a n many),.int .i64 (ntE a n many)])/\Below w.heap.size w w':=by
 have HO:=hid (o0H w a n ha hL);unfold ntB ntE;by_cases h0:ntX a n many=0
 .rw[Q0 (by rw[h0];simp),Q0 (by rw[h0];simp)];have h0':=h0;unfold ntX at h0'
  split at h0'
  .rename_i h1;exact absurd h0' h1
  rename_i h1
  have h1:glE a n 256=0:=J8 h1
  split at h0'
  .cases h0'
  rename_i h2
  rw[h1]at HO;obtain⟨m,rfl⟩:∃ m:Nat,many=(m:Nat):=⟨many.toNat,by omega⟩;have HI:=fun V hV=>hid (b1y V m (by omega) hV)
  have HT:=fun V hV=>hid (z0M V (glB a n true) (a0g m) (E0 (n0g _ _ _) (by omega)) (a0N (by have:=a0j (n:=m) (k:=3) (by omega) (by omega);omega)) hV)
  have HM:=fun V hV=>hid (b1x V (f0y (· * ·) (glB a n true) (a0g m)) ⟨#[49]⟩ (E0 (r0H _ _ _) (by omega)) (by decide) hV)
  unfold ntT;rw[An];obtain⟨G,hG⟩:=gn (glB a n true);obtain⟨I,hI⟩:=gn (a0g m);rw[hG]at HO HT HM |-;rw[hI]at HI HT HM |-;obtain⟨T,hT⟩:=gn (f0y (· * ·) G I);obtain⟨TE,hTE⟩:=gn (h0z (· * ·) G I);rw[hT]at HT HM |-;rw[hTE]at HT;obtain⟨B,hB⟩:=gn (mnB T ⟨#[49]⟩);obtain⟨E,hE⟩:=gn (cmE T ⟨#[49]⟩);rw[hB,hE]at HM |-;obtain⟨M,hMM⟩:∃ M:Int,((m:Nat):Int)=M:=⟨_,rfl⟩;rw[hMM]at h2 HI |-;have t3:decide (M<0)=false:=I7 (by omega);have t4:decide (256<M)=false:=I7 (by omega);have HL:=hid hL;clear ha hL h0 h0' h1 h2 hG hI hT hTE hB hE hMM;go_enter Tryz.func11,Tryz.ntmps11;go_wp2_with fail;refine HO.out.mono ?_;rintro e w2 ⟨rfl,hb2⟩;have y2:=hid hb2;clear hb2;go_wp2_with fail;refine (HI _ (HL.out.call y2.out)).out.mono ?_;rintro e w3 ⟨rfl,hb3⟩;have y3:=hid (a0a y2.out hb3);clear hb3;go_wp2_with fail;refine (HT _ (HL.out.call y3.out)).out.mono ?_;rintro e w4 ⟨rfl,hb4⟩;have y4:=hid (a0a y3.out hb4);clear hb4;go_wp2_with fail;refine (HM _ (HL.out.call y4.out)).out.mono ?_;rintro e w5 ⟨rfl,hb5⟩;have y5:=hid (a0a y4.out hb5);clear hb5;go_wp2_with fail;go_ret2
  exact⟨rfl,y5.out⟩
 .rw[U0 h0,U0 h0];unfold ntX at h0 |-;obtain⟨z,hz⟩:=gn (glE a n 256);obtain⟨G,hG⟩:=gn (glB a n true);rw[hz,hG]at HO;rw[hz]at h0 |-;by_cases c0:z=0
  case' neg=>
   rw[U0 c0];have t0:(z==0)=false:=by rw[U4];exact c0
   clear hz hG h0 c0 ha hL
  rotate_left
  subst c0;rw[Q0 (by simp)]at h0 |-;by_cases c1:many<0\/256<many
  focus
   rw[U0 c1];obtain⟨p1,h1⟩:=gn (decide (many<0));obtain⟨p2,h2⟩:=gn (decide (256<many));have hpq:(p1 || p2)=true:=by rw[<- h1,<- h2];simpa using c1
   clear hz hG h0 c1 ha hL;cases p1
   case' true=>
    clear hpq h2
   rotate_left
   obtain rfl:p2=true:=by simpa using hpq
   clear hpq
  rotate_left 2
  .rw[Q0 c1]at h0;exact absurd rfl h0
  all_goals
   go_enter Tryz.func11,Tryz.ntmps11;go_wp2_with fail;refine HO.out.mono ?_;rintro e w0 ⟨rfl,hb0⟩;go_wp2_with fail;go_ret2
   exact⟨rfl,hb0⟩
def q0P (w:World)(a:ByteArray)(reach:Int)(ha:a.size<=100000)(hL:Lay w):
 Calls Tryz.prog 13 #[.string a,.int .i64 reach] w fun e w'=>e=.returned (.tuple #[.string (ffB a reach true),.int .i64 (ffE a reach true)])/\Below w.heap.size w w':=by
 have HR:=hid (m0X w a ha hL);unfold ffB ffE;by_cases h0:ffX a reach=0
 .rw[Q0 (by rw[h0];simp),Q0 (by rw[h0];simp)];have h0':=h0;unfold ffX at h0'
  split at h0'
  .rename_i h1;exact absurd h0' h1
  rename_i h1
  have h1:p0f a=0:=J8 h1
  split at h0'
  .cases h0'
  rename_i h2
  obtain⟨g1,g2⟩:=h0g h1;rw[g1]at HR;obtain⟨hq,-⟩:=r0l h1;have hne:=b1N h1;obtain⟨r,rfl⟩:∃ r:Nat,reach=(r:Nat):=⟨reach.toNat,by omega⟩;have HP:=fun V hV=>hid (z0J V a (ffM (r:Nat) true) (-((ffM (r:Nat) true:Nat):Int)) (by omega) hq hne (by unfold ffM;split<;>simp<;>omega) rfl hV)
  have e1:pnB (ffM (r:Nat) true) a=t0G (ffM (r:Nat) true) a:=rfl;have e2:pnE (ffM (r:Nat) true) a=t0F (ffM (r:Nat) true) a:=rfl;rw[e1,e2]at HP;have hM:ffM (r:Nat) true=r:=by unfold ffM;rw[U0 rfl,An]
  obtain⟨B,hB⟩:=gn (t0G (ffM (r:Nat) true) a);obtain⟨E,hE⟩:=gn (t0F (ffM (r:Nat) true) a);rw[hB,hE]at HP |-;rw[hM]at HP;have t0:(a.toList == [48])=false:=a0I g2;have HL:=hid hL;have hneg:IntKind.i64.wrap (-(r:Int)) = -(r:Int):=by rw[O0 _ ⟨by omega,by omega⟩]
  obtain⟨R,hR⟩:∃ R:Int,((r:Nat):Int)=R:=⟨_,rfl⟩;rw[hR]at HP hneg h2 |-;have t1:decide (R<0)=false:=I7 (by omega);have t2:decide (10000<R)=false:=I7 (by omega);clear ha hL h0 h0' h1 h2 g1 g2 hq hne e1 e2 hM hB hE hR;go_enter Tryz.func13,Tryz.ntmps13;go_wp2_with fail;refine HR.out.mono ?_;rintro e w1 ⟨rfl,hb1⟩;have y1:=hid hb1;clear hb1;go_wp2_with fail;refine (HP _ (HL.out.call y1.out)).out.mono ?_;rintro e w2 ⟨rfl,hb2⟩;have y2:=hid (a0a y1.out hb2);clear hb2;go_wp2_with fail;go_ret2
  exact⟨rfl,y2.out⟩
 .rw[U0 h0,U0 h0];unfold ffX at h0 |-;by_cases hiv:p0f a=0
  focus
   rw[Q0 (by rw[hiv];simp)]at h0 |-;obtain⟨g1,g2⟩:=h0g hiv;rw[g1]at HR;have ta:(a.toList == [48])=false:=a0I g2;by_cases c1:reach<0\/10000<reach
   focus
    rw[U0 c1];obtain⟨p1,h1⟩:=gn (decide (reach<0));obtain⟨p2,h2⟩:=gn (decide (10000<reach));have hpq:(p1 || p2)=true:=by rw[<- h1,<- h2];simpa using c1
    clear h0 c1 ha hL g1 g2 hiv;cases p1
    case' true=>
     clear hpq h2
    rotate_left
    obtain rfl:p2=true:=by simpa using hpq
    clear hpq
   rotate_left 2
   .rw[Q0 c1]at h0;exact absurd rfl h0
  rotate_left 2
  focus
   rw[U0 hiv];unfold p0f at hiv |-;obtain⟨z,hz⟩:=gn (gPE a);rw[hz]at HR hiv |-;by_cases c0:z=0
   case' neg=>
    rw[U0 c0];have t0:(z==0)=false:=by rw[U4];exact c0
    clear hz h0 c0 ha hL hiv
   rotate_left
   subst c0;rw[Q0 (by simp)]at hiv |-;by_cases ca:a=⟨#[48]⟩
   focus
    subst ca;rw[U0 rfl];clear hz h0 ha hL hiv
   rotate_left
   .rw[Q0 ca]at hiv;exact absurd rfl hiv
  all_goals
   go_enter Tryz.func13,Tryz.ntmps13;go_wp2_with fail;refine HR.out.mono ?_;rintro e w0 ⟨rfl,hb0⟩;go_wp2_with fail;go_ret2
   exact⟨rfl,hb0⟩
end
section
open Go.RowKit
open Go.Lib (decDigits nDigits)
def h12:ByteArray:=⟨#[49,47,50]⟩
def x11:ByteArray:=⟨#[49,49]⟩
def b1H:nzO true h12 [5,7] [x11,⟨#[48,48,49,49]⟩]=some [5,9]/\naE [5,7] h12 [x11,⟨#[48,48,49,49]⟩]=0:=by decide +kernel
def nnD:List (ByteArray×ByteArray):=[(⟨#[52]⟩,⟨#[49,47,56]⟩),(⟨#[53]⟩,⟨#[49,47,52]⟩),(⟨#[54]⟩,⟨#[49,47,56]⟩),(⟨#[108,97,116,101]⟩,⟨#[49,47,50]⟩)]
def c1h:nlE [5] h12 3=0/\nlR [5] h12 3=nnD:=by
 have h:nlE [5] h12 3=0:=by decide +kernel
 refine⟨h,?_⟩;rw[q0J h];have e:nyP (nlG h12 3) (chA (nlG h12 3) (3:Int).toNat) (3:Int).toNat [5]=nnD:=by decide +kernel
 rw[e];exact List.mergeSort_of_pairwise (by decide +kernel)
open Go.Shelf
end
section
open Go.RowKit Go.Shelf
def u0e (w:World)(L:List (ByteArray×ByteArray))(n:Nat)(hn:L.length=n)(hL:n<=1000):MRow (w.alloc (.cells (a0R L).toArray 42)) (.slice (some ⟨w.heap.size,0,none⟩) n n) L:=by
 subst hn;refine⟨some ⟨w.heap.size,0,none⟩,L.length,rfl,Z3 _,by omega,fun i x h=>⟨w.heap.size,0,rfl,by simp,?_,?_⟩⟩
 .rw[U7,(Blk.new w _ _).cell,K6];exact (e0I h).1
 .rw[U7,(Blk.new w _ _).cell,K6];exact (e0I h).2
def t0k (w:World)(L:List Int)(n:Nat)(hn:L.length=n)(hL:n<=1000):Row (w.alloc (.cells (zs L).toArray 3)) (.slice (some ⟨w.heap.size,0,none⟩) n n) (zs L):=
 Row.of_blk (Blk.new w _ _) (by rw[zs_length];exact hn) (by unfold maxLen;omega) (fun i x h=>by rw[K6];exact h) nr (by unfold maxLen;omega)
open Go.Lib (decDigits nDigits)
def r0h (w:World)(v u:Value)(L M:List Int)(hv:Row w v (zs L))(hu:Row w u (zs M)):
 Calls Tryz.prog 15 #[v,u] w fun e w'=>e=.returned (.bool (decide (L=M)))/\Below w.heap.size w w':=by
 obtain⟨a,c,rfl,h1,h2,h3⟩:=hv.openZ;obtain⟨a',c',rfl,h1',h2',h3'⟩:=hu.openZ;obtain⟨n,hn⟩:=gn (L.length);obtain⟨m,hm⟩:=gn (M.length);rw[hn]at h1 |-;rw[hm]at h1' |-;obtain⟨H3,H3',HN,HM⟩:=zd h3 h3' hn hm;clear hv hu h3 h3';by_cases hnm:n=m
 .subst hnm;have q0:((n:Int) != (n:Int))=false:=by simp
  clear hn hm;go_enter Tryz.func15,Tryz.ntmps15;go_wp2_with fail
  go_loopw [5] (fun ii wr=>∃ i:Nat,ii=.int .i64 (i:Nat)/\i<=n/\Hid (∀ j,j<i->L[j]?=M[j]?)/\Hid (Below w.heap.size w wr)) (fun ii wr=>n-(intOf ii).toNat)
  case atStart=>exact⟨0,rfl,J5 _,fun j hj=>absurd hj (by omega),J3 _ _⟩
  case round=>
   obtain⟨i,rfl,hi,hI,hB⟩:=hrel;by_cases hlt:i<n
   .obtain⟨x,hx⟩:∃ x,L[i]?=some x:=⟨_,J0 (by rw[HN.out];exact hlt)⟩;obtain⟨y,hy⟩:∃ x,M[i]?=some x:=⟨_,J0 (by rw[HM.out];exact hlt)⟩;obtain⟨g,o,rfl,hg,k1⟩:=H3.out i x hx;obtain⟨g',o',rfl,hg',k1'⟩:=H3'.out i y hy;obtain⟨HX,HY⟩:=zg hx hy;have m1:=(hB.out.cell (p:=⟨g,o+i,none⟩) hg).trans k1;have m3:=(hB.out.cell (p:=⟨g',o'+i,none⟩) hg').trans k1';have b1:(0:Int)<=(i:Int):=by omega
    have b2:(i:Int)<(n:Int):=by omega
    have wi:IntKind.i64.wrap ((i:Int)+1)=(i:Int)+1:=by rw[O0 _ ⟨by omega,by omega⟩]
    clear k1 k1' hx hy hg hg';by_cases he1:x=y
    .subst he1;have n1:(x != x)=false:=by simp
     go_wp2_with fail;refine a0k [0,1,2,3,4,5,6,7,8] 0 (fun w'=>w'.cell? ⟨g,o+i,none⟩=some (.int .i64 x)/\w'.cell? ⟨g',o'+i,none⟩=some (.int .i64 x)) (by kernel_rfl) (by kernel_rfl) (by kernel_rfl) (by kernel_rfl) ⟨m1,m3⟩ ?_
     iterate 9
      refine⟨_,rfl,?_⟩;apply Exists.intro
      refine⟨.inl ⟨by rfl,?_⟩,?_⟩
      .rintro W' ⟨q1,q2⟩;go_simp;try with_reducible rfl
      go_frame
     refine Z7 (by kernel_rfl) ?_ _;simp only[a0Z];go_wp2_with fail;go_roundw
     case rel=>exact⟨i+1,rfl,by omega,fun j hj=>by
      rcases Cz j i with h | h
      .exact hI.out j h
      .obtain rfl:j=i:=by omega
       rw[HX.out,HY.out],hB.out.drew⟩
     case measure=>simp[intOf]<;>omega
    .have n1:(x != y)=true:=by simpa using he1
     have hne:decide (L=M)=false:=by
      rw[F9];rintro rfl;have:=HX.out.symm.trans HY.out;simp only[At]at this;exact he1 this
     have HNE:=hid hne;clear hne he1;go_wp2_with fail;refine a0k [0,1,2,3,4,5,6,7,8] 0 (fun w'=>w'.cell? ⟨g,o+i,none⟩=some (.int .i64 x)/\w'.cell? ⟨g',o'+i,none⟩=some (.int .i64 y)) (by kernel_rfl) (by kernel_rfl) (by kernel_rfl) (by kernel_rfl) ⟨m1,m3⟩ ?_
     iterate 9
      refine⟨_,rfl,?_⟩;apply Exists.intro
      refine⟨.inl ⟨by rfl,?_⟩,?_⟩
      .rintro W' ⟨q1,q2⟩;go_simp;try with_reducible rfl
      go_frame
     refine Z7 (by kernel_rfl) ?_ _;simp only[a0Z];go_wp2_with fail;go_ret
     exact⟨by rw[HNE.out];rfl,hB.out.drew⟩
   .obtain rfl:i=n:=by omega
    have hE:L=M:=by
     apply Bp
     intro j;by_cases hj:j<i
     .exact hI.out j hj
     .rw[U6 (by rw[HN.out];omega),U6 (by rw[HM.out];omega)]
    have HE:=hid hE;have q1:decide ((i:Int)<(i:Int))=false:=by simp
    clear hE;go_wp2_with fail;go_ret
    exact⟨by rw[I8 HE.out];rfl,hB.out⟩
 .have hE:decide (L=M)=false:=by rw[F9];rintro rfl;exact hnm (hn.symm.trans hm)
  have HE:=hid hE;have q0:((n:Int) != (m:Int))=true:=by simp;omega
  clear hn hm hE;go_enter Tryz.func15,Tryz.ntmps15;go_wp2_with fail;go_ret
  exact⟨by rw[HE.out];rfl,J3 _ _⟩
def i0B (w:World)(L:List Int)(cs:Array Value)(n b:Nat)(hc:cs=(zs L).toArray)(hb:w.heap.size=b)(hn:L.length=n)(hL:n<=1000):Row (w.alloc (.cells cs 3)) (.slice (some ⟨b,0,none⟩) n n) (zs L):=by
 subst hc hb;exact t0k w L n hn hL
def t0l (w:World)(L:List ByteArray)(cs:Array Value)(n b:Nat)(hc:cs=(e0p L).toArray)(hb:w.heap.size=b)(hn:L.length=n)(hL:n<=1000):Row (w.alloc (.cells cs 26)) (.slice (some ⟨b,0,none⟩) n n) (e0p L):=by
 subst hc hb;exact Row.of_blk (Blk.new w _ _) (by rw[strs_length];exact hn) (by unfold maxLen;omega) (fun i x h=>by rw[K6];exact h) nr (by unfold maxLen;omega)
def p0k (w:World)(hL:LayB w):
 Calls Tryz.prog 6 #[] w fun e w'=>e=.returned (.bool true)/\Below w.heap.size w w':=by
 have HL:=hid hL;have PP:=fun V v u hv hu hV=>hid (v0A V v u [5,7] h12 [x11,⟨#[48,48,49,49]⟩] hv hu (by decide) (by decide) hV)
 have PL:=fun V v hv hV=>hid (v0z V v [5] h12 3 hv (by decide) (by decide +kernel) hV)
 rw[q0Q b1H.2 b1H.1,b1H.2]at PP;simp only[Option.isSome_some,Option.getD_some]at PP;rw[c1h.1,c1h.2]at PL;unfold h12 x11 at PP;unfold h12 nnD at PL;have PI:=fun V u v hu hv=>hid (r0h V u v [5,9] [5,9] hu hv)
 have PS:=fun V u v hu hv=>hid (r0g V u v nnD nnD hu hv)
 rw[I8 rfl]at PI PS;unfold nnD at PS;clear hL;have A1:=(J3 w.heap.size w).alloc nr (.cells #[.int .i64 5,.int .i64 7] 3);obtain⟨A2,R1,R2⟩:=zc (A1.alloc A1.size (.cells #[.string ⟨#[49,49]⟩,.string ⟨#[48,48,49,49]⟩] 26)) ((i0B w [5,7] _ 2 w.heap.size rfl rfl rfl (by omega)).call (br0.alloc nr (.cells #[.string ⟨#[49,49]⟩,.string ⟨#[48,48,49,49]⟩] 26))) (t0l (w.alloc (.cells #[.int .i64 5,.int .i64 7] 3)) [⟨#[49,49]⟩,⟨#[48,48,49,49]⟩] _ 2 (w.heap.size+1) rfl (by simp) rfl (by omega));clear A1;go_enter Tryz.func6,Tryz.ntmps6;go_wp2_with fail;refine (PP _ _ _ R1.out R2.out (HL.out.call A2.out)).out.mono ?_;rintro e w1 ⟨⟨u1,rfl,hu1⟩,hb1⟩;obtain⟨y1,U1⟩:=zg (a0a A2.out hb1) hu1;obtain⟨a1,k1,rfl,-,-,-⟩:=hu1.openZ;clear hb1 hu1;go_wp2_with fail;obtain⟨A3,R3⟩:=zg ((J3 w1.heap.size w1).alloc nr (.cells #[.int .i64 5] 3)) (i0B w1 [5] _ 1 w1.heap.size rfl rfl rfl (by omega));refine (PL _ _ R3.out (HL.out.call (a0a y1.out A3.out))).out.mono ?_;rintro e w2 ⟨⟨u,rfl,hu⟩,hb2⟩;have b2:=hid (a0a A3.out hb2);obtain⟨y2,U2⟩:=zg (a0a y1.out b2.out) hu;obtain⟨a2,k2,rfl,-,-,-⟩:=hu.ex;clear hb2 hu;obtain⟨A4,R4⟩:=zg ((J3 w2.heap.size w2).alloc nr (.cells #[.int .i64 5,.int .i64 9] 3)) (i0B w2 [5,9] _ 2 w2.heap.size rfl rfl rfl (by omega));go_wp2_with fail;refine (PI _ _ _ ((U1.out.call b2.out).call A4.out) R4.out).out.mono ?_;rintro e w3 ⟨rfl,hb3⟩;have b3:=hid (a0a A4.out hb3);have y3:=hid (a0a y2.out b3.out);clear hb3;obtain⟨A5,R5⟩:=zg ((J3 w3.heap.size w3).alloc nr (.cells #[.string ⟨#[52]⟩,.string ⟨#[49,47,56]⟩,.string ⟨#[53]⟩,.string ⟨#[49,47,52]⟩,.string ⟨#[54]⟩,.string ⟨#[49,47,56]⟩,.string ⟨#[108,97,116,101]⟩,.string ⟨#[49,47,50]⟩] 42)) (u0e w3 [(⟨#[52]⟩,⟨#[49,47,56]⟩),(⟨#[53]⟩,⟨#[49,47,52]⟩),(⟨#[54]⟩,⟨#[49,47,56]⟩),(⟨#[108,97,116,101]⟩,⟨#[49,47,50]⟩)] 4 rfl (by omega));go_wp2_with fail;refine (PS _ _ _ ((U2.out.call b3.out).call A5.out) R5.out).out.mono ?_;rintro e w4 ⟨rfl,hb4⟩;go_wp2_with fail;go_ret
 exact⟨rfl,a0a y3.out (a0a A5.out hb4)⟩
def r0w:(Tryz.prog.info? 26).map (fun i=>(i.zero,i.size,i.bytes))=some (some (.string ⟨#[]⟩),1,16):=by kernel_rfl
def p0z (l:List ByteArray):∀ u∈e0p l,u.oneCell'=true:=by
 intro u hu;obtain⟨x,_,rfl⟩:=Cc.1 hu
 rfl
def a1t (w:World)(v:Value)(l:List ByteArray)(hv:Row w v (e0p l))(hl:l.length<=1000000):
 Calls Tryz.prog 9 #[v] w fun e w'=>(∃ u,e=.returned u/\Row w' u (e0p l))/\Below w.heap.size w w':=by
 obtain⟨i0,hi,hz0,hz1,hz2⟩:=Cl r0w;obtain⟨a,c,rfl,q1,q2,q3⟩:=hv.ex;rw[strs_length]at *;have SRC:Hid (∀ j u,(e0p l)[j]?=some u->∃ ad,a=some ad/\(w.alloc (.cells #[] 26)).cell? (ad.add j)=some u):=fun j u hu=>by
  obtain⟨g,o,rfl,hg,hc⟩:=q3 j u hu;refine⟨_,rfl,?_⟩;rw[Addr.add_lit];exact (((J3 w.heap.size w).alloc nr (.cells #[] 26)).cell (p:=⟨g,o+j,none⟩) hg).trans hc
 obtain⟨HO,HB⟩:=zg (show (w.alloc (.cells #[] 26)).ownsRow w.heap.size 26 1 (.slice (some ⟨w.heap.size,0,none⟩) 0 0) 0 [] from Jn _ _ 0 nr (by unfold maxLen;omega) rfl) ((J3 w.heap.size w).alloc nr (.cells #[] 26));obtain⟨n,hn⟩:=gn (l.length);have HN:=hid (show (e0p l).length=n*1 from by rw[strs_length,hn];omega);rw[hn]at hl q1 |-;clear hv q3 hn;go_enter Tryz.func9,Tryz.ntmps9;go_wp2_with (at_builtin;refine c0L rfl _ _ 24 rfl w.heap.size 26 i0 (.string ⟨#[]⟩) 1 16 Tryz.underlying24 hi hz0 hz1 hz2 rfl (by decide) (.slice (some ⟨w.heap.size,0,none⟩) 0 0) 0 [] rfl HO.out (by intro e;cases e) a n c (e0p l) rfl HN.out SRC.out (p0z l) (by unfold maxLen;omega) (by omega) (by simp) ?_;intro v1 w1 hown1 hg1 hne1;have O1:=hid hown1;have G1:=hid hg1;clear hown1 hg1 hne1)
 go_ret
 exact⟨⟨_,rfl,Row.of_owns O1.out⟩,b0V HO.out HB.out G1.out⟩
def Ko:=@Go.Proofs.Tryz.func3
def j0I (w:World)(v u:Value)(c:List Int)(a:ByteArray)(b:List ByteArray)(n many reach:Int)(hv:Row w v (zs c))(hu:Row w u (e0p b))(hc:c.length<=maxLen)(ha:a.size<=maxLen)(hb:∀ x∈b,x.size<=maxLen)(hL:LayB w):
 Calls Tryz.prog 3 #[v,.string a,u,.int .i64 n,.int .i64 many,.int .i64 reach] w fun e w'=>e=.returned (.bool true)/\Below w.heap.size w w':=by
 have HLV:=hid (p0k w hL);unfold maxLen at hc ha hb;obtain⟨s,cp,rfl,q1,q2,q3⟩:=hv.openZ;obtain⟨t,cq,rfl,p1,p2,p3⟩:=hu.openS;obtain⟨L,hLL⟩:=gn (c.length);obtain⟨N,hN⟩:=gn (b.length);obtain⟨HV,HU,P3,HLL,HNN,HL⟩:=kx hv hu p3 hLL hN hL;rw[hLL]at HV q1 hc |-;rw[hN]at HU p1 |-;clear hv hu q3 p3 hLL hN hL hb;by_cases c1:300<L
 .have t1:decide ((300:Int)<(L:Int))=true:=I8 (by omega);clear c1 hc ha;go_enter Ko,Tryz.ntmps3;go_wp2_with fail;refine HLV.out.mono ?_;rintro e w1 ⟨rfl,hb1⟩;go_wp2_with fail;go_ret
  exact⟨rfl,hb1⟩
 have t1:decide ((300:Int)<(L:Int))=false:=I7 (by omega);by_cases c2:100<a.size
 .have t2:decide ((100:Int)<(a.size:Int))=true:=I8 (by omega);clear c1 c2 hc ha;go_enter Ko,Tryz.ntmps3;go_wp2_with fail;refine HLV.out.mono ?_;rintro e w1 ⟨rfl,hb1⟩;go_wp2_with fail;go_ret
  exact⟨rfl,hb1⟩
 have t2:decide ((100:Int)<(a.size:Int))=false:=I7 (by omega);by_cases c3:40<N
 .have t3:decide ((40:Int)<(N:Int))=true:=I8 (by omega);clear c1 c2 c3 hc ha;go_enter Ko,Tryz.ntmps3;go_wp2_with fail;refine HLV.out.mono ?_;rintro e w1 ⟨rfl,hb1⟩;go_wp2_with fail;go_ret
  exact⟨rfl,hb1⟩
 have t3:decide ((40:Int)<(N:Int))=false:=I7 (by omega);by_cases c4:60<n/\n<=256
 .have t4:decide ((60:Int)<n)=true:=I8 c4.1;have t5:decide (n<=(256:Int))=true:=I8 c4.2;clear c1 c2 c3 c4 hc ha;go_enter Ko,Tryz.ntmps3;go_wp2_with fail;refine HLV.out.mono ?_;rintro e w1 ⟨rfl,hb1⟩;go_wp2_with fail;go_ret
  exact⟨rfl,hb1⟩
 have key:(decide ((60:Int)<n)=false)\/(decide ((60:Int)<n)=true/\decide (n<=(256:Int))=false):=by
  by_cases h:60<n
  .exact .inr ⟨I8 h,I7 (fun e=>c4 ⟨h,e⟩)⟩
  .exact .inl (I7 h)
 obtain⟨HA,HN50,HL40⟩:=zc (show a.size<=100000 by omega) (show N<=40 by omega) (show L<=300 by omega);have H9:Hid (¬(6<n/\n<=32)->¬(3<L/\L<=256)->nlE c a n=0->(2*n.toNat+1) ^ c.length<=2300):=fun h1 h2 h0=>by
  obtain⟨hz,-,hn0,hn,-⟩:=h0W h0;have h3:=(d0Y hz).1;have h4:c.length<=3:=by have:=HLL.out;omega
  refine E0 (Dn (show 2*n.toNat+1<=13 by omega) _) (E0 (Z4 (by omega) h4) (by decide))
 have P1:=fun V v u hv hu hb hV=>hid (v0A V v u c a b hv hu HA.out hb hV)
 have P2:=fun V hv hu hb=>hid (w0X V (.slice s L cp) (.slice t N cq) c a b hv hu HA.out hb)
 have P3':=fun V hV=>hid (x0B V a n many HA.out hV)
 have P4:=fun V=>hid (t0z V a n many HA.out)
 have P5:=fun V hV=>hid (q0P V a reach HA.out hV)
 have P6:=fun V=>hid (o0c V a reach HA.out)
 have P7:=fun V hv hV h9=>hid (v0z V (.slice s L cp) c a n hv HA.out h9 hV)
 have P8:=fun V hv h9=>hid (w0W V (.slice s L cp) c a n hv HA.out h9)
 have PO:=fun V hV=>hid (a1s V (.slice s L cp) c hV (by rw[HLL.out];have:=HL40.out;omega))
 have PB:=fun V hV=>hid (a1t V (.slice t N cq) b hV (by rw[HNN.out];have:=HN50.out;omega))
 have PM:=fun V u v hu hv=>hid (r0g V u v (nlR c a n) (nlR c a n) hu hv)
 have PI:=fun V u v hu hv=>hid (r0h V u v ((naO c a b).getD []) ((naO c a b).getD []) hu hv)
 rw[I8 rfl]at PM PI;obtain⟨X1,hX1⟩:=gn ((naO c a b).getD []);obtain⟨X2,hX2⟩:=gn ((naO c a b).isSome);obtain⟨X3,hX3⟩:=gn (naE c a b);obtain⟨X4,hX4⟩:=gn (ntB a n many);obtain⟨X5,hX5⟩:=gn (ntE a n many);obtain⟨X6,hX6⟩:=gn (ffB a reach true);obtain⟨X7,hX7⟩:=gn (ffE a reach true);obtain⟨X8,hX8⟩:=gn (nlE c a n);obtain⟨X9,hX9⟩:=gn (nlR c a n);rw[hX1,hX2,hX3]at P1 P2;rw[hX1]at PI;rw[hX4,hX5]at P3' P4;rw[hX6,hX7]at P5 P6;rw[hX8]at H9;rw[hX8,hX9]at P7 P8;rw[hX9]at PM;have kA:(decide ((6:Int)<n)=false/\Hid (¬(6<n/\n<=32)))\/(decide ((6:Int)<n)=true/\decide (n<=(32:Int))=false/\Hid (¬(6<n/\n<=32)))\/(decide ((6:Int)<n)=true/\decide (n<=(32:Int))=true):=by
  by_cases h:6<n
  .by_cases h2:n<=32
   .exact .inr (.inr ⟨I8 h,I8 h2⟩)
   .exact .inr (.inl ⟨I8 h,I7 h2,fun e=>h2 e.2⟩)
  .exact .inl ⟨I7 h,fun e=>h e.1⟩
 have kB:(decide ((3:Int)<(L:Int))=false/\Hid (¬(3<L/\L<=256)))\/(decide ((3:Int)<(L:Int))=true/\decide ((L:Int)<=(256:Int))=false/\Hid (¬(3<L/\L<=256)))\/(decide ((3:Int)<(L:Int))=true/\decide ((L:Int)<=(256:Int))=true):=by
  by_cases h:(3:Int)<(L:Int)
  .by_cases h3:(L:Int)<=256
   .exact .inr (.inr ⟨I8 h,I8 h3⟩)
   .exact .inr (.inl ⟨I8 h,I7 h3,fun e=>h3 (by omega)⟩)
  .exact .inl ⟨I7 h,fun e=>h (by omega)⟩
 obtain⟨KA,KB⟩:=zg kA kB;clear c1 c2 c3 c4 hc ha hX1 hX2 hX3 hX4 hX5 hX6 hX7 hX8 hX9 kA kB;rcases key with t4 | ⟨t4,t5⟩
 all_goals
  go_enter Ko,Tryz.ntmps3;go_wp2_with fail;refine HLV.out.mono ?_;rintro e w1 ⟨rfl,hb1⟩;have y1:=hid hb1;clear hb1;go_wp2_with fail;obtain⟨w1',hw1'⟩:∃ x:World,x=w1:=⟨_,rfl⟩
  go_loop [13] (fun s15=>∃ i:Nat,s15=.int .i64 (i:Nat)/\i<=N/\Hid (∀ (j:Nat) (x:ByteArray),j<i->b[j]?=some x->x.size<=300)) (fun s15=>N-(intOf s15).toNat)
  case atStart=>exact⟨0,rfl,J5 _,fun j x hj=>absurd hj (by omega)⟩
  case round=>
   clear hw1';obtain⟨i,rfl,hi',hI⟩:=hrel;by_cases hlt:i<N
   .obtain⟨x,hx⟩:∃ x,b[i]?=some x:=⟨_,J0 (by rw[HNN.out];exact hlt)⟩;obtain⟨g,o,rfl,hg,hc⟩:=P3.out i x hx;have c1:=(y1.out.cell (p:=⟨g,o+i,none⟩) hg).trans hc;have HX:=hid hx;have f0:(0:Int)<=(i:Int):=by omega
    have f1:(i:Int)<(N:Int):=by omega
    have wi:IntKind.i64.wrap ((i:Int)+1)=((i+1:Nat):Int):=by have:=HN50.out;rw[O0 _ ⟨by omega,by omega⟩];omega
    by_cases h6:300<x.size
    .have q1:decide ((300:Int)<(x.size:Int))=true:=I8 (by omega);clear hx hc hg h6 hi';go_wp2_with fail;go_ret
     exact⟨rfl,y1.out⟩
    .have q1:decide ((300:Int)<(x.size:Int))=false:=I7 (by omega);obtain⟨HLE,IL⟩:=zg (show x.size<=300 by omega) hlt;clear hx hc hg h6 hi' hlt;go_wp2_with fail;go_round
     case rel=>exact⟨i+1,by go_num,IL.out,fun j y hj hy=>by
      rcases Cz j i with h | h
      .exact hI.out j y h hy
      .obtain rfl:j=i:=by omega
       rw[HX.out]at hy;cases hy;exact HLE.out⟩
     case measure=>simp[intOf]<;>(have:=IL.out;omega)
   .obtain rfl:i=N:=by omega
    have q1:decide ((i:Int)<(i:Int))=false:=by simp
    have hB300:∀ x∈b,x.size<=100000000:=fun x hx=>by
     obtain⟨j,hj⟩:=Da hx;have:=hI.out j x (by rw[<- HNN.out];exact (O4.1 hj).1) hj;omega
    have HB300:=hid hB300;clear hlt hi' hI hB300;go_wp2_with fail;refine (PO _ (HV.out.call y1.out)).out.mono ?_;rintro e w2 ⟨⟨u2,rfl,hu2⟩,hb2⟩;obtain⟨y2,U2⟩:=zg (a0a y1.out hb2) hu2;obtain⟨a2,d2,rfl,-,-,-⟩:=hu2.openZ;rw[HLL.out]at U2 |-;clear hb2 hu2;go_wp2_with fail;refine (PB _ (HU.out.call y2.out)).out.mono ?_;rintro e w3 ⟨⟨u3,rfl,hu3⟩,hb3⟩;obtain⟨y3,U3,V3⟩:=zc (a0a y2.out hb3) (U2.out.call hb3) hu3;obtain⟨a3,d3,rfl,-,-,-⟩:=hu3.openS;rw[HNN.out]at V3 |-;clear hb3 hu3;go_wp2_with fail;refine (P1 _ _ _ U3.out V3.out HB300.out (HL.out.call y3.out)).out.mono ?_;rintro e w4 ⟨⟨u4,rfl,hu4⟩,hb4⟩;obtain⟨y4,M4⟩:=zg (a0a y3.out hb4) hu4;obtain⟨a4,d4,rfl,-,-,-⟩:=hu4.openZ;clear hb4 U2 U3 V3 hu4;go_wp2_with fail;refine (P2 _ (HV.out.call y4.out) (HU.out.call y4.out) HB300.out).out.mono ?_;rintro e w5 ⟨⟨u5,rfl,hu5⟩,hb5⟩;obtain⟨y5,M5,N5⟩:=zc (a0a y4.out hb5) (M4.out.call hb5) hu5;obtain⟨a5,d5,rfl,-,-,-⟩:=hu5.openZ;clear hb5 hu5 M4;go_wp2_with fail;refine (P3' _ (HL.out.call y5.out).l).out.mono ?_;rintro e w6 ⟨rfl,hb6⟩;obtain⟨x6,y6⟩:=zg hb6 (a0a y5.out hb6);clear hb6;go_wp2_with fail;refine (P4 _).out.mono ?_;rintro e w7 ⟨rfl,hb7⟩;obtain⟨x7,y7⟩:=zg (a0a x6.out hb7) (a0a y6.out hb7);clear hb7;go_wp2_with fail;refine (P5 _ (HL.out.call y7.out).l).out.mono ?_;rintro e w8 ⟨rfl,hb8⟩;obtain⟨x8,y8⟩:=zg (a0a x7.out hb8) (a0a y7.out hb8);clear hb8;go_wp2_with fail;refine (P6 _).out.mono ?_;rintro e w9 ⟨rfl,hb9⟩;obtain⟨x9,y9⟩:=zg (a0a x8.out hb9) (a0a y8.out hb9);clear hb9;go_wp2_with fail;refine (PI _ _ _ (M5.out.call x9.out) (N5.out.call x9.out)).out.mono ?_;rintro e v1 ⟨rfl,hb10⟩;have y13:=hid (a0a y9.out hb10);clear hb10;have kA:=KA.out;have kB:=KB.out;rcases kA with ⟨z1,hA⟩ | ⟨z1,z2,hA⟩ | ⟨z1,z2⟩
    all_goals
     rcases kB with ⟨r1,hB⟩ | ⟨r1,r2,hB⟩ | ⟨r1,r2⟩
    all_goals
     go_wp2_with fail
     first
      | (go_ret
         exact⟨rfl,y13.out⟩)
      | (refine (P7 _ (HV.out.call y13.out) (HL.out.call y13.out) (H9.out hA.out hB.out)).out.mono ?_;rintro e wa ⟨⟨ua,rfl,hua⟩,hba⟩
         obtain⟨ya,Ma⟩:=zg (a0a y13.out hba) hua;obtain⟨aa,ca,rfl,-,-,-⟩:=hua.ex;clear hba hua;go_wp2_with fail;refine (P8 _ (HV.out.call ya.out) (H9.out hA.out hB.out)).out.mono ?_;rintro e wb ⟨⟨ub,rfl,hub⟩,hbb⟩;obtain⟨yb,Mb,Nb⟩:=zc (a0a ya.out hbb) (Ma.out.call hbb) hub;obtain⟨ab,cb,rfl,-,-,-⟩:=hub.ex;clear hbb hub;go_wp2_with fail;refine (PM _ _ _ Mb.out Nb.out).out.mono ?_;rintro e wc ⟨rfl,hbc⟩;have yc:=hid (a0a yb.out hbc);clear hbc;go_wp2_with fail;go_ret
         exact⟨rfl,yc.out⟩)
end
end Go.Proofs.YtfkpfpobmobnbaaGreatDoor
