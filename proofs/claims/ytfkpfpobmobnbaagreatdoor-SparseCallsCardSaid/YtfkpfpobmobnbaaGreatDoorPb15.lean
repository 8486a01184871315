import Derived.Test.YtfkpfpobmobnbaaGreatDoorPb14
set_option linter.all false
set_option maxRecDepth 100000
set_option maxHeartbeats 8000000
namespace Go.Proofs.YtfkpfpobmobnbaaGreatDoor
open Go.Proofs.Tryz Go.RowKit
open Go.Lib (decDigits nDigits)
section
open Go.Shelf Go.Sort
structure NsI (w:World)(G bn:Nat)(a r:ByteArray)(u0 u1:Value)(x0 x1:ByteArray)(L0 L1:List (Int×ByteArray))(W:World):Prop where
 r:Blk W G #[.string a,.string r] 116
 n:Blk W bn #[u0,u1] 133
 s:Blk W (bn+1) #[.string x0,.string x1] 116
 p0:W.ownsRow (bn+1+1) 137 2 u0 L0.length (cpF L0)
 p1:W.ownsRow (bn+1+1) 137 2 u1 L1.length (cpF L1)
 bel:Below w.heap.size w W
theorem NsI.call {w:World}{G bn:Nat}{a r:ByteArray}{u0 u1:Value}{x0 x1:ByteArray}{L0 L1:List (Int×ByteArray)}{W W':World}(h:NsI w G bn a r u0 u1 x0 x1 L0 L1 W)(hb:Below W.heap.size W W'):NsI w G bn a r u0 u1 x0 x1 L0 L1 W':=
 ⟨h.r.call hb,h.n.call hb,h.s.call hb,a0C h.p0 hb,a0C h.p1 hb,a0a h.bel hb⟩
theorem NsI.fst {w:World}{G bn:Nat}{a r:ByteArray}{u0 u1 u:Value}{x0 x1 x:ByteArray}{L0 L1 L:List (Int×ByteArray)}{W:World}(h:NsI w G bn a r u0 u1 x0 x1 L0 L1 W)(hw:w.heap.size<=G)(hG:G<bn)(hu:W.ownsRow (bn+1+1) 137 2 u L.length (cpF L)):
 NsI w G bn a r u u1 x x1 L L1 ((W.setCell ⟨bn,0,none⟩ u).setCell ⟨bn+1,0,none⟩ (.string x)):=by
 refine⟨(h.r.other (by simp;omega) _).other (by simp;omega) _,?_,?_,?_,?_,(h.bel.setCell (by simp;omega) _).setCell (by simp;omega) _⟩
 .have:=(h.n.set 0 u).other (a:=⟨bn+1,0,none⟩) (by simp) (.string x);simpa using this
 .have:=(h.s.other (a:=⟨bn,0,none⟩) (by simp) u).set 0 (.string x);simpa using this
 .exact Bb (Bb hu (by simp;omega) _) (by simp) _
 .exact Bb (Bb h.p1 (by simp;omega) _) (by simp) _
theorem NsI.snd {w:World}{G bn:Nat}{a r:ByteArray}{u0 u1 u:Value}{x0 x1 x:ByteArray}{L0 L1 L:List (Int×ByteArray)}{W:World}(h:NsI w G bn a r u0 u1 x0 x1 L0 L1 W)(hw:w.heap.size<=G)(hG:G<bn)(hu:W.ownsRow (bn+1+1) 137 2 u L.length (cpF L)):
 NsI w G bn a r u0 u x0 x L0 L ((W.setCell ⟨bn,1,none⟩ u).setCell ⟨bn+1,1,none⟩ (.string x)):=by
 refine⟨(h.r.other (by simp;omega) _).other (by simp;omega) _,?_,?_,?_,?_,(h.bel.setCell (by simp;omega) _).setCell (by simp;omega) _⟩
 .have:=(h.n.set 1 u).other (a:=⟨bn+1,1,none⟩) (by simp) (.string x);simpa using this
 .have:=(h.s.other (a:=⟨bn,1,none⟩) (by simp) u).set 1 (.string x);simpa using this
 .exact Bb (Bb h.p0 (by simp;omega) _) (by simp) _
 .exact Bb (Bb hu (by simp;omega) _) (by simp) _
def f0i {W:World}{base:Nat}{v:Value}{L:List (Int×ByteArray)}(h:W.ownsRow base 137 2 v L.length (cpF L)):∃ a c,v=.slice a L.length c:=by
 obtain⟨a,c,e,-⟩:=(PRow.of_owns h).ex;exact⟨a,c,e⟩
def l0C {a:ByteArray}{n:Nat}(hg:gPE a=0)(hn:n<=32):(chS (glR a (n:Nat) true)).length<=100:=by
 have eA:glR a (n:Nat) true=a0p (glP (gV (bN (cW a)) (bN (qD a)) true n) (2 ^ n) n (gL (bN (cW a)) (bN (qD a)) true n)):=by unfold glR;rw[J3 (by unfold glE;rw[J2 (by simpa using hg),J2 (by omega)]),Ao]
 rw[eA];generalize gV (bN (cW a)) (bN (qD a)) true n=g
 generalize gL (bN (cW a)) (bN (qD a)) true n=r
 refine J0 (i0O _) ?_;rw[b0m];have:(glP g (2 ^ n) n r).length<=2*n+2:=by
  unfold glP glM;rw[J5];have h:=Ga (fun (j:Nat)=>if g ((j:Int)-n)=0 then none else some (zB ((j:Int)-n),shB (g ((j:Int)-n)) (2 ^ n))) (List.range (2*n+1));rw[Lh]at h;have h2:(if r=0 then ([]:List (ByteArray×ByteArray)) else [(b0d,shB r (2 ^ n))]).length<=1:=by split<;>simp
  omega
 omega
def c1b {g:Int->Nat}{n r:Nat}{x:Int}(h:x∈chS (a0p (glP g (2 ^ n) n r))) : -(n:Int)<=x/\x<=n:=by
 unfold chS at h;rw[Nr]at h;obtain⟨p,hp,hx⟩:=h;rcases o0v hp with ⟨v,h1,h2,-,h3,-⟩ | ⟨-,h3⟩
 .rw[h3]at hx;cases hx;exact⟨h1,h2⟩
 .rw[h3]at hx;cases hx
def k0w (l:List ByteArray)(i:Nat)(s:ByteArray):(b0v l).toArray.setIfInBounds i (.string s)=(b0v (l.set i s)).toArray:=by
 simp[b0v,Na]
def q0H (w:World)(v:Value)(c:List Int)(thr:Int)(a r:ByteArray)(n:Nat)(hv:Row w v (zs c))(ha:a.size<=100000)(hr:r.size<=100000)(hq:g0p c thr a r=0)(hn:n<=32)(hm:n*(c.length+1)<=256)(hL:LayB w):
 Calls prog 37 #[v,.int .i64 thr,.string a,.string r,.int .i64 (n:Nat)] w fun e w'=>(∃ u,e=.returned (.tuple #[u,.int .i64 0])/\MRow w' u (a0p (sqD (gV (bN (cW a)) (bN (qD a)) true n) (gV (bN (cW r)) (bN (qD r)) true n) n thr c)))/\Below w.heap.size w w':=by
 obtain⟨-,-,hga,hgr⟩:=h0d hq;obtain⟨k1,k2,k3,k4,k5⟩:=i0k hq;have HQ:=fun V hV hLV=>hid (d0j V v c thr a r hV ha hr hLV)
 simp only[hq]at HQ;have PA:=fun V hV=>hid (i0m V a n ha hga hn hV)
 have PC:=fun V hV=>hid (i0m V r n hr hgr hn hV)
 have eA:glR a (n:Nat) true=a0p (glP (gV (bN (cW a)) (bN (qD a)) true n) (2 ^ n) n (gL (bN (cW a)) (bN (qD a)) true n)):=by unfold glR;rw[J3 (by unfold glE;rw[J2 (by simpa using hga),J2 (by omega)]),Ao]
 have eC:glR r (n:Nat) true=a0p (glP (gV (bN (cW r)) (bN (qD r)) true n) (2 ^ n) n (gL (bN (cW r)) (bN (qD r)) true n)):=by unfold glR;rw[J3 (by unfold glE;rw[J2 (by simpa using hgr),J2 (by omega)]),Ao]
 have rA:=j0g (gV (bN (cW a)) (bN (qD a)) true n) (2 ^ n) n (gL (bN (cW a)) (bN (qD a)) true n);have rC:=j0g (gV (bN (cW r)) (bN (qD r)) true n) (2 ^ n) n (gL (bN (cW r)) (bN (qD r)) true n);rw[<- eA]at rA;rw[<- eC]at rC;have zA:zS n (gV (bN (cW a)) (bN (qD a)) true n)<=2 ^ n:=by have:=o0f (b0R hga).2 true n;omega
 have zC:zS n (gV (bN (cW r)) (bN (qD r)) true n)<=2 ^ n:=by have:=o0f (b0R hgr).2 true n;omega
 have lA:(chS (glR a (n:Nat) true)).length<=100:=l0C hga hn;have lC:(chS (glR r (n:Nat) true)).length<=100:=l0C hgr hn;have vA:∀ x∈chS (glR a (n:Nat) true),-(n:Int)<=x/\x<=n:=by rw[eA];exact fun x hx=>c1b hx
 have mA:∀ x,gV (bN (cW a)) (bN (qD a)) true n x<=2 ^ n:=fun x=>l0k (b0R hga).2 true n x
 obtain⟨gA,hgA⟩:=gn (gV (bN (cW a)) (bN (qD a)) true n);obtain⟨gC,hgC⟩:=gn (gV (bN (cW r)) (bN (qD r)) true n);obtain⟨kA,hkA⟩:=gn (chS (glR a (n:Nat) true));obtain⟨kC,hkC⟩:=gn (chS (glR r (n:Nat) true));simp only[hgA,hkA]at PA;simp only[hgC,hkC]at PC;rw[hgA,hkA]at rA;rw[hgC,hkC]at rC;rw[hgA]at zA;rw[hgC]at zC;rw[hkA]at lA vA;rw[hkC]at lC;simp only[hgA]at mA;rw[hgA,hgC];have hT:=t0Z (thr:=thr) (c:=c) zA zC mA rA (by omega);obtain⟨LA,hLA⟩:=gn ((kA.map fun v=>(v,dyB (gA v) n)));obtain⟨LC,hLC⟩:=gn ((kC.map fun v=>(v,dyB (gC v) n)));have nA:LA.length=kA.length:=by rw[<- hLA,Dp]
 have gLA:∀ (j:Nat) (x:Int),kA[j]?=some x->LA[j]?=some (x,dyB (gA x) n):=fun j x h=>by rw[<- hLA,Et,h];rfl
 rw[hLA]at PA;rw[hLC]at PC;obtain⟨M,hM⟩:∃ M:Int->ByteArray,(fun m=>dyB (blw gC n m) n)=M:=⟨_,rfl⟩;have PB:Hid (∀ (V:World) (bn:Nat) (v1:Value) (most:Int),V.cell? ⟨bn,1,none⟩=some v1->PRow V v1 LC->Lay V->Calls prog 123 #[.int .i64 most,.pointer (some ⟨bn,0,none⟩)] V fun e w'=>e=.returned (.string (M most))/\Below V.heap.size V w'):=fun V bn v1 most h1 h2 h3=>by
  rw[<- hM];exact u0d V bn v1 most gC n kC hn zC rC lC h1 (by rw[hLC];exact h2) h3
 obtain⟨P,hP⟩:∃ P:Int->Nat->ByteArray,(fun (x:Int) (i:Nat)=>dyB (sqP gA gC n thr x c i) (n*(i+1)))=P:=⟨_,rfl⟩;obtain⟨D1,hD1⟩:∃ P:Int->Nat->ByteArray,(fun (x:Int) (i:Nat)=>b0D (· - ·) (dyB (zS n gC) n) (dyB (blw gC n (thr+x-c.getD i 0)) n))=P:=⟨_,rfl⟩;obtain⟨D2,hD2⟩:∃ P:Int->Nat->ByteArray,(fun (x:Int) (i:Nat)=>b0D (· * ·) (dyB (sqP gA gC n thr x c i) (n*(i+1))) (b0D (· - ·) (dyB (zS n gC) n) (dyB (blw gC n (thr+x-c.getD i 0)) n)))=P:=⟨_,rfl⟩;obtain⟨H,hH⟩:∃ P:Int->Nat->ByteArray,(fun (x:Int) (i:Nat)=>dyB (gA x*sqF gC n (thr+x) i 0 c) (n*(c.length+1)))=P:=⟨_,rfl⟩;obtain⟨F,hF⟩:∃ P:Nat->Nat->ByteArray,(fun (i j:Nat)=>dyB (sqS gA gC n thr c kA i j) (n*(c.length+1)))=P:=⟨_,rfl⟩;obtain⟨AF,hAF⟩:∃ P:Nat->ByteArray,(fun (i:Nat)=>dyB (zS n gC ^ i) (n*i))=P:=⟨_,rfl⟩;rw[hM,hP,hD1,hD2,hH,hF,hAF]at hT;obtain⟨Z0,hZ0⟩:=gn (b0D (· * ·) (dyB (zS n gA) n) (dyB (zS n gC ^ c.length) (n*c.length)));obtain⟨SA,hSA⟩:=gn (dyB (zS n gA) n);obtain⟨SC,hSC⟩:=gn (dyB (zS n gC) n);obtain⟨LT,hLT⟩:=gn (dyB (sqL gA gC n c.length) (n*(c.length+1)));rw[hSA]at PA;rw[hSC]at PC;obtain⟨HT,ND,DN⟩:=zg (hT.conv hZ0 hSA hSC hLT) (q0z gA gC n thr c) (w0i gA gC n thr c);obtain⟨WS,W0⟩:=zu (fun i (hi:i<=c.length)=>q0y (gA:=gA) (gC:=gC) (thr:=thr) (n:=n) HT.out i hi) (o0S (gA:=gA) (gC:=gC) (thr:=thr) (n:=n) HT.out);have DD:Hid (sqD gA gC n thr c=(sqW gA gC n thr c c.length).filter fun x => !(!f0O x)):=by
  show sqD gA gC n thr c=_
  unfold sqD;refine List.filter_congr fun x _=>?_
  rw[Bool.not_not]
 have hDl:(sqD gA gC n thr c).length<=c.length+2:=by
  unfold sqD;refine J0 (Fv _ _) ?_;unfold sqW;rw[J5,g0c];simp;omega
 have HDL:=hid hDl;obtain⟨WW,hWW⟩:=gn (sqW gA gC n thr c);obtain⟨DF,hDF⟩:=gn (sqD gA gC n thr c);rw[hWW]at ND WS W0 DD;rw[hDF]at DN DD HDL |-;obtain⟨L,hLL⟩:=gn (c.length);have HLL:=hid hLL;obtain⟨NA,hNA⟩:=gn (kA.length);obtain⟨HNA,HV,HL⟩:=zg hNA hv hL;obtain⟨s,cp,rfl,q1,q2,q3⟩:=hv.openZ;obtain⟨Q3,RG,TH,VA,HN32,GLA⟩:=zf q3 k3 (show -1125899906842624<=thr/\thr<=1125899906842624 from⟨k4,k5⟩) vA hn gLA;rw[hLL]at k1 k2 q1 HV WS HDL DD ND |-;simp only[hLL]at HQ;rw[hNA]at nA lA;obtain⟨K1,K2,NAH,LA100⟩:=zc k1 k2 nA lA;obtain⟨i0,hi,hz0,hz1,hz2⟩:=Dx h0I;have s1:decide ((n:Int)<0)=false:=by simp
 have s2:decide ((32:Int)<(n:Int))=false:=by simp;omega
 obtain⟨L1,hL1⟩:∃ L1,L1=L+1:=⟨_,rfl⟩;have wl:IntKind.i64.wrap ((L:Int)+1)=(L1:Int):=by rw[U0 _ ⟨by omega,by omega⟩];omega
 obtain⟨Mm,hMm⟩:∃ M:Int,(n:Int)*(L1:Int)=M:=⟨_,rfl⟩;have hM2:Mm<=256:=by
  rw[<- hMm,hL1];have:((n*(L+1):Nat):Int)<=256:=by rw[<- hLL];omega
  rwa[Bp]at this
 have hM0:0<=Mm:=by rw[<- hMm];exact Int.mul_nonneg (by omega) (by omega)
 have wm:IntKind.i64.wrap ((n:Int)*(L1:Int))=Mm:=by rw[hMm,U0 _ ⟨by omega,by omega⟩]
 have s3:decide (256<Mm)=false:=by simp;omega
 obtain⟨A1,X1⟩:=zu ((J4 w.heap.size w).alloc nr (.cells #[.string a,.string r] 116)) (Blk.new w #[.string a,.string r] 116);clear hv ha hr hq hn hm hL k3 k4 k5 hga hgr eA eC rA rC zA zC lC vA mA hgA hgC hkA hkC hT hLA hLC gLA hM hP hD1 hD2 hH hF hAF hZ0 hSA hSC hLT hWW hDF hDl hLL hNA q3 hL1 hMm hM2 hM0 k1 k2 nA lA;go_enter func37,ntmps37;go_wp2_with fail;refine ny (HQ _ (HV.out.call A1.out) (HL.out.call A1.out).l) fun w1 hb1=>?_;have y1:=qx A1 hb1;have X2:=hid (X1.out.call hb1);clear hb1;go_wp2_with fail;obtain⟨bn,hbn⟩:=gn (w1.heap.size);have N0:Hid (NsI w w.heap.size bn a r (.slice none 0 0) (.slice none 0 0) ⟨#[]⟩ ⟨#[]⟩ [] [] ((w1.alloc (.cells #[.slice none 0 0,.slice none 0 0] 133)).alloc (.cells #[.string ⟨#[]⟩,.string ⟨#[]⟩] 116))):=by
  subst hbn;exact⟨(X2.out.alloc _).alloc _,(Blk.new w1 _ _).alloc _,Blk.made _ _ _ (by simp),Cq _ _ _ _,Cq _ _ _ _,(y1.out.alloc y1.out.size _).alloc (y1.out.alloc y1.out.size (.cells #[.slice none 0 0,.slice none 0 0] 133)).size _⟩
 have GB:Hid (w.heap.size<bn):=by show _<bn;rw[<- hbn];exact X2.out.lt
 rw[hbn];clear hbn
 go_loopw [16,58,61] (fun s16 s58 s61 wr=>(s58=.int .i64 0/\Hid (NsI w w.heap.size bn a r (.slice none 0 0) (.slice none 0 0) ⟨#[]⟩ ⟨#[]⟩ [] [] wr))\/(s58=.int .i64 1/\Hid (∃ u0,NsI w w.heap.size bn a r u0 (.slice none 0 0) SA ⟨#[]⟩ LA [] wr))\/(s58=.int .i64 2/\Hid (∃ u0 u1,NsI w w.heap.size bn a r u0 u1 SA SC LA LC wr))) (fun s16 s58 s61 wr=>2-(intOf s58).toNat)
 case atStart=>exact .inl ⟨rfl,N0⟩
 case round=>
  rcases hrel with ⟨rfl,hN⟩ | ⟨rfl,hN⟩ | ⟨rfl,hN⟩
  .have r0:=hN.out.r.cell 0;simp at r0;go_wp2_with fail;refine nu (PA _ (HL.out.call hN.out.bel)) fun u w3 hu hb3=>?_;obtain⟨N3,HUo⟩:=zu (hN.out.call hb3) (h0x hu (show bn+1+1<=wr.heap.size from hN.out.s.lt));obtain⟨au,cu,rfl⟩:=f0i hu;have m0:=N3.out.n.cell 0;have m1:=N3.out.n.free 0;have m2:=(N3.out.s.other (a:=⟨bn,0,none⟩) (by simp) (.slice au LA.length cu)).cell 0;have m3:=(N3.out.s.other (a:=⟨bn,0,none⟩) (by simp) (.slice au LA.length cu)).free 0;simp at m0 m2;clear hb3 hu r0;go_wp2_with fail;go_roundw
   case rel=>exact .inr (.inl ⟨by go_num,hid ⟨_,N3.out.fst nr GB.out HUo.out⟩⟩)
   case measure=>simp[intOf]
  .obtain⟨u0,hN1⟩:=hN.out;have r1:=hN1.r.cell 1;simp at r1;have HN1:=hid hN1;clear hN hN1;go_wp2_with fail;refine nu (PC _ (HL.out.call HN1.out.bel)) fun u w3 hu hb3=>?_;obtain⟨N3,HUo⟩:=zu (HN1.out.call hb3) (h0x hu (show bn+1+1<=wr.heap.size from HN1.out.s.lt));obtain⟨au,cu,rfl⟩:=f0i hu;have m0:=N3.out.n.cell 1;have m1:=N3.out.n.free 1;have m2:=(N3.out.s.other (a:=⟨bn,1,none⟩) (by simp) (.slice au LC.length cu)).cell 1;have m3:=(N3.out.s.other (a:=⟨bn,1,none⟩) (by simp) (.slice au LC.length cu)).free 1;simp at m0 m2;clear hb3 hu r1;go_wp2_with fail;go_roundw
   case rel=>exact .inr (.inr ⟨by go_num,hid ⟨_,_,N3.out.snd nr GB.out HUo.out⟩⟩)
   case measure=>simp[intOf]
  .obtain⟨u0,u1,hN2⟩:=hN.out;obtain⟨W2,hW2⟩:∃ x,x=wr:=⟨_,rfl⟩;subst hW2;obtain⟨a0,c0,rfl⟩:=f0i hN2.p0;obtain⟨a1,c1,rfl⟩:=f0i hN2.p1;rw[NAH.out]at hN2;have HN2:=hid hN2;have HM1:=i0x L (by have:=K2.out;omega) W2;have XT:Hid (Blk (W2.alloc (.cells (madeCells #[.string ⟨#[]⟩] L) 23)) W2.heap.size (b0v (tlS AF L 0)).toArray 23):=by
    show Blk _ _ _ _
    rw[t0U,<- i0y];exact Blk.new _ _ _
   obtain⟨BT,LB⟩:=zu ((J4 W2.heap.size W2).alloc nr (.cells (madeCells #[.string ⟨#[]⟩] L) 23)) hN2.s.lt;clear hN hN2;go_wp2_with fail
   go_loopw [18,20,80] (fun s18 s20 s80 wr=>∃ i:Nat,s80=.int .i64 (i:Nat)/\i<=L/\s18=.string (AF i)/\Hid (Blk wr W2.heap.size (b0v (tlS AF L i)).toArray 23)/\Hid (Below W2.heap.size W2 wr)) (fun s18 s20 s80 wr=>L-(intOf s80).toNat)
   case atStart=>exact⟨0,rfl,K5 _,by rw[HT.out.one],XT,BT⟩
   case round=>
    clear HM1 XT BT;obtain⟨i,rfl,hi',rfl,hX,hB⟩:=hrel;have hl2:=K2.out;by_cases hlt:i<L
    .obtain⟨K,hK⟩:∃ K,K=L-1-i:=⟨_,rfl⟩;obtain⟨P1,hP1⟩:∃ P,P=L-1:=⟨_,rfl⟩;have hKL:K<L:=by omega
     have wp1:IntKind.i64.wrap ((L:Int)-1)=(P1:Int):=by rw[U0 _ ⟨by omega,by omega⟩];omega
     have wp2:IntKind.i64.wrap ((P1:Int)-(i:Int))=(K:Int):=by rw[U0 _ ⟨by omega,by omega⟩];omega
     have f0:=qw K
     have f1:(K:Int)<(L:Int):=by omega
     have wi:=qy i (by omega)
     obtain⟨old,hold⟩:∃ s,(tlS AF L i)[K]?=some s:=⟨_,h0a hKL⟩;have m0:wr.cell? ⟨W2.heap.size,K,none⟩=some (.string old):=(hX.out.cell K).trans (by rw[K6];exact c0S hold);have m1:=hX.out.free K;have N2:=hid (HN2.out.call hB.out);have k1:=(N2.out.s.other (a:=⟨W2.heap.size,K,none⟩) (by have:=LB.out;simp;omega) (.string (AF i))).cell 1;simp at k1;have PAF:=fun V hV=>hid (HT.out.after V i (by rw[HLL.out];exact hlt) hV)
     have hnx:=t0V (AF:=AF) hlt;rw[<- hK]at hnx;have YB:=hX.out.set K (.string (AF i));rw[k0w,hnx]at YB;obtain⟨YB,BB⟩:=zu YB (hB.out.setCell (p:=⟨W2.heap.size,K,none⟩) nr (.string (AF i)));obtain⟨F0,hF0⟩:=gn (AF i);obtain⟨F1,hF1⟩:=gn (AF (i+1));rw[hF0]at k1 YB BB |-;simp only[hF0,hF1]at PAF;obtain⟨HF1,HLT⟩:=zu hF1 hlt;clear hK hP1 hKL hold hnx hF0 hF1 hlt hi' hl2;go_wp2_with fail;refine ny (PAF _ (HL.out.call (a0a HN2.out.bel BB.out)).l) fun w5 hb5=>?_;have Y5:=hid (YB.out.call hb5);have B5:=qx BB hb5;clear hb5;go_wp2_with fail;go_roundw
     case rel=>exact⟨i+1,by go_num,HLT.out,by rw[HF1.out],Y5,B5⟩
     case measure=>simp[intOf]<;>(have:=HLT.out;omega)
    .obtain rfl:L=i:=by omega
     have q1:decide ((L:Int)<(L:Int))=false:=by simp
     obtain⟨V0,hV0⟩:∃ V,V=wr.alloc (.cells #[.string ⟨#[48]⟩] 23):=⟨_,rfl⟩;obtain⟨bf,hbf⟩:=gn (V0.heap.size);have HSR:=f0a V0 wr.heap.size L ⟨#[48]⟩ K1.out (by omega) (by rw[hV0];simp);rw[hbf]at HSR;have HBF:=hid hbf;have BV:Below wr.heap.size wr V0:=by rw[hV0];exact br0.alloc nr _
     obtain⟨NV,TV⟩:=zu ((HN2.out.call hB.out).call BV) (hX.out.call BV);obtain⟨FL,hFL⟩:=gn (AF L);obtain⟨HFL,HSR⟩:=zu hFL HSR;rw[hFL];clear hlt hi' hl2 hbf BV hX hB hFL;go_wp2_with fail;rw[<- hV0];refine HSR.out.mono ?_;rintro e w6 ⟨rfl,hblk,hb6⟩;have X6:Hid (Blk w6 bf (b0v (fnS F L 0 0)).toArray 23):=by
      show Blk _ _ _ _
      rw[v0w L HT.out.zero];exact hblk
     have B6:Hid (Below V0.heap.size V0 w6):=by show Below _ _ _;rw[HBF.out];exact hb6
     have c6:=(NV.out.n.call B6.out).cell 0;simp at c6;clear hblk hb6 hV0 HSR;go_wp2_with fail
     go_loopw [22,24,25,26,27,28,103] (fun s22 s24 s25 s26 s27 s28 s103 wr=>∃ j:Nat,s103=.int .i64 (j:Nat)/\j<=NA/\s22=.string (F L j)/\Hid (Blk wr bf (b0v (fnS F L j 0)).toArray 23)/\Hid (Below V0.heap.size V0 wr)) (fun s22 s24 s25 s26 s27 s28 s103 wr=>NA-(intOf s103).toNat)
     case atStart=>exact⟨0,rfl,K5 _,by rw[HT.out.zero],X6,B6⟩
     case round=>
      clear c6 X6 B6;obtain⟨j,rfl,hj',rfl,hX,hB⟩:=hrel;obtain⟨W4,hW4⟩:∃ x,x=wr:=⟨_,rfl⟩;subst hW4;have N4:=hid (NV.out.call hB.out);have hna:=LA100.out;by_cases hlt:j<NA
      .obtain⟨xv,hxv⟩:∃ x,kA[j]?=some x:=⟨_,List.getElem?_eq_getElem (by rw[HNA.out];exact hlt)⟩;have hla:=GLA.out j xv hxv;have hxb:=VA.out xv (List.mem_of_getElem? hxv);obtain⟨ap,cp2,e2,-,-,hcell⟩:=(PRow.of_owns N4.out.p0).ex;simp only[Value.slice.injEq]at e2;obtain⟨rfl,-,rfl⟩:=e2;obtain⟨gd,od,rfl,hgd,m1,m2⟩:=hcell j _ hla;dsimp only at m1 m2;rw[<- HT.out.start xv]at m2;obtain⟨Px,hPx⟩:=gn (P xv);have TLESS:=fun (V:World) (i:Nat) (hi:i<c.length) (hV:Lay V)=>hid (HT.out.less V xv i hi hV)
       have TTM1:=fun (V:World) (i:Nat) (hi:i<c.length) (hV:Lay V)=>hid (HT.out.times1 V xv i hi hV)
       have TTM2:=fun (V:World) (i:Nat) (hi:i<c.length) (hV:Lay V)=>hid (HT.out.times2 V xv i hi hV)
       have TPLU:=fun (V:World) (i:Nat) (hi:i<c.length) (hV:Lay V)=>hid (HT.out.plus V xv i j hi hxv hV)
       have TNXT:=fun (V:World) (i:Nat) (hi:i<c.length) (hV:Lay V)=>hid (HT.out.next V xv i hi hV)
       have TNON:=fun (V:World) (hV:Lay V)=>hid (HT.out.none V xv j hxv hV)
       obtain⟨d1,hd1⟩:=gn (D1 xv);obtain⟨d2,hd2⟩:=gn (D2 xv);obtain⟨hx,hhx⟩:=gn (H xv);rw[hPx]at m2;simp only[hPx,hd1,hd2,hhx]at TLESS TTM1 TTM2 TPLU TNXT TNON;rw[HLL.out]at TLESS TTM1 TTM2 TPLU TNXT TNON;obtain⟨HXB,HJT⟩:=zu hxb hlt;have f1:=qw j
       have f2:(j:Int)<(NA:Int):=by omega
       have wj:=qy j (by omega)
       obtain⟨AM,XM⟩:=zu ((J4 W4.heap.size W4).alloc nr (.cells #[.int .i64 xv,.string (Px 0)] 137)) (Blk.new W4 #[.int .i64 xv,.string (Px 0)] 137);have X4:=hid (hX.out.call AM.out);have B4:=qx hB AM.out;have BF4:=hid (show bf<W4.heap.size from hX.out.lt);obtain⟨b24,hb24⟩:=gn (W4.heap.size);rw[hb24]at XM BF4;have g0:=XM.out.cell 0;have g1:=XM.out.cell 1;simp at g0 g1;clear hxv hla hxb hcell hgd hPx hd1 hd2 hhx hlt hj' hna hX N4;go_wp2_with fail
       go_loopw [25,26,27,28,111] (fun s25 s26 s27 s28 s111 wr=>∃ i:Nat,s111=.int .i64 (i:Nat)/\i<=L/\s25=.string (Px i)/\Hid (Blk wr bf (b0v (fnS F L j i)).toArray 23)/\Hid (Blk wr b24 #[.int .i64 xv,.string (Px 0)] 137)/\Hid (Below V0.heap.size V0 wr)) (fun s25 s26 s27 s28 s111 wr=>L-(intOf s111).toNat)
       case atStart=>exact⟨0,rfl,K5 _,rfl,X4,XM,B4⟩
       case round=>
        clear X4 XM B4 AM g0 g1 hb24;obtain⟨i,rfl,hi',rfl,hX,hXB,hB⟩:=hrel;have hl2:=K2.out;by_cases hlt:i<L
        .obtain⟨ci,hci⟩:∃ x,c[i]?=some x:=⟨_,Q0 (by rw[HLL.out];exact hlt)⟩;have hcd:c.getD i 0=ci:=by rw[Z3,hci];rfl
         obtain⟨gc,oc,rfl,hgc,hcc⟩:=Q3.out i ci hci;have hN:=NV.out.call hB.out;have r1:=(hN.bel.cell (p:=⟨gc,oc+i,none⟩) hgc).trans hcc;have x0:=hXB.out.cell 0;simp at x0;have hrg:=RG.out ci (U7 hci);have hth:=TH.out;have hxb:=HXB.out;have hn32:=HN32.out;have wa:IntKind.i64.wrap (thr+xv)=thr+xv:=by rw[U0 _ ⟨by omega,by omega⟩]
         obtain⟨G,hG⟩:=gn (thr+xv-ci);have wg:IntKind.i64.wrap (thr+xv-ci)=G:=by rw[hG,U0 _ ⟨by omega,by omega⟩]
         have f3:=qw i
         have f4:(i:Int)<(L:Int):=by omega
         have wi:=qy i (by omega)
         have PBi:=PB.out wr bn _ G (hN.n.cell 1) (PRow.of_owns hN.p1) (HL.out.call hN.bel).l;have PL1:=fun V hV=>TLESS V i hlt hV
         have PT1:=fun V hV=>TTM1 V i hlt hV
         have PT2:=fun V hV=>TTM2 V i hlt hV
         have PPL:=fun V hV=>TPLU V i hlt hV
         have PNX:=fun V hV=>TNXT V i hlt hV
         rw[hcd,hG]at PL1 PNX;obtain⟨Mg,hMg⟩:=gn (M G);rw[hMg]at PBi PL1 PNX;obtain⟨p0,hp0⟩:=gn (Px i);obtain⟨p1,hp1⟩:=gn (Px (i+1));obtain⟨e1,he1⟩:=gn (d1 i);obtain⟨e2,he2⟩:=gn (d2 i);obtain⟨e3,he3⟩:=gn (hx i);obtain⟨e4,he4⟩:=gn (AF (L-1-i));obtain⟨e5,he5⟩:=gn (F i j);obtain⟨e6,he6⟩:=gn (F i (j+1));rw[he1]at PL1;rw[hp0,he1,he2]at PT1;rw[he2,he4,he3]at PT2;rw[he5,he3,he6]at PPL;rw[hp0,hp1]at PNX;rw[hp0];have hfi:=b1L (F:=F) (j:=j) hlt;rw[he5]at hfi;have hnx:=v0x (F:=F) (j:=j) hlt;rw[he6]at hnx;have htl:=x0i (AF:=AF) hlt;rw[he4]at htl;obtain⟨HNX,HFI,HTL,HLT,HP1,PBi⟩:=zf hnx hfi htl hlt hp1 PBi;clear hci hcd hgc hcc hN hrg hth hxb hn32 hG hMg hp0 hp1 he1 he2 he3 he4 he5 he6 hfi hnx htl hlt hi' hl2;go_wp2_with fail;refine ny PBi fun w5 hb5=>?_;obtain⟨X5,XB5⟩:=zu (hX.out.call hb5) (hXB.out.call hb5);have B5:=qx hB hb5;have KK:Hid (∀ V,Below w5.heap.size w5 V->V.cell? ⟨bf,i,none⟩=some (.string e5)/\V.cell? ⟨bn+1,1,none⟩=some (.string SC)/\V.cell? ⟨W2.heap.size,i,none⟩=some (.string e4)):=fun V hV=>by
          refine⟨((X5.out.call hV).cell i).trans ?_,?_,((TV.out.call (a0a B5.out hV)).cell i).trans ?_⟩
          .rw[K6];exact c0S HFI.out
          .have:=(NV.out.call (a0a B5.out hV)).s.cell 1;simpa using this
          .rw[K6];exact c0S HTL.out
         clear hb5 r1 x0 PBi;go_wp2_with fail;refine a0T 18 2 [0,1,2,3,4,5,6,7,8,9,12,13,14,15] 4 (fun V=>V.cell? ⟨bf,i,none⟩=some (.string e5)/\V.cell? ⟨bn+1,1,none⟩=some (.string SC)/\V.cell? ⟨W2.heap.size,i,none⟩=some (.string e4)) (by kernel_rfl) rfl (by kernel_rfl) (by kernel_rfl) (by kernel_rfl) (by kernel_rfl) (KK.out _ br0.drew) ?_
         iterate 14
          refine⟨_,rfl,?_⟩;apply Exists.intro
          refine⟨.inl ⟨by rfl,?_⟩,?_⟩
          .rintro W' ⟨z1,z2,z3⟩;go_simp;try with_reducible rfl
          go_frame
         have LY:=hid (HL.out.call (a0a NV.out.bel B5.out));refine a0c (i:=10) (by kernel_rfl) rfl rfl ?_;go_wp2_with fail;refine ny (PL1 _ (LY.out.call br0.drew).l) fun w6 hb6=>?_;have y6:=hid (show Below w5.heap.size w5 w6 from br0.drew.trans hb6);clear hb6;go_wp2_with fail;refine⟨KK.out _ y6.out,?_⟩;refine a0c (i:=11) (by kernel_rfl) rfl rfl ?_;go_wp2_with fail;refine nw (PT1 _ (LY.out.call y6.out).l) y6 fun w7 y7=>?_;go_wp2_with fail;refine⟨KK.out _ y7.out,?_⟩;refine a0c (i:=16) (by kernel_rfl) rfl rfl ?_;go_wp2_with fail;refine nw (PT2 _ (LY.out.call y7.out).l) y7 fun w8 y8=>?_;go_wp2_with fail;refine⟨KK.out _ y8.out,?_⟩;refine a0c (i:=17) (by kernel_rfl) rfl rfl ?_;go_wp2_with fail;refine nw (PPL _ (LY.out.call y8.out).l) y8 fun w9 y9=>?_;go_wp2_with fail;refine⟨KK.out _ y9.out,?_⟩;refine J8 (by kernel_rfl) ?_ _;simp only[b0b,c0t,Aj,K9];have kf:=(X5.out.call y9.out).free i;have kc:=(KK.out _ y9.out).1;have X9:=(X5.out.call y9.out).set i (.string e6);rw[k0w,HNX.out]at X9;obtain⟨X9,XB9,B9⟩:=zg X9 ((XB5.out.call y9.out).other (a:=⟨bf,i,none⟩) (by have:=BF4.out;simp;omega) (.string e6)) ((a0a B5.out y9.out).setCell (p:=⟨bf,i,none⟩) (Nat.le_of_eq HBF.out) (.string e6));go_wp2_with fail
         try simp only[b0b]
         refine ny (PNX _ (HL.out.call (a0a NV.out.bel B9.out)).l) fun w10 hb10=>?_;obtain⟨X10,XB10⟩:=zu (X9.out.call hb10) (XB9.out.call hb10);have B10:=qx B9 hb10;clear hb10 kf kc;go_wp2_with fail;go_roundw
         case rel=>exact⟨i+1,by go_num,HLT.out,by rw[HP1.out],X10,XB10,B10⟩
         case measure=>simp[intOf]<;>(have:=HLT.out;omega)
        .obtain rfl:L=i:=by omega
         have q1:decide ((L:Int)<(L:Int))=false:=by simp
         have PNi:=fun V hV=>TNON V hV
         obtain⟨n0,hn0⟩:=gn (F L j);obtain⟨n1,hn1⟩:=gn (F L (j+1));obtain⟨pl,hpl⟩:=gn (Px L);rw[hn0,hpl,hn1]at PNi;rw[hn0,hpl];have HN1:=hid hn1;clear hlt hi' hl2 hn0 hn1 hpl;go_wp2_with fail;refine ny (PNi _ (HL.out.call (a0a NV.out.bel hB.out)).l) fun w10 hb10=>?_;have X10:=hid (hX.out.call hb10);have B10:=qx hB hb10;clear hb10;go_wp2_with fail;go_roundw
         case rel=>exact⟨j+1,by go_num,HJT.out,by rw[HN1.out],hid (by rw[<- y0X];exact X10.out),B10⟩
         case measure=>simp[intOf]<;>(have:=HJT.out;omega)
      .obtain rfl:NA=j:=by omega
       have q1:decide ((NA:Int)<(NA:Int))=false:=by simp
       have k0:=N4.out.s.cell 0;simp at k0;have P1:=fun V hV=>hid (HT.out.last1 V hV)
       have P2:=fun V hV=>hid (HT.out.last2 V hV)
       rw[HLL.out,HFL.out]at P1;obtain⟨nn,hnn⟩:=gn (F L NA);have HNN:=hid hnn;rw[hnn];clear hlt hj' hnn hna;go_wp2_with fail;refine ny (P1 _ (HL.out.call N4.out.bel).l) fun w10 hb10=>?_;have B10:=qx hB hb10;have X10:=hid (hX.out.call hb10);clear hb10 k0;go_wp2_with fail;refine ny (P2 _ (HL.out.call (a0a NV.out.bel B10.out)).l) fun w11 hb11=>?_;have B11:=qx B10 hb11;have X11:=hid (X10.out.call hb11);have O0:Hid ((w11.alloc (.cells #[.string ⟨#[45,49]⟩,.string nn,.string ⟨#[108,97,116,101]⟩,.string LT] 42)).ownsRow w11.heap.size 42 2 (.slice (some ⟨w11.heap.size,0,none⟩) 2 2) 2 (a0N (WW 0))):=by
        have h:=World.ownsRow_lit (e:=42) (size:=2) (base:=w11.heap.size) w11 #[.string ⟨#[45,49]⟩,.string nn,.string ⟨#[108,97,116,101]⟩,.string LT] 2 nr (by unfold maxLen;omega) rfl;have e0:=W0.out;rw[HLL.out,HNA.out,HNN.out]at e0;rw[e0];exact h
       obtain⟨A11,LW⟩:=zu ((J4 w11.heap.size w11).alloc nr (.cells #[.string ⟨#[45,49]⟩,.string nn,.string ⟨#[108,97,116,101]⟩,.string LT] 42)) (a0a NV.out.bel B11.out);clear hb11;go_wp2_with fail
       go_loopw [30,31,32,163] (fun s30 s31 s32 s163 wr=>∃ i:Nat,s163=.int .i64 (i:Nat)/\i<=L/\Hid (wr.ownsRow w11.heap.size 42 2 s30 (i+2) (a0N (WW i)))/\Hid (Below w11.heap.size w11 wr)) (fun s30 s31 s32 s163 wr=>L-(intOf s163).toNat)
       case atStart=>exact⟨0,rfl,K5 _,O0,A11⟩
       case round=>
        clear O0 A11;obtain⟨i,rfl,hi',hO,hB5⟩:=hrel;obtain⟨ad,cd,rfl⟩:=b0l hO.out;have hl2:=K2.out;by_cases hlt:i<L
        .have hfi:(fnS F L NA 0)[i]?=some (F i NA):=by rw[e0G hlt,J2 (by omega)]
         obtain⟨fi,hfe⟩:=gn (F i NA);rw[hfe]at hfi;have r1:wr.cell? ⟨bf,i,none⟩=some (.string fi):=((X11.out.call hB5.out).cell i).trans (by rw[K6];exact c0S hfi);have PI:=fun V hV=>hid (w0p V i (by omega) hV)
         have WSi:=WS.out i (De hlt);obtain⟨I,hIi⟩:=gn (a0f i);rw[HNA.out,hIi,hfe]at WSi;rw[hIi]at PI;obtain⟨HWS,HLT⟩:=zu WSi hlt;have f3:=qw i
         have f4:(i:Int)<(L:Int):=by omega
         have wi:=qy i (by omega)
         clear hfi hfe hIi WSi hlt hi' hl2;go_wp2_with fail;refine ny (PI _ (HL.out.call (a0a LW.out hB5.out)).l) fun w12 hb12=>?_;have O12:=hid (a0C hO.out hb12);have B12:=qx hB5 hb12;have b3:=B12.out.size;clear hb12 r1
         go_wp2_with (at_builtin;refine Dz _ rfl _ _ 37 rfl w11.heap.size 42 i0 (.agg #[.string ⟨#[]⟩,.string ⟨#[]⟩]) 2 32 Cc hi hz0 hz1 hz2 rfl (by decide) _ (i+2) _ rfl (O12.out.alloc _) ⟨w12.heap.size,0,none⟩ 1 1 [.string I,.string fi] rfl rfl (cell_two_new w12 (.string I) (.string fi) 42) (by simp[Value.oneCell']) (by have:=HLT.out;have:=K2.out;unfold maxLen;omega) (by have:=HLT.out;have:=K2.out;omega) (by simp;omega) ?_
                      intro v' w13 hown hgrow _;obtain⟨B13,O13⟩:=zu (c0x (O12.out.alloc _) (B12.out.alloc B12.out.size (.cells #[.string I,.string fi] 42)) hgrow) hown;clear hown hgrow)
         go_roundw
         case rel=>exact⟨i+1,by go_num,HLT.out,hid (by rw[HWS.out,b0x];exact O13.out),B13⟩
         case measure=>simp[intOf]<;>(have:=HLT.out;omega)
        .obtain rfl:L=i:=by omega
         have q1:decide ((L:Int)<(L:Int))=false:=by simp
         have O5:=hO.out;obtain⟨gd,cap,e5,hgB,hglt⟩:=O5.form (Ev (L+1));simp only[Iq,true_and]at e5;obtain⟨rfl,rfl⟩:=e5;have hFWl:(WW L).length=L+2:=by have:=O5.1;rw[b0a]at this;omega
         have PD:=hid (a1B wr 126 (fun x => !f0O x) gd cd w11.heap.size (L+2) (WW L) O5 hFWl (by omega) hB5.out.size (Cw func126 (by kernel_rfl) rfl) (fun W x=>a1v W x));rw[<- DD.out]at PD;have Y1:=hid LW.out.size;have BW:=qx LW hB5.out;clear hlt hi' hO O5 hgB hglt hFWl hl2;go_wp2_with fail;refine PD.out.mono ?_;rintro e w6 ⟨⟨m,hm,rfl,O6⟩,hb6⟩;have B6:=hid (BW.out.trans (hb6.mono Y1.out));rcases O6.2 with ⟨e1,_⟩ | ⟨g',cap',cur,e1,hgb,hgh,h1,h2,h3,h4⟩
         .simp at e1
         simp only[Iq,Az,Hs,and_true,true_and]at e1;obtain⟨rfl,rfl⟩:=e1;have hdl:=HDL.out;have hk2:=K2.out;have hSM:=q0U 127 gd cd w11.heap.size DF.toArray w6 cur hgb hgh (by simp;omega) h2 h3 (by simp;rw[<- hm];exact h4) (by simp;omega) (by simpa using DN.out) (Cw func127 (by kernel_rfl) rfl) (fun x y W=>u0c x y W);simp only[An]at hSM;rw[<- hm]at hSM;have HSM:=hid hSM;clear hSM h1 h2 h3 h4 hgh hdl hk2 O6 hb6 PD hm;go_wp2_with fail;refine HSM.out.mono ?_;rintro e w8 ⟨rfl,ho8,hb8⟩;obtain⟨B8,M8⟩:=zu (B6.out.trans (hb8.mono Y1.out)) (MRow.of_owns ho8);clear ho8 hb8;go_wp2_with fail;go_ret2
         exact⟨⟨_,rfl,M8.out⟩,B8.out⟩
end
section
open Go.Shelf
def n0o (w:World)(v:Value)(l:List ByteArray)(m:Int)(h:Row w v (i0i l))(hsz:∀ b∈l,b.size<=100000000):
 qb 103 #[v,.int .i64 m] w (.int .i64 (wdE l m)):=by
 obtain⟨a,c,rfl,h1,h2,h3⟩:=h.openS;obtain⟨n,hn⟩:=gn (l.length);unfold wdE;rw[hn]at h1 |-;by_cases hm:(n:Int)=m
 .rw[J3 hm];obtain⟨H3,HN,HSZ⟩:=zg h3 hn hsz;have q0:((n:Int)==m)=true:=by rw[Fi];exact hm
  obtain⟨X,hX⟩:∃ X:Int,bsE l=X:=⟨_,rfl⟩;have HX:=hid hX;rw[hX];subst hm;clear h h3 hn hX hsz q0;go_enter func103,ntmps103;go_wp2_with fail
  go_loopw [14] (fun ii wr=>∃ i:Nat,ii=.int .i64 i/\i<=n/\Hid (∀ (j:Nat) (b:ByteArray),j<i->l[j]?=some b->c0D b=0)/\Hid (Below w.heap.size w wr)) (fun ii wr=>n-(intOf ii).toNat)
  case atStart=>exact⟨0,rfl,K5 _,fun j b hj=>absurd hj (by omega),J4 _ _⟩
  case round=>
   obtain⟨i,rfl,hi,hI,hB⟩:=hrel;by_cases hlt:i<n
   .obtain⟨x,hx⟩:∃ x,l[i]?=some x:=⟨_,Q0 (by rw[HN.out];exact hlt)⟩;obtain⟨g,o,rfl,hg,hc⟩:=H3.out i x hx;have d0:=(hB.out.cell (p:=⟨g,o+i,none⟩) hg).trans hc;have b1:=qw i
    have b2:(i:Int)<(n:Int):=by omega
    have wi:IntKind.i64.wrap ((i:Int)+1)=(i:Int)+1:=by rw[U0 _ ⟨by omega,by omega⟩]
    have PN:=fun W=>hid (m0Z W x (HSZ.out x (U7 hx)))
    have hce:=v0O x;obtain⟨y,hy⟩:=gn (k0i x);rw[hy]at PN hce;obtain⟨HXX,HC⟩:=zu hx hce;have hdrop:l.drop i=x::l.drop (i+1):=by
     have hil:i<l.length:=by rw[HN.out];exact hlt
     rw[S9 hil];have:=Q0 hil;rw[hx]at this;rw[Ag this]
    have HD:=hid hdrop;clear hx hy hc hdrop hce;by_cases hy0:y=0
    focus
     subst hy0;by_cases hl:256<x.size
     focus
      have q2:decide ((256:Int)<(x.size:Int))=true:=by simp;omega
      have HE:Hid (X=4):=by
       show X=4
       have e:c0D x=4:=by rw[HC.out,J2 (by simp),J3 hl]
       rw[<- HX.out,i0S hI.out,HD.out,bsE,e,J3 (by decide)]
      clear hl
     rotate_left
     .have q2:decide ((256:Int)<(x.size:Int))=false:=by simp;omega
      have HE:Hid (c0D x=0):=by
       show c0D x=0
       rw[HC.out,J2 (by simp),J2 hl]
      clear hl;go_wp2_with fail;refine nw (PN _) hB fun w1 y1=>?_;go_wp2_with fail;go_roundw
      case rel=>exact⟨i+1,rfl,by omega,fun j b hj hjb=>by
       by_cases e:j=i
       .subst e;rw[HXX.out]at hjb;cases hjb;exact HE.out
       .exact hI.out j b (by omega) hjb,y1.out⟩
      case measure=>simp[intOf]<;>omega
    rotate_left
    focus
     have q3:(y==0)=false:=by rw[M5];exact hy0
     have HE:Hid (X=y):=by
      show X=y
      have e:c0D x=y:=by rw[HC.out,J3 hy0]
      rw[<- HX.out,i0S hI.out,HD.out,bsE,e,J3 hy0]
     clear hy0
    all_goals
     go_wp2_with fail;refine nw (PN _) hB fun w1 y1=>?_;go_wp2_with fail;go_ret
     exact⟨by rw[HE.out];rfl,y1.out⟩
   .obtain rfl:i=n:=by omega
    have HE:Hid (X=0):=by
     show X=0
     have hd:l.drop i = []:=Ia (by rw[HN.out];exact O4 _);rw[<- HX.out,i0S hI.out,hd];rfl
    go_wp2_with fail;go_ret
    exact⟨by rw[HE.out];rfl,hB.out⟩
 .rw[J2 hm];have q0:((n:Int)==m)=false:=by rw[M5];exact hm
  clear h h3 hn hsz hm;go_enter func103,ntmps103;go_wp2_with fail;go_ret
  exact⟨rfl,J4 _ _⟩
end
section
open Go.Shelf
attribute [local go_sem] Oper.semAt_some
structure KpC (n0:Nat)(W W':World):Prop where
 size:W.heap.size<=W'.heap.size
 rest:n0<=W.heap.size->Below n0 W W'
theorem KpC.refl (n0:Nat)(W:World):KpC n0 W W:=⟨O4 _,fun _=>J4 _ _⟩
theorem KpC.trans {n0:Nat}{A B C:World}(h:KpC n0 A B)(k:KpC n0 B C):KpC n0 A C:=⟨J0 h.size k.size,fun h1=>(h.rest h1).trans (k.rest (J0 h1 h.size))⟩
theorem KpC.of_below {n0:Nat}{W W':World}(h:Below W.heap.size W W'):KpC n0 W W':=⟨h.size,fun h1=>h.mono h1⟩
theorem KpC.put {n0:Nat}{w:World}(h1:n0<=w.heap.size)(W:World)(l:Nat)(o o':Obj)(hl:w.heap.size<=l)(h:W.heap[l]?=some o)(hc:o.isCells=false)(hw:o.isWalk=false):KpC n0 W (W.putObj l o'):=by
 have hs:W.heap.size<=(W.putObj l o').heap.size:=by simp[World.putObj]
 exact⟨hs,fun _=>⟨rfl,rfl,rfl,hs,fun k hk=>Ea (by omega)⟩⟩
attribute [local go_sem] Oper.semAt_some
def x0s (w:World)(s:Option Addr)(n k:Nat)(m:Int):
 Calls prog 105 #[.slice s n k,.int .i64 m] w fun e w'=>e=.returned (.func (.func 186) #[] #[.pointer (some ⟨w.heap.size,0,none⟩),.pointer (some ⟨w.heap.size+1,0,none⟩)])/\w'=(w.alloc (.cells #[.slice s n k] 22)).alloc (.cells #[.int .i64 m] 3):=by
 go_enter func105,ntmps105;go_wp2_with fail;go_ret
 exact⟨rfl,rfl⟩
def hOk (t:Int)(l:List Int)(pre:List Int)(x:Int):Prop:=pre = []->x=(f0T t l:Nat)/\f0T t l<l.length
def d1w (t:Int)(l:List Int)(xs:List Int):Prop:=xs = []->f0T t l=l.length
def p0C {Kp:World->World->Prop}(n:Nat)(hn:1<=n)(w:World)(bl bm:Nat)(v:Value)(c:List Int)(m:Int)(hcl:c.length<=256)
 (hKr:∀ W,Kp W W) (hKt:∀ {A B C:World},Kp A B->Kp B C->Kp A C)
 (hread:∀ W1 W2,Below w.heap.size w W1->Kp W1 W2->W2.cell? ⟨bl,0,none⟩=some v/\W2.cell? ⟨bm,0,none⟩=some (.int .i64 m)/\Row W2 v (zs c)) (hKb:∀ W1 W2,Below W1.heap.size W1 W2->Kp W1 W2):
 c1t n prog 186 #[.pointer (some ⟨bl,0,none⟩),.pointer (some ⟨bm,0,none⟩)] (fun x:Int=>#[.int .i64 x]) Kp (hOk m c) (d1w m c) (fun _=>True) w:=by
 intro l J Jx W hW hJ hJx hY _ h0;obtain⟨HR,HY,HW,HKr⟩:=zc hread hY hW hKr;have HKt:Hid (∀ A B C:World,Kp A B->Kp B C->Kp A C):=fun A B C h k=>hKt h k
 obtain⟨c0,-,r0⟩:=hread W W hW (hKr W);obtain⟨s,cp,rfl,q1,q2,-⟩:=r0.openZ;obtain⟨N,hN⟩:=gn (c.length);have HN:=hid hN;rw[hN]at HR c0 q1 hcl;clear hread hY hW hJ hJx hKr hKt hKb r0 hN;refine callsIn_of_wp func186 rfl trivial ?_ rfl;simp only[ntmps186,An,E8,Ce,Nat.reduceAdd,Nat.reduceSub,Bu,Cl,Da,Cx,Dq,Cm]
 gi_wp2
 gi_loopw [8] (fun ii wr=>∃ (i:Nat) (p:List Int),ii=.int .i64 (i:Nat)/\i<=N/\Hid (p = []->∀ (j:Nat) (y:Int),j<i->c[j]?=some y->y<m)/\Hid (J p wr)/\Hid (Kp W wr)) (fun ii wr=>N-(intOf ii).toNat)
 case atStart=>exact⟨0,[],rfl,K5 _,fun _ j y hj=>absurd hj (by omega),h0,HKr.out W⟩
 case round=>
  obtain⟨i,pre,rfl,hp,hO,hJ,hK⟩:=hrel;by_cases hlt:i<N
  .obtain⟨x,hx⟩:∃ x,c[i]?=some x:=⟨_,Q0 (by rw[HN.out];exact hlt)⟩;obtain⟨-,c1,hrow⟩:=HR.out W wr HW.out hK.out;obtain⟨a',c',e,-,-,hcell⟩:=hrow.openZ;simp only[Iq]at e;obtain⟨rfl,-,rfl⟩:=e;obtain⟨g,o,rfl,hg,hc⟩:=hcell i x hx;have HX:=hid hx;have b1:=qw i
   have b2:(i:Int)<(N:Int):=by omega
   have wi:IntKind.i64.wrap ((i:Int)+1)=(i:Int)+1:=by rw[U0 _ ⟨by omega,by omega⟩]
   have HLT:=hid hlt;clear hx hrow hcell hg hlt hp;by_cases hm:m<=x
   .have t0:decide (m<=x)=true:=Z7 hm;have hok:hOk m c pre (i:Nat):=fun e=>by
     have:=y0J HX.out hm (fun j y hj hy=>by have:=hO.out e j y hj hy;omega);exact⟨by rw[this],by rw[this,HN.out];exact HLT.out⟩
    obtain⟨fn,tmps,assign,body,hy,hR⟩:=HY.out pre (i:Nat) wr hok hJ.out;have HYR:=hid hR;clear hok hR hm
    gi_wp2_with fail
    refine HYR.out.mono ?_;rintro e W3 (⟨rfl,hJ3,hk3⟩ | ⟨rfl,hJx3⟩)
    .obtain⟨HJ3,HK3⟩:=zu hJ3 (HKt.out _ _ _ hK.out hk3);clear hJ3 hk3 hy
     gi_wp2_with fail
     go_roundw
     case rel=>exact⟨i+1,pre ++ [((i:Nat):Int)],rfl,HLT.out,fun e=>by simp at e,HJ3,HK3⟩
     case measure=>simp[intOf]<;>(have:=HLT.out;omega)
    .clear hy
     gi_wp2_with fail
     refine C7 (Nk rfl _ _ _) rfl ?_;exact⟨⟨_,rfl⟩,.inr ⟨_,trivial,hJx3⟩⟩
   .have t0:decide (m<=x)=false:=Z6 hm;have HM:=hid (show x<m by omega);clear hm
    gi_wp2_with fail
    refine⟨fun f hf=>(by cases hf),?_⟩
    gi_wp2_with fail
    go_roundw
    case rel=>exact⟨i+1,pre,rfl,HLT.out,fun e j y hj hy=>by
     rcases Ct j i with h | h
     .exact hO.out e j y h hy
     .obtain rfl:j=i:=by omega
      rw[HX.out]at hy;cases hy;exact HM.out,hJ,hK⟩
    case measure=>simp[intOf]<;>(have:=HLT.out;omega)
  .obtain rfl:i=N:=by omega
   gi_wp2_with fail
   refine bodyPost_end (Nk rfl _ _ _) rfl ?_;exact⟨⟨_,rfl⟩,.inl ⟨pre,fun e=>s0r fun j y hj hy=>by have:=hO.out e j y (by rw[<- HN.out];exact hj) hy;omega,hJ.out⟩⟩
end
end Go.Proofs.YtfkpfpobmobnbaaGreatDoor
namespace Go.Proofs
open Go.Shelf
def Tryz.cloneI_ren:Go.Shelf.Ren:=⟨fun | 41=>104 | n=>n,fun | 22=>22 | 23=>3 | 4=>4 | n=>n,fun | n=>n⟩
theorem Tryz.cloneI:Go.Proofs.SlLaysE0.n41 Tryz.prog Tryz.cloneI_ren:={
 mixed:=by kernel_rfl
 f41:=⟨Tryz.f104.name,by decide,Tryz.func104.trans (congrArg some (by kernel_rfl))⟩
 t4:=Bf
 a4:=Fg
 z4:=El
 v4:=Co
 t22:=Tryz.underlying22
 a22:=Tryz.isAgg22
 z22:=Tryz.sizeOf22
 v22:=Tryz.zeroValue22 }
end Go.Proofs
namespace Go.Proofs.YtfkpfpobmobnbaaGreatDoor
open Go.Proofs.Tryz Go.RowKit
open Go.Lib (decDigits nDigits)
section
open Go.Shelf
def l0i:(prog.info? 3).map (fun i=>(i.zero,i.size,i.bytes))=some (some (.int .i64 0),1,8):=by kernel_rfl
def y0B (w:World)(v:Value)(l:List Int)(hv:Row w v (zs l))(hl:l.length<=1000000):
 Calls prog 8 #[v] w fun e w'=>(∃ u,e=.returned u/\w'.ownsRow w.heap.size 3 1 u l.length (zs l))/\Below w.heap.size w w':=by
 obtain⟨i0,hi,hz0,hz1,hz2⟩:=Dx l0i;obtain⟨a,c,rfl,q1,q2,q3⟩:=hv.ex;rw[zs_length]at *;have SRC:Hid (∀ j u,(zs l)[j]?=some u->∃ ad,a=some ad/\(w.alloc (.cells #[] 3)).cell? (ad.add j)=some u):=fun j u hu=>by
  obtain⟨g,o,rfl,hg,hc⟩:=q3 j u hu;refine⟨_,rfl,?_⟩;rw[Addr.add_lit];exact (((J4 w.heap.size w).alloc nr (.cells #[] 3)).cell (p:=⟨g,o+j,none⟩) hg).trans hc
 obtain⟨HO,HB⟩:=zu (show (w.alloc (.cells #[] 3)).ownsRow w.heap.size 3 1 (.slice (some ⟨w.heap.size,0,none⟩) 0 0) 0 [] from Ke _ _ 0 nr (by unfold maxLen;omega) rfl) ((J4 w.heap.size w).alloc nr (.cells #[] 3));obtain⟨n,hn⟩:=gn (l.length);have HN:=hid (show (zs l).length=n*1 from by rw[zs_length,hn];omega);rw[hn]at hl q1 |-;clear hv q3 hn;go_enter func8,ntmps8;go_wp2_with (at_builtin;refine c0Q rfl _ _ 22 rfl w.heap.size 3 i0 (.int .i64 0) 1 8 Le hi hz0 hz1 hz2 rfl (by decide) (.slice (some ⟨w.heap.size,0,none⟩) 0 0) 0 [] rfl HO.out (by intro e;cases e) a n c (zs l) rfl HN.out SRC.out (z0V l) (by unfold maxLen;omega) (by omega) (by simp) ?_;intro v1 w1 hown1 hg1 hne1;have O1:=hid hown1;have G1:=hid hg1;clear hown1 hg1 hne1)
 go_ret
 refine⟨⟨_,rfl,?_⟩,c0x HO.out HB.out G1.out⟩;have:=O1.out;simpa using this
def b1w (w:World)(v:Value)(l:List Int)(hv:Row w v (zs l))(hl:l.length<=1000000):
 Calls prog 8 #[v] w fun e w'=>(∃ u,e=.returned u/\Row w' u (zs l))/\Below w.heap.size w w':=
 (y0B w v l hv hl).mono fun e w' h=>by
  obtain⟨⟨u,h1,h2⟩,h3⟩:=h;exact⟨⟨u,h1,Row.of_owns h2⟩,h3⟩
attribute [local go_sem] Oper.semAt_some
def r0X {n:Nat}{P:Program}{fn:Func}{R:Ending->World->Prop}{tmps:Array Value}{W:World}{v:Value}(hv:(results fn tmps).run P W=.ok v W)(hR:R (.returned v) W):
 bodyPostM Fence.wide n P fn R .ret { tmps:=tmps,defers:=[] } W:=⟨v,hv,hR⟩
def u0l (w:World)(v:Value)(l:List Int)(hv:Row w v (zs l))(h1:1<=l.length)(hl:l.length<=1000):
 Calls prog 104 #[v] w fun e w'=>(∃ g cap,e=.returned (.slice (some ⟨g,0,none⟩) l.length cap)/\w'.ownsRow w.heap.size 3 1 (.slice (some ⟨g,0,none⟩) l.length cap) l.length (zs l))/\Below w.heap.size w w':=by
 obtain⟨a,c,rfl,q1,q2,q3⟩:=hv.openZ;obtain⟨i0,hi,hz0,hz1,hz2⟩:=Dx l0i;obtain⟨x0,hx0⟩:∃ x,l[0]?=some x:=⟨_,Q0 (by omega)⟩;obtain⟨g,o,rfl,hg,-⟩:=q3 0 x0 hx0;have hcell:∀ j u,(zs l)[j]?=some u->w.cell? ⟨g,o+j,none⟩=some u:=fun j u hu=>by
  obtain⟨g',o',e,-,h⟩:=hv.at hu;simp at e;obtain⟨rfl,rfl⟩:=e;exact h
 have PC:Calls prog 104 #[.slice (some ⟨g,o,none⟩) l.length c] w fun e w'=>∃ v',e=.returned v'/\w'.ownsRow w.heap.size 3 1 v' l.length (zs l)/\v' ≠ .slice none 0 0/\RowKit.Below w.heap.size w w':=
  AnyE.slices_Clone Tryz.cloneI i0 (.int .i64 0) 1 8 hi hz0 hz1 hz2 rfl (by decide) Ec g o l.length c (zs l) w (by rw[zs_length,Dr]) (by unfold maxLen;omega) (by omega) hcell (fun u hu=>by
  unfold zs at hu;obtain⟨x,-,rfl⟩:=Gi.1 hu
  rfl)
 refine PC.mono ?_;rintro e w1 ⟨u,rfl,hown,-,hb1⟩;refine⟨?_,hb1⟩;obtain⟨m,hm⟩:∃ m,l.length=m+1:=⟨l.length-1,by omega⟩;rw[hm]at hown |-;obtain⟨g1,cap1,rfl⟩:=Nu hown;exact⟨g1,cap1,rfl,hown⟩
def k0A (w:World)(v u:Value)(c:List Int)(thr:Int)(a r:ByteArray)(b:List ByteArray)(hv:Row w v (zs c))(hu:Row w u (i0i b))(ha:a.size<=100000)(hr:r.size<=100000)(hb:∀ x∈b,x.size<=100000000)(hL:Lay w)(h0:fsE c thr a r b≠0):
 qb 29 #[v,.int .i64 thr,.string a,.string r,u] w (.tuple #[.int .i64 (fsA c thr a r b).1,.bool (fsA c thr a r b).2,.int .i64 (fsE c thr a r b)]):=by
 have HQ:=fun V hV hLV=>hid (d0j V v c thr a r hV ha hr hLV)
 have HW:=fun V h=>hid (n0o V u b (IntKind.i64.wrap ((c.length:Int)+1)) h hb)
 obtain⟨HV,HU,HL⟩:=zg hv hu hL;obtain⟨s,cp,rfl,q1,q2,q3⟩:=hv.openZ;obtain⟨t,cq,rfl,p1,p2,p3⟩:=hu.openS;have CO:=fun V v h=>hid (o0Y V v [g0p c thr a r,wdE b (IntKind.i64.wrap ((c.length:Int)+1))] h)
 rw[f0N]at CO;rw[show fsA c thr a r b=(0,false) from J2 h0];have e1:(if g0p c thr a r≠0 then g0p c thr a r else wdE b (IntKind.i64.wrap ((c.length:Int)+1)))=fsE c thr a r b:=by
  unfold fsE;by_cases h:g0p c thr a r=0
  .rw[J2 (by simpa using h),J2 (by simpa using h)];obtain⟨-,k2,-⟩:=i0k h;rw[U0 _ ⟨by omega,by omega⟩]
   congr 1
  .rw[J3 h,J3 h]
 rw[e1]at CO;obtain⟨z,hz⟩:=gn (fsE c thr a r b);obtain⟨qe,hqe⟩:=gn (g0p c thr a r);obtain⟨K,hK⟩:=gn (IntKind.i64.wrap ((c.length:Int)+1));simp only[hK]at HW;rw[hK]at CO;obtain⟨we,hwe⟩:=gn (wdE b K);obtain⟨n,hn⟩:=gn (c.length);obtain⟨n2,hn2⟩:=gn (b.length);rw[hz,hqe,hwe]at CO;rw[hz]at h0 |-;simp only[hqe]at HQ;simp only[hwe]at HW;rw[hn]at HV q1 |-;simp only[hn]at HQ HW;simp only[hn2]at HW;rw[hn2]at HU p1 |-;have t0:(z != 0)=true:=by simpa using h0
 rw[hn]at hK;obtain⟨A3,X0,X1,X2⟩:=zc ((((J4 w.heap.size w).alloc nr (.cells #[.int .i64 0] 3)).alloc (by simp) (.cells #[.bool false] 4)).alloc (by simp<;>omega) (.cells #[.int .i64 0] 27)) (((Blk.new w #[.int .i64 0] 3).alloc (.cells #[.bool false] 4)).alloc (.cells #[.int .i64 0] 27)) ((Blk.made (w.alloc (.cells #[.int .i64 0] 3)) #[.bool false] 4 (n:=w.heap.size+1) (by simp)).alloc (.cells #[.int .i64 0] 27)) (Blk.made ((w.alloc (.cells #[.int .i64 0] 3)).alloc (.cells #[.bool false] 4)) #[.int .i64 0] 27 (n:=w.heap.size+1+1) (by simp));clear hv hu q3 p3 hz hn hn2 h0 hqe hwe e1 ha hr hb hL;go_enter func29,ntmps29;go_wp2_with fail;refine ny (HQ _ (HV.out.call A3.out) (HL.out.call A3.out)) fun w1 hb1=>?_;have y1:=qx A3 hb1;obtain⟨X0,X1,X2⟩:=zg (X0.out.call hb1) (X1.out.call hb1) (X2.out.call hb1);clear hb1;go_wp2_with fail;refine ny (HW _ (HU.out.call y1.out)) fun w2 hb2=>?_;have y2:=qx y1 hb2;obtain⟨X0,X1,X2⟩:=zg (X0.out.call hb2) (X1.out.call hb2) (X2.out.call hb2);clear hb2;go_wp2_with fail;refine zx (CO _ _ (b0V _ _ _ _)) ?_;obtain⟨y3,Y0,Y1,Y2⟩:=zc (y2.out.alloc y2.out.size (.cells #[.int .i64 qe,.int .i64 we] 27)) (X0.out.alloc (.cells #[.int .i64 qe,.int .i64 we] 27)) (X1.out.alloc (.cells #[.int .i64 qe,.int .i64 we] 27)) (X2.out.alloc (.cells #[.int .i64 qe,.int .i64 we] 27));obtain⟨W,hW⟩:=gn (w2.alloc (.cells #[.int .i64 qe,.int .i64 we] 27));rw[hW]at y3 Y0 Y1 Y2 |-;clear hW;have c0:=Y0.out.cell 0;have c1:=Y1.out.cell 0;have c2:=Y2.out.cell 0;have f0:=Y0.out.free 0;have f1:=Y1.out.free 0;have f2:=Y2.out.free 0;simp at c0 c1 c2;go_wp2_with fail;have p0:=(((Y0.out.set 0 (.int .i64 0)).other (a:=⟨w.heap.size+1,0,none⟩) (by simp) (.bool false)).other (a:=⟨w.heap.size+1+1,0,none⟩) (by simp<;>omega) (.int .i64 z)).cell 0;have p1:=(((Y1.out.other (a:=⟨w.heap.size,0,none⟩) (by simp) (.int .i64 0)).set 0 (.bool false)).other (a:=⟨w.heap.size+1+1,0,none⟩) (by simp) (.int .i64 z)).cell 0;have p2:=(((Y2.out.other (a:=⟨w.heap.size,0,none⟩) (by simp<;>omega) (.int .i64 0)).other (a:=⟨w.heap.size+1,0,none⟩) (by simp) (.bool false)).set 0 (.int .i64 z)).cell 0;simp at p0 p1 p2;refine C7 (v:=.tuple #[.int .i64 0,.bool false,.int .i64 z]) (by simp[results,results29,go_sem,p0,p1,p2]) rfl ⟨rfl,?_⟩;exact ((y3.out.setCell (by simp) _).setCell (by simp) _).setCell (by simp<;>omega) _
def x0c (l:List Int)(i:Nat)(x:Int):(zs l).set i (.int .i64 x)=zs (l.set i x):=by simp[zs,Na]
structure FsI (G g9 cap:Nat)(w B:World)(N D1:Nat)(r:ByteArray)(c:List Int)(bs:List ByteArray)(d0:Bool)(xd:Value×Value×Value)(i k:Nat)(W:World):Prop where
 r0:Blk W G #[.int .i64 0] 3
 r1:Blk W (G+1) #[.bool (d0 && dnL r (bs.take i))] 4
 r2:Blk W (G+1+1) #[.int .i64 0] 27
 own:W.ownsRow B.heap.size 3 1 (.slice (some ⟨g9,0,none⟩) N cap) N (zs (nzP r c bs k))
 x:Blk W D1 #[xd.1,xd.2.1,xd.2.2] 62
 bel:Below w.heap.size w W
 big:B.heap.size<=W.heap.size
theorem FsI.call {G g9 cap:Nat}{w B:World}{N D1:Nat}{r:ByteArray}{c:List Int}{bs:List ByteArray}{d0:Bool}{xd:Value×Value×Value}{i k:Nat}{W W':World}(h:FsI G g9 cap w B N D1 r c bs d0 xd i k W)(hb:Below W.heap.size W W'):FsI G g9 cap w B N D1 r c bs d0 xd i k W':=
 ⟨h.r0.call hb,h.r1.call hb,h.r2.call hb,a0C h.own hb,h.x.call hb,a0a h.bel hb,J0 h.big hb.size⟩
theorem FsI.set9 {G g9 cap:Nat}{w B:World}{N D1:Nat}{r:ByteArray}{c:List Int}{bs:List ByteArray}{d0:Bool}{xd:Value×Value×Value}{i k:Nat}{W:World}(h:FsI G g9 cap w B N D1 r c bs d0 xd i k W)(y:Int)(he:(nzP r c bs k).set k y=nzP r c bs (k+1))(hw:w.heap.size<=G)(hG:G+1+1<B.heap.size)(hD:D1<B.heap.size):
 FsI G g9 cap w B N D1 r c bs d0 xd i (k+1) (W.setCell ⟨g9,k,none⟩ (.int .i64 y)):=by
 have hg:B.heap.size<=g9:=(h.own.lt g9 rfl).1;refine⟨h.r0.other (by simp;omega) _,h.r1.other (by simp;omega) _,h.r2.other (by simp;omega) _,?_,h.x.other (by simp;omega) _,h.bel.setCell (by simp;omega) _,by rw[World.size_setCell];exact h.big⟩;have:=m0p h.own k (.int .i64 y);rw[x0c,he]at this;exact this
theorem FsI.set1 {G g9 cap:Nat}{w B:World}{N D1:Nat}{r:ByteArray}{c:List Int}{bs:List ByteArray}{d0:Bool}{xd:Value×Value×Value}{i k:Nat}{W:World}(h:FsI G g9 cap w B N D1 r c bs d0 xd i k W)(q:Bool)(he:(d0 && dnL r (bs.take (i+1)))=q)(hw:w.heap.size<=G)(hG:G+1+1<B.heap.size)(hD:G+1+1<D1):
 FsI G g9 cap w B N D1 r c bs d0 xd (i+1) k (W.setCell ⟨G+1,0,none⟩ (.bool q)):=by
 refine⟨h.r0.other (by simp) _,?_,h.r2.other (by simp) _,Bb h.own (by simp;omega) _,h.x.other (by simp;omega) _,h.bel.setCell (by simp;omega) _,by rw[World.size_setCell];exact h.big⟩;have:=h.r1.set 0 (.bool q);rw[he];simpa using this
def l0X (w:World)(v u:Value)(c:List Int)(thr:Int)(a r:ByteArray)(b0:ByteArray)(bs:List ByteArray)(hv:Row w v (zs c))(hu:Row w u (i0i (b0::bs)))(ha:a.size<=100000)(hr:r.size<=100000)(hb:∀ x∈b0::bs,x.size<=100000000)(hL:Lay w)(h0:fsE c thr a r (b0::bs)=0):
 qb 29 #[v,.int .i64 thr,.string a,.string r,u] w (.tuple #[.int .i64 (fsA c thr a r (b0::bs)).1,.bool (fsA c thr a r (b0::bs)).2,.int .i64 0]):=by
 have OK:=o0g h0;have hbl:bs.length=c.length:=by have:=OK.len;rw[E8]at this;omega
 have HQ:=fun V hV hLV=>hid (d0j V v c thr a r hV ha hr hLV)
 have HW:=fun V h=>hid (n0o V u (b0::bs) ((c.length+1:Nat):Int) h hb)
 have hq0:g0p c thr a r=0:=by
  unfold fsE at h0
  split at h0
  .rename_i h1;exact absurd h0 h1
  .rename_i h1;exact Ak h1
 have hw0:wdE (b0::bs) ((c.length+1:Nat):Int)=0:=by
  unfold fsE at h0;rw[J2 (by simpa using hq0)]at h0;exact h0
 have CO:=fun V v h=>hid (o0Y V v [0,0] h)
 rw[f0N,J2 (by simp)]at CO;simp only[hq0]at HQ;simp only[hw0]at HW;rw[b1H h0];obtain⟨HV,HU,HL⟩:=zg hv hu hL;obtain⟨s,cp,rfl,q1,q2,q3⟩:=hv.openZ;obtain⟨t,cq,rfl,p1,p2,p3⟩:=hu.openS;have hsz0:=c0N (OK.b b0 (Dg ..));have hszs:∀ x∈bs,x.size<=256:=fun x hx=>c0N (OK.b x (Br _ hx))
 have PT:=fun V hV=>hid (b1D V a b0 ha (by omega) hV)
 have PN:=fun V x (hx:x∈bs) hV=>hid (b1D V r x hr (by have:=hszs x hx;omega) hV)
 have hv0:=e0N a b0 hsz0;obtain⟨HSZ,HOK,HBL⟩:=zg hszs OK hbl;obtain⟨z,hz⟩:=gn ((if ((wT a b0).1 && dnL r bs)=true then fsV c.length (some (f0T (thr+(wT a b0).2.1) (nzL r c bs))) else (0,false)));have HZ:=hid hz;rw[hz];obtain⟨T,hT⟩:=gn (wT a b0);obtain⟨ge,hge⟩:=gn (gE a b0);rw[hT]at HZ hv0;simp only[hT,hge]at PT;obtain⟨d0,v0,u0⟩:=T;simp only[d3]at PT;dsimp only at HZ hv0;obtain⟨gb,ob,rfl,hgb,hcb⟩:=p3 0 b0 rfl;rw[Nat.add_zero]at hcb;obtain⟨n,hn⟩:=gn (c.length);have HN:=hid hn;have hn2:(b0::bs).length=n+1:=by rw[List.length_cons,hbl,hn]
 have PCL:=fun V hV=>hid (u0l V (.slice s c.length cp) c hV OK.pos (by have:=OK.le;omega))
 rw[hn]at HV q1 HZ |-;simp only[hn]at HQ HW PCL;simp only[hn2]at HW;rw[hn2]at HU p1 |-;have hn256:n<=256:=by have:=OK.le;omega
 have hn1:1<=n:=by have:=OK.pos;omega
 obtain⟨HN1,HN256,HTH,HV0⟩:=zc hn1 hn256 OK.thr hv0;have wn:=qy n (by omega)
 obtain⟨A3,X0,X1,X2,HGB,HCB,P3⟩:=kx ((((J4 w.heap.size w).alloc nr (.cells #[.int .i64 0] 3)).alloc (by simp) (.cells #[.bool false] 4)).alloc (by simp<;>omega) (.cells #[.int .i64 0] 27)) (((Blk.new w #[.int .i64 0] 3).alloc (.cells #[.bool false] 4)).alloc (.cells #[.int .i64 0] 27)) ((Blk.made (w.alloc (.cells #[.int .i64 0] 3)) #[.bool false] 4 (n:=w.heap.size+1) (by simp)).alloc (.cells #[.int .i64 0] 27)) (Blk.made ((w.alloc (.cells #[.int .i64 0] 3)).alloc (.cells #[.bool false] 4)) #[.int .i64 0] 27 (n:=w.heap.size+1+1) (by simp)) hgb hcb p3;clear hv hu q3 p3 hz hn hn2 h0 hq0 hw0 hT hge ha hr hb hL OK hbl hszs hsz0 hv0 hgb hcb hn256 hn1;refine (Ah (n:=9)).1 ?_;refine Fj func29 rfl trivial ?_ rfl;simp only[ntmps29,An,E8,Ce,Nat.reduceAdd,Nat.reduceSub,Bu,Cl,Da,Cx,Dq,Cm]
 gi_wp2_with fail
 refine⟨trivial,?_⟩;refine (Ah.2 (HQ _ (HV.out.call A3.out) (HL.out.call A3.out)).out).mono ?_;rintro e w1 ⟨rfl,hb1⟩;have y1:=qx A3 hb1;obtain⟨X0,X1,X2⟩:=zg (X0.out.call hb1) (X1.out.call hb1) (X2.out.call hb1);clear hb1
 gi_wp2_with fail
 refine⟨trivial,?_⟩;refine (Ah.2 (HW _ (HU.out.call y1.out)).out).mono ?_;rintro e w2 ⟨rfl,hb2⟩;have y2:=qx y1 hb2;obtain⟨X0,X1,X2⟩:=zg (X0.out.call hb2) (X1.out.call hb2) (X2.out.call hb2);clear hb2
 gi_wp2_with fail
 refine⟨trivial,?_⟩;refine (Ah.2 (CO _ _ (b0V _ _ _ _)).out).mono ?_;rintro e w3 ⟨rfl,rfl⟩;obtain⟨y3,X0,X1,X2⟩:=zc (y2.out.alloc y2.out.size (.cells #[.int .i64 0,.int .i64 0] 27)) (X0.out.alloc (.cells #[.int .i64 0,.int .i64 0] 27)) (X1.out.alloc (.cells #[.int .i64 0,.int .i64 0] 27)) (X2.out.alloc (.cells #[.int .i64 0,.int .i64 0] 27));obtain⟨w3,hw3⟩:=gn (w2.alloc (.cells #[.int .i64 0,.int .i64 0] 27));rw[hw3]at y3 X0 X1 X2 |-;clear hw3;have c3:=(y3.out.cell (p:=⟨gb,ob,none⟩) HGB.out).trans HCB.out;have b1:(0:Int)<(n:Int)+1:=by omega
 gi_wp2_with fail
 refine⟨trivial,?_⟩;refine (Ah.2 (PT _ (HL.out.call y3.out)).out).mono ?_;rintro e w4 ⟨rfl,hb4⟩;have y4:=qx y3 hb4;obtain⟨X2l,X0,X1,X2,XD,y5⟩:=zf ((X2.out.call hb4).lt) ((X0.out.call hb4).alloc (.cells #[.bool d0,.int .i64 v0,.int .i64 u0] 62)) ((X1.out.call hb4).alloc (.cells #[.bool d0,.int .i64 v0,.int .i64 u0] 62)) ((X2.out.call hb4).alloc (.cells #[.bool d0,.int .i64 v0,.int .i64 u0] 62)) (Blk.new w4 #[.bool d0,.int .i64 v0,.int .i64 u0] 62) (y4.out.alloc y4.out.size (.cells #[.bool d0,.int .i64 v0,.int .i64 u0] 62));have k1:=X1.out.cell 0;have k2:=X1.out.free 0;simp at k1;clear hb4 c3 b1
 gi_wp2_with fail
 obtain⟨D1,hD1⟩:=gn (w4.heap.size);rw[hD1]at XD X2l |-;obtain⟨B6,Z0,Z1,Z2,ZD⟩:=zd (y5.out.setCell (p:=⟨w.heap.size+1,0,none⟩) (Fm _) (.bool d0)) (X0.out.other (a:=⟨w.heap.size+1,0,none⟩) (by simp) (.bool d0)) (X1.out.set 0 (.bool d0)) (X2.out.other (a:=⟨w.heap.size+1,0,none⟩) (by simp) (.bool d0)) (XD.out.other (a:=⟨w.heap.size+1,0,none⟩) (by have:=X2l.out;simp;omega) (.bool d0));obtain⟨W6,hW6⟩:=gn ((w4.alloc (.cells #[.bool d0,.int .i64 v0,.int .i64 u0] 62)).setCell ⟨w.heap.size+1,0,none⟩ (.bool d0));rw[hW6]at B6 Z0 Z1 Z2 ZD |-;clear hW6 X0 X1 X2 XD k1 k2 hD1;refine⟨trivial,?_⟩;refine (Ah.2 (PCL _ (HV.out.call B6.out)).out).mono ?_;rintro e w7 ⟨⟨g9,cap,rfl,hown⟩,hb7⟩;have F0:Hid (FsI w.heap.size g9 cap w W6 n D1 r c bs d0 (.bool d0,.int .i64 v0,.int .i64 u0) 0 0 w7):=by
  refine⟨Z0.out.call hb7,?_,Z2.out.call hb7,?_,ZD.out.call hb7,a0a B6.out hb7,hb7.size⟩
  .have h:=Z1.out.call hb7;rw[Du];show Blk _ _ #[.bool (d0 && true)] _
   rw[Bool.and_true];simpa using h
  .rw[u0T];exact hown
 obtain⟨l26,lD6⟩:=zu Z2.out.lt ZD.out.lt;clear hb7 hown Z0 Z1 Z2 ZD
 gi_wp2_with fail
 gi_loopw [17,18,19,51] (fun s17 s18 s19 s51 wr=>∃ i:Nat,s51=.int .i64 (i:Nat)/\i<=n/\Hid (FsI w.heap.size g9 cap w W6 n D1 r c bs d0 (.bool d0,.int .i64 v0,.int .i64 u0) i i wr)) (fun s17 s18 s19 s51 wr=>n-(intOf s51).toNat)
 case atStart=>exact⟨0,rfl,K5 _,F0⟩
 case round=>
  clear F0;obtain⟨i,rfl,hi',hI⟩:=hrel;by_cases hlt:i<n
  .obtain⟨x,hx⟩:∃ x,c[i]?=some x:=⟨_,Q0 (by rw[HN.out];exact hlt)⟩;obtain⟨bi,hbi⟩:∃ x,bs[i]?=some x:=⟨_,Q0 (by rw[HBL.out,HN.out];exact hlt)⟩;obtain⟨gb2,ob2,e2,-,hc2⟩:=P3.out (i+1) bi (by rw[Ks];exact hbi);simp only[Az,Hs,and_true]at e2;obtain⟨rfl,rfl⟩:=e2;have c1:=(hI.out.bel.cell (p:=⟨gb,ob+(i+1),none⟩) HGB.out).trans hc2;have hn256:=HN256.out;have f0:=qw i
   have f1:(i:Int)<(n:Int):=by omega
   have wi:=qy i (by omega)
   have PNi:=fun V hV=>PN V bi (U7 hbi) hV
   have hvb:=e0N r bi (HSZ.out bi (List.mem_of_getElem? hbi));have hxr:=HOK.out.rng x (List.mem_of_getElem? hx);have hdn:=o0o (r:=r) hbi;have hnx:=u0U (r:=r) HBL.out hx hbi;have hat:=b1d (r:=r) HBL.out hx;obtain⟨T,hT⟩:=gn (wT r bi);obtain⟨ge2,hge2⟩:=gn (gE r bi);simp only[hT,hge2]at PNi;rw[hT]at hvb hdn hnx;obtain⟨d,v1,u1⟩:=T;simp only[d3]at PNi;dsimp only at hvb hdn hnx;have wx:IntKind.i64.wrap (x+v1)=x+v1:=by rw[IntWalk.i64_in _ ⟨by omega,by omega⟩]
   obtain⟨HDN,HNX,HAT,HLT⟩:=zc hdn hnx hat hlt;clear hx hbi hc2 hvb hxr hdn hnx hat hT hge2 hi' hlt hn256
   gi_wp2_with fail
   refine⟨trivial,?_⟩;refine (Ah.2 (PNi _ (HL.out.call hI.out.bel)).out).mono ?_;rintro e w8 ⟨rfl,hb8⟩;obtain⟨I8,XB,lt8⟩:=zg ((hI.out.call hb8).call ((J4 w8.heap.size w8).alloc nr (.cells #[.bool d,.int .i64 v1,.int .i64 u1] 62))) (Blk.new w8 #[.bool d,.int .i64 v1,.int .i64 u1] 62) (show w8.heap.size > g9/\w8.heap.size > w.heap.size+1 from⟨(e0c (a0C hI.out.own hb8)).2.1,((hI.out.call hb8).r1).lt⟩);clear hb8 c1;obtain⟨o1,o2,o3,o4,-,-,-⟩:=e0c I8.out.own;have m0:=o4 i _ (w0b HAT.out);have m1:=o3 i;have m2:=XB.out.cell 1;have m3:=XB.out.cell 0;simp at m2 m3;clear o1 o2 o3 o4
   gi_wp2_with fail
   gi_region
   obtain⟨J9,XB9⟩:=zu ((I8.out.set9 (x+v1) HNX.out nr l26.out lD6.out).call br0.drew) ((XB.out.other (a:=⟨g9,i,none⟩) (by have:=lt8.out;simp;omega) (.int .i64 (x+v1))).call br0.drew);obtain⟨w9,hw9⟩:=gn (((w8.alloc (.cells #[.bool d,.int .i64 v1,.int .i64 u1] 62)).setCell ⟨g9,i,none⟩ (.int .i64 (x+v1))).drew);rw[hw9]at J9 XB9 |-;clear hw9 m0 m1 m2 m3;obtain⟨q,hq⟩:=gn ((d0 && dnL r (bs.take i)));have m0:=J9.out.r1.cell 0;have m1:=J9.out.r1.free 0;have m3:=XB9.out.cell 0;simp at m0 m3;rw[hq]at m0;have HQ2:Hid ((d0 && dnL r (bs.take (i+1)))=(q && d)):=by
    show _=_
    rw[HDN.out,<- Bool.and_assoc,hq]
   clear hq;cases q
   .gi_wp2_with fail
    go_roundw
    case rel=>exact⟨i+1,by go_num,HLT.out,J9.out.set1 false HQ2.out nr l26.out X2l.out⟩
    case measure=>simp[intOf]<;>(have:=HLT.out;omega)
   .gi_wp2_with fail
    go_roundw
    case rel=>exact⟨i+1,by go_num,HLT.out,J9.out.set1 d (HQ2.out.trans (Dn d)) nr l26.out X2l.out⟩
    case measure=>simp[intOf]<;>(have:=HLT.out;omega)
  .obtain rfl:i=n:=by omega
   have hnl:bs.take i=bs:=E7 (by rw[HBL.out,HN.out];exact O4 _);have hI1:=hI.out.r1;rw[hnl]at hI1;have hne:nzP r c bs i=nzL r c bs:=by rw[<- HN.out];exact y0p HBL.out
   have hrow:Row wr (.slice (some ⟨g9,0,none⟩) i cap) (zs (nzL r c bs)):=by rw[<- hne];exact Row.of_owns hI.out.own
   have HROW:=hid hrow;obtain⟨q,hq⟩:=gn ((d0 && dnL r bs));rw[hq]at hI1;have HZ2:=HZ.out;rw[hq]at HZ2;have e0:=hI1.cell 0;have e1:=hI1.free 0;have e2:=hI.out.r0.cell 0;have e3:=hI.out.r0.free 0;have e4:=hI.out.r2.cell 0;have e5:=hI.out.r2.free 0;simp at e0 e2 e4;have q1:decide ((i:Int)<(i:Int))=false:=by simp
   have HI1:=hid hI1;clear hlt hi' hnl hne hrow hq hI1;cases q
   .have hz:z=(0,false):=by rw[<- HZ2];rfl
    have HZZ:=hid hz;clear HZ2 hz
    gi_wp2_with fail
    have p0:=(((hI.out.r0.set 0 (.int .i64 0)).other (a:=⟨w.heap.size+1,0,none⟩) (by simp) (.bool false)).other (a:=⟨w.heap.size+1+1,0,none⟩) (by simp<;>omega) (.int .i64 0)).cell 0;have p1:=(((HI1.out.other (a:=⟨w.heap.size,0,none⟩) (by simp) (.int .i64 0)).set 0 (.bool false)).other (a:=⟨w.heap.size+1+1,0,none⟩) (by simp) (.int .i64 0)).cell 0;have p2:=(((hI.out.r2.other (a:=⟨w.heap.size,0,none⟩) (by simp<;>omega) (.int .i64 0)).other (a:=⟨w.heap.size+1,0,none⟩) (by simp) (.bool false)).set 0 (.int .i64 0)).cell 0;simp at p0 p1 p2;refine r0X (v:=.tuple #[.int .i64 0,.bool false,.int .i64 0]) (by simp[results,results29,go_sem,p0,p1,p2]) ⟨by rw[HZZ.out],?_⟩;exact ((hI.out.bel.setCell (by simp) _).setCell (by simp) _).setCell (by simp<;>omega) _
   .have hz:z=fsV i (some (f0T (thr+v0) (nzL r c bs))):=by rw[<- HZ2];rfl
    have HZZ:=hid hz;have x1:=hI.out.x.cell 1;simp at x1;have wt:IntKind.i64.wrap (thr+v0)=thr+v0:=by have:=HTH.out;have:=HV0.out;rw[U0 _ ⟨by omega,by omega⟩]
    have hln:(nzL r c bs).length=i:=by rw[c0X HBL.out,HN.out]
    have HLN:=hid hln;clear HZ2 hz q1 hln
    gi_wp2_with fail
    refine⟨trivial,?_⟩;refine (Ah.2 (x0s _ _ _ _ _)).mono ?_;rintro e w' ⟨rfl,rfl⟩
    gi_wp2_with fail
    obtain⟨W0,hW0⟩:=gn ((wr.alloc (.cells #[.slice (some ⟨g9,0,none⟩) i cap] 22)).alloc (.cells #[.int .i64 (thr+v0)] 3));have d0:Below wr.heap.size wr W0:=by rw[<- hW0];exact (br0.alloc nr _).alloc (by simp) _
    have d1:Blk W0 wr.heap.size #[.slice (some ⟨g9,0,none⟩) i cap] 22:=by rw[<- hW0];exact (Blk.new wr _ _).alloc _
    have d2:Blk W0 (wr.heap.size+1) #[.int .i64 (thr+v0)] 3:=by rw[<- hW0];exact Blk.made _ _ _ (by simp)
    rw[hW0];obtain⟨E0,E1,E2,B0,RW,Y1,Y2⟩:=kx (hI.out.r0.call d0) (HI1.out.call d0) (hI.out.r2.call d0) (a0a hI.out.bel d0) (HROW.out.call d0) d1 d2;obtain⟨B,hB⟩:=gn (wr.heap.size);rw[hB]at Y1 Y2 |-;obtain⟨hh,hhh⟩:=gn (f0T (thr+v0) (nzL r c bs));rw[hhh]at HZZ;obtain⟨HHH,LG⟩:=zu hhh E2.out.lt;clear d0 d1 d2 hW0 hB hhh e0 e1 e2 e3 e4 e5 x1 wt;have hread:∀ W1 W2,Below W0.heap.size W0 W1->KpC W0.heap.size W1 W2->W2.cell? ⟨B,0,none⟩=some (.slice (some ⟨g9,0,none⟩) i cap)/\W2.cell? ⟨B+1,0,none⟩=some (.int .i64 (thr+v0))/\Row W2 (.slice (some ⟨g9,0,none⟩) i cap) (zs (nzL r c bs)):=fun W1 W2 b1 b2=>by
     have b3:Below W0.heap.size W0 W2:=b1.trans (b2.rest b1.size);exact⟨(Y1.out.call b3).cell 0,(Y2.out.call b3).cell 0,RW.out.call b3⟩
    refine c0T (hM:=fun _ _ _=>trivial) (by omega) (gf:=186) (lb:=#[.pointer (some ⟨B,0,none⟩),.pointer (some ⟨B+1,0,none⟩)]) rfl (Cw func186 (by kernel_rfl) rfl)
     (p0C (Kp:=KpC W0.heap.size) 8 (by omega) W0 B (B+1) (.slice (some ⟨g9,0,none⟩) i cap) (nzL r c bs) (thr+v0) (by rw[HLN.out];exact HN256.out) (KpC.refl _) KpC.trans hread (fun _ _=>KpC.of_below)) KpC.trans (KpC.put nr) br0 (fun _=>rfl)
     (fun p W=>(p = []/\Blk W w.heap.size #[.int .i64 0] 3/\Blk W (w.heap.size+1) #[.bool true] 4/\Blk W (w.heap.size+1+1) #[.int .i64 0] 27)/\Below w.heap.size w W)
     (fun c p W=>(c=.ret/\hh<i/\Blk W w.heap.size #[.int .i64 (hh:Nat)] 3/\Blk W (w.heap.size+1) #[.bool true] 4/\Blk W (w.heap.size+1+1) #[.int .i64 0] 27)/\Below w.heap.size w W)
     (Jl (fun s X Y row hs hg hr=>⟨hs.1,hs.2.1.kept hg (fun r e=>(hr r e).2),hs.2.2.1.kept hg (fun r e=>(hr r e).2),hs.2.2.2.kept hg (fun r e=>(hr r e).2)⟩) (Hm nr (by have:=LG.out;omega)))
     (fun c=>Jl (fun s X Y row hs hg hr=>⟨hs.1,hs.2.1,hs.2.2.1.kept hg (fun r e=>(hr r e).2),hs.2.2.2.1.kept hg (fun r e=>(hr r e).2),hs.2.2.2.2.kept hg (fun r e=>(hr r e).2)⟩) (Hm nr (by have:=LG.out;omega)))
     ⟨⟨rfl,E0.out,E1.out,E2.out⟩,B0.out⟩ ?act ?assign ?body ?done ?stop
    case assign=>
     intro l x W K hK
     gi_wp2
     exact hK
    case body=>
     rintro l p x W hOk ⟨⟨rfl,r0,r1,r2⟩,hB⟩;obtain⟨hx,hlt⟩:=hOk rfl;rw[HHH.out]at hx hlt;rw[HLN.out]at hlt;subst hx;have e0:=r0.cell 0;have e1:=r0.free 0;have e2:=r1.cell 0;have e3:=r1.free 0;have e4:=r2.cell 0;have e5:=r2.free 0;simp at e0 e2 e4;obtain⟨R0,R1,R2,HB2,HLT⟩:=zd r0 r1 r2 hB hlt;clear r0 r1 r2 hB hlt hOk
     gi_wp2_with fail
     refine⟨(((Ai _ _ _).trans (Ai _ _ _)).trans (Ai _ _ _)).from _,⟨rfl,HLT.out,?_,?_,?_⟩,?_⟩
     .exact ((R0.out.set 0 _).other (by simp) _).other (by simp<;>omega) _
     .exact ((R1.out.other (by simp) _).set 0 _).other (by simp) _
     .exact ((R2.out.other (by simp<;>omega) _).other (by simp) _).set 0 _
     .exact ((HB2.out.setCell (by simp) _).setCell (by simp) _).setCell (by simp<;>omega) _
    case done=>
     rintro D' xs W hD hS ⟨⟨hx,r0,r1,r2⟩,hB⟩ hK;have hz:=hS hx;rw[HHH.out,HLN.out]at hz;have HZ3:Hid (z=(-1,true)):=by
      show z=_
      rw[HZZ.out];unfold fsV;dsimp only;rw[if_pos hz]
     have e0:=r0.cell 0;have e1:=r0.free 0;have e2:=r1.cell 0;have e3:=r1.free 0;have e4:=r2.cell 0;have e5:=r2.free 0;simp at e0 e2 e4;obtain⟨R0,R1,R2,HB2,HK,HDD⟩:=zf r0 r1 r2 hB hK hD;clear r0 r1 r2 hB hx hS hz hK hD
     gi_wp2_with fail
     have q1:=((R0.out.set 0 (.int .i64 (-1))).other (a:=⟨w.heap.size+1,0,none⟩) (by simp) (.bool true)).other (a:=⟨w.heap.size+1+1,0,none⟩) (by simp<;>omega) (.int .i64 0);have q2:=((R1.out.other (a:=⟨w.heap.size,0,none⟩) (by simp) (.int .i64 (-1))).set 0 (.bool true)).other (a:=⟨w.heap.size+1+1,0,none⟩) (by simp) (.int .i64 0);have q3:=((R2.out.other (a:=⟨w.heap.size,0,none⟩) (by simp<;>omega) (.int .i64 (-1))).other (a:=⟨w.heap.size+1,0,none⟩) (by simp) (.bool true)).set 0 (.int .i64 0);have hk3:=((((Ai W ⟨w.heap.size,0,none⟩ (.int .i64 (-1))).trans (Ai _ ⟨w.heap.size+1,0,none⟩ (.bool true))).trans (Ai _ ⟨w.heap.size+1+1,0,none⟩ (.int .i64 0)))).same D' _ HK.out rfl;have p1:=(q1.put hk3 (.deferred none)).cell 0;have p2:=(q2.put hk3 (.deferred none)).cell 0;have p3:=(q3.put hk3 (.deferred none)).cell 0;simp at p1 p2 p3;have h9:=HDD.out;have h8:=LG.out;refine b0X hk3 (v:=.tuple #[.int .i64 (-1),.bool true,.int .i64 0]) (by simp[results,results29,go_sem,p1,p2,p3]) ⟨by rw[HZ3.out],?_⟩;exact (((HB2.out.setCell (by simp) _).setCell (by simp) _).setCell (by simp<;>omega) _).trans (Lj (w:=w) nr _ D' _ _ (by omega) hk3 rfl rfl)
    case stop=>
     rintro D' c p W hD-⟨⟨rfl,hlt,r0,r1,r2⟩,hB⟩ hK;have HZ3:Hid (z=((hh:Int),true)):=by
      show z=_
      rw[HZZ.out];unfold fsV;dsimp only;rw[if_neg (by omega)]
     have p1:=(r0.put hK (.deferred none)).cell 0;have p2:=(r1.put hK (.deferred none)).cell 0;have p3:=(r2.put hK (.deferred none)).cell 0;simp at p1 p2 p3;obtain⟨HB2,HK,HDD⟩:=zg hB hK hD;clear r0 r1 r2 hB hlt hK hD
     gi_wp2_with fail
     have h9:=HDD.out;have h8:=LG.out;refine b0X HK.out (v:=.tuple #[.int .i64 (hh:Nat),.bool true,.int .i64 0]) (by simp[results,results29,go_sem,p1,p2,p3]) ⟨by rw[HZ3.out],?_⟩;exact HB2.out.trans (Lj (w:=w) nr _ D' _ _ (by omega) HK.out rfl rfl)
def n0p (w:World)(v u:Value)(c:List Int)(thr:Int)(a r:ByteArray)(b:List ByteArray)(hv:Row w v (zs c))(hu:Row w u (i0i b))(ha:a.size<=100000)(hr:r.size<=100000)(hb:∀ x∈b,x.size<=100000000)(hL:Lay w):
 qb 29 #[v,.int .i64 thr,.string a,.string r,u] w (.tuple #[.int .i64 (fsA c thr a r b).1,.bool (fsA c thr a r b).2,.int .i64 (fsE c thr a r b)]):=by
 by_cases h0:fsE c thr a r b=0
 .cases b with
  | nil=>exact absurd (o0g h0).len (by simp)
  | cons b0 bs=>
   rw[h0];exact l0X w v u c thr a r b0 bs hv hu ha hr hb hL h0
 .exact k0A w v u c thr a r b hv hu ha hr hb hL h0
theorem MRow.nilP (w:World):MRow w (.slice none 0 0) []:=MRow.nil w
def w0k (w:World)(v:Value)(c:List Int)(thr:Int)(a r:ByteArray)(n:Int)(hv:Row w v (zs c))(ha:a.size<=100000)(hr:r.size<=100000)(hL:LayB w):
 Calls prog 37 #[v,.int .i64 thr,.string a,.string r,.int .i64 n] w fun e w'=>(∃ u,e=.returned (.tuple #[u,.int .i64 (slE c thr a r n)])/\MRow w' u (slR c thr a r n))/\Below w.heap.size w w':=by
 by_cases h0:slE c thr a r n=0
 .have hE:=h0;unfold slE at h0
  split at h0
  .rename_i h1;exact absurd h0 h1
  .rename_i h1
   split at h0
   .cases h0
   .rename_i h2
    split at h0
    .cases h0
    .rename_i h3
     obtain⟨m,rfl⟩:∃ m:Nat,n=(m:Nat):=⟨n.toNat,by omega⟩;rw[hE];have e2:slR c thr a r (m:Nat)=a0p (sqD (gV (bN (cW a)) (bN (qD a)) true m) (gV (bN (cW r)) (bN (qD r)) true m) m thr c):=by unfold slR;rw[J3 hE,Ao]
     rw[e2];refine q0H w v c thr a r m hv ha hr (Ak h1) (by omega) ?_ hL;have:¬ (256:Int)<((m*(c.length+1):Nat):Int):=by rwa[Bp,Ee]
     omega
 .have e2:slR c thr a r n = []:=J2 h0;rw[e2];have HQ:=fun V hV hLV=>hid (d0j V v c thr a r hV ha hr hLV)
  obtain⟨HV,HL⟩:=zu hv hL;obtain⟨s,cp,rfl,q1,q2,q3⟩:=hv.openZ;obtain⟨L,hLL⟩:=gn (c.length);unfold slE at h0 |-;obtain⟨z,hz⟩:=gn (g0p c thr a r);have hz0:=hz;simp only[hz]at HQ;rw[hz]at h0 |-;rw[hLL]at HV h0 q1 |-;simp only[hLL]at HQ;have A1:=hid ((J4 w.heap.size w).alloc nr (.cells #[.string a,.string r] 116));by_cases c0:z=0
  case' neg=>
   rw[J3 c0];have t0':(z != 0)=true:=by simpa using c0
   clear hv q3 hLL hz hz0 h0 c0 ha hr hL
  rotate_left
  simp only[c0]at HQ;rw[J2 (by rw[c0];simp)]at h0 |-;by_cases c1:n<0\/32<n
  focus
   rw[J3 c1];obtain⟨p,hp⟩:=gn (decide (n<0));obtain⟨q,hq⟩:=gn (decide (32<n));have hpq:(p || q)=true:=by rw[<- hp,<- hq];simpa using c1
   clear hv q3 hLL hz hz0 h0 c0 c1 ha hr hL;cases p
   focus
    obtain rfl:q=true:=by simpa using hpq
    clear hpq
   rotate_left
   focus
    clear hpq hq
  rotate_left 2
  focus
   rw[J2 c1]at h0 |-;obtain⟨-,k2,-⟩:=i0k (hz0.trans c0);rw[hLL]at k2;obtain⟨m,rfl⟩:∃ m:Nat,n=(m:Nat):=⟨n.toNat,by omega⟩;by_cases c2:256<((m:Nat):Int)*(((L:Nat):Int)+1)
   focus
    rw[J3 c2];have t1:decide ((m:Int)<0)=false:=by simp
    have t2:decide ((32:Int)<(m:Int))=false:=by simp;omega
    obtain⟨L1,hL1⟩:∃ L1,L1=L+1:=⟨_,rfl⟩;have wl:IntKind.i64.wrap ((L:Int)+1)=(L1:Int):=by rw[U0 _ ⟨by omega,by omega⟩];omega
    have e1:((L:Nat):Int)+1=(L1:Int):=by omega
    rw[e1]at c2;obtain⟨M,hM⟩:∃ M:Int,(m:Int)*(L1:Int)=M:=⟨_,rfl⟩;have hM2:M<=100000:=by
     rw[<- hM];have h5:m*L1<=32*257:=Ar (by omega) (by omega);have:((m*L1:Nat):Int)<=100000:=by omega
     rwa[Bp]at this
    rw[hM]at c2;have wm:IntKind.i64.wrap ((m:Int)*(L1:Int))=M:=by rw[hM,U0 _ ⟨by omega,by omega⟩]
    have t3:decide (256<M)=true:=Z7 c2;clear hv q3 hLL hz hz0 h0 c0 c1 c2 ha hr hL hM hM2 k2 e1 hL1
   rotate_left
   .rw[J2 c2]at h0;exact absurd rfl h0
  all_goals
   go_enter func37,ntmps37;go_wp2_with fail;refine ny (HQ _ (HV.out.call A1.out) (HL.out.call A1.out).l) fun w0 hb0=>?_;go_wp2_with fail;go_ret2
   exact⟨⟨_,rfl,MRow.nilP _⟩,a0a A1.out hb0⟩
end
section
def h12:ByteArray:=⟨#[49,47,50]⟩
def x11:ByteArray:=⟨#[49,49]⟩
def d1o:fsA [3,8,9] 5 h12 h12 [x11,x11,x11,x11]=(1,true)/\fsE [3,8,9] 5 h12 h12 [x11,x11,x11,x11]=0:=by decide +kernel
def k0g:a0p [((⟨#[108,97,116,101]⟩,⟨#[49,53,47,49,54]⟩):ByteArray×ByteArray),(⟨#[48]⟩,⟨#[49,47,49,54]⟩)] = [(⟨#[48]⟩,⟨#[49,47,49,54]⟩),(⟨#[108,97,116,101]⟩,⟨#[49,53,47,49,54]⟩)]:=by
 have h:=f0C (L:=[((⟨#[108,97,116,101]⟩,⟨#[49,53,47,49,54]⟩):ByteArray×ByteArray)]) (key:=⟨#[48]⟩) (p:=⟨#[49,47,49,54]⟩) (by decide) (by intro x hx;simp at hx;subst hx;decide) (List.pairwise_singleton _ _);have e:a0p [((⟨#[108,97,116,101]⟩,⟨#[49,53,47,49,54]⟩):ByteArray×ByteArray)] = [(⟨#[108,97,116,101]⟩,⟨#[49,53,47,49,54]⟩)]:=List.mergeSort_singleton _;rw[e]at h;refine Eq.trans h.symm ?_
 decide +kernel
def d1p:slE [5] 5 h12 h12 2=0/\slR [5] 5 h12 h12 2 = [(⟨#[48]⟩,⟨#[49,47,49,54]⟩),(⟨#[108,97,116,101]⟩,⟨#[49,53,47,49,54]⟩)]:=by
 have h:slE [5] 5 h12 h12 2=0:=by decide +kernel
 refine⟨h,?_⟩;unfold slR;rw[J3 h];have e:sqD (gV (bN (cW h12)) (bN (qD h12)) true (2:Int).toNat) (gV (bN (cW h12)) (bN (qD h12)) true (2:Int).toNat) (2:Int).toNat 5 [5] = [(⟨#[108,97,116,101]⟩,⟨#[49,53,47,49,54]⟩),(⟨#[48]⟩,⟨#[49,47,49,54]⟩)]:=by decide +kernel
 rw[e];exact k0g
open Go.Shelf
end
section
open Go.Shelf
def v0f (w:World)(L:List (ByteArray×ByteArray))(n:Nat)(hn:L.length=n)(hL:n<=1000):MRow (w.alloc (.cells (a0N L).toArray 42)) (.slice (some ⟨w.heap.size,0,none⟩) n n) L:=by
 subst hn;refine⟨some ⟨w.heap.size,0,none⟩,L.length,rfl,O4 _,by omega,fun i x h=>⟨w.heap.size,0,rfl,by simp,?_,?_⟩⟩
 .rw[F9,(Blk.new w _ _).cell,K6];exact (c0Z h).1
 .rw[F9,(Blk.new w _ _).cell,K6];exact (c0Z h).2
def u0p (w:World)(L:List Int)(n:Nat)(hn:L.length=n)(hL:n<=1000):Row (w.alloc (.cells (zs L).toArray 3)) (.slice (some ⟨w.heap.size,0,none⟩) n n) (zs L):=
 Row.of_blk (Blk.new w _ _) (by rw[zs_length];exact hn) (by unfold maxLen;omega) (fun i x h=>by rw[K6];exact h) nr (by unfold maxLen;omega)
def n0E (w:World)(L:List Int)(cs:Array Value)(n b:Nat)(hc:cs=(zs L).toArray)(hb:w.heap.size=b)(hn:L.length=n)(hL:n<=1000):Row (w.alloc (.cells cs 3)) (.slice (some ⟨b,0,none⟩) n n) (zs L):=by
 subst hc hb;exact u0p w L n hn hL
def u0q (w:World)(L:List ByteArray)(cs:Array Value)(n b:Nat)(hc:cs=(i0i L).toArray)(hb:w.heap.size=b)(hn:L.length=n)(hL:n<=1000):Row (w.alloc (.cells cs 26)) (.slice (some ⟨b,0,none⟩) n n) (i0i L):=by
 subst hc hb;exact Row.of_blk (Blk.new w _ _) (by rw[strs_length];exact hn) (by unfold maxLen;omega) (fun i x h=>by rw[K6];exact h) nr (by unfold maxLen;omega)
def q0h (w:World)(hL:LayB w):
 qb 28 #[] w (.bool true):=by
 have HL:=hid hL;have PP:=fun V v u hv hu hV=>hid (n0p V v u [3,8,9] 5 h12 h12 [x11,x11,x11,x11] hv hu (by decide) (by decide) (by decide) hV)
 have PL:=fun V v hv hV=>hid (w0k V v [5] 5 h12 h12 2 hv (by decide) (by decide) hV)
 rw[d1o.1,d1o.2]at PP;rw[d1p.1,d1p.2]at PL;unfold h12 x11 at PP;unfold h12 at PL;have PS:=fun V u v hu hv=>hid (s0h V u v [(⟨#[48]⟩,⟨#[49,47,49,54]⟩),(⟨#[108,97,116,101]⟩,⟨#[49,53,47,49,54]⟩)] [(⟨#[48]⟩,⟨#[49,47,49,54]⟩),(⟨#[108,97,116,101]⟩,⟨#[49,53,47,49,54]⟩)] hu hv)
 rw[Z7 rfl]at PS;clear hL;have A1:=(J4 w.heap.size w).alloc nr (.cells #[.int .i64 3,.int .i64 8,.int .i64 9] 3);obtain⟨A2,R1,R2⟩:=zg (A1.alloc A1.size (.cells #[.string ⟨#[49,49]⟩,.string ⟨#[49,49]⟩,.string ⟨#[49,49]⟩,.string ⟨#[49,49]⟩] 26)) ((n0E w [3,8,9] _ 3 w.heap.size rfl rfl rfl (by omega)).call (br0.alloc nr (.cells #[.string ⟨#[49,49]⟩,.string ⟨#[49,49]⟩,.string ⟨#[49,49]⟩,.string ⟨#[49,49]⟩] 26))) (u0q (w.alloc (.cells #[.int .i64 3,.int .i64 8,.int .i64 9] 3)) [⟨#[49,49]⟩,⟨#[49,49]⟩,⟨#[49,49]⟩,⟨#[49,49]⟩] _ 4 (w.heap.size+1) rfl (by simp) rfl (by omega));clear A1;go_enter func28,ntmps28;go_wp2_with fail;refine nw (PP _ _ _ R1.out R2.out (HL.out.call A2.out).l) A2 fun w1 y1=>?_;go_wp2_with fail;obtain⟨A3,R3⟩:=zu ((J4 w1.heap.size w1).alloc nr (.cells #[.int .i64 5] 3)) (n0E w1 [5] _ 1 w1.heap.size rfl rfl rfl (by omega));refine nu (PL _ _ R3.out (HL.out.call (a0a y1.out A3.out))) fun u w2 hu hb2=>?_;obtain⟨y2,U2⟩:=zu (a0a y1.out (a0a A3.out hb2)) hu;obtain⟨a2,k2,rfl,-,-,-⟩:=hu.ex;clear hb2 hu;obtain⟨A4,R4⟩:=zu ((J4 w2.heap.size w2).alloc nr (.cells #[.string ⟨#[48]⟩,.string ⟨#[49,47,49,54]⟩,.string ⟨#[108,97,116,101]⟩,.string ⟨#[49,53,47,49,54]⟩] 42)) (v0f w2 [(⟨#[48]⟩,⟨#[49,47,49,54]⟩),(⟨#[108,97,116,101]⟩,⟨#[49,53,47,49,54]⟩)] 2 rfl (by omega));go_wp2_with fail;refine ny (PS _ _ _ (U2.out.call A4.out) R4.out) fun w3 hb3=>?_;go_wp2_with fail;go_ret
 exact⟨rfl,a0a y2.out (a0a A4.out hb3)⟩
def o0a {w:World}{b:Nat}{m0:Bool}{a0 b0:Option Addr}{n0 c0 n1 c1:Nat}{t:TypeId}(hb:Blk w b #[.bool m0,.slice a0 n0 c0,.slice b0 n1 c1] t)(m:Bool)(a a':Option Addr)(n c n' c':Nat){v:Value}{q:Rat}(h:IsQ .u64 w v q):
 IsQ .u64 (((w.setCell ⟨b,0,none⟩ (.bool m)).setCell ⟨b,1,none⟩ (.slice a n c)).setCell ⟨b,2,none⟩ (.slice a' n' c')) v q:=by
 obtain⟨N,D,rfl,h1,h2⟩:=h.ex;have hs:=(c0C hb m a a' n c n' c').1;exact⟨N,D,rfl,hs _ _ _ h1,hs _ _ _ h2⟩
def b1N (w:World)(s:ByteArray)(hs:s.size<=1000000)(hq:qE s=0)(hL:Lay w):
 Calls prog 113 #[.string s] w fun e w'=>f0E .u64 (vQ s) e w'/\Below w.heap.size w w':=by
 have HP:=fun V hV=>hid (j0R V s hs hV)
 rw[hq]at HP;obtain⟨HQ,HL,A0,X0⟩:=zc hq hL ((J4 w.heap.size w).alloc nr (.cells #[.bool false,.slice none 0 0,.slice none 0 0] 126)) (Blk.new w #[.bool false,.slice none 0 0,.slice none 0 0] 126);clear hs hq hL;go_enter func113,ntmps113;go_wp2_with fail;refine (HP _ (HL.out.call A0.out)).out.mono ?_;rintro e w1 ⟨⟨v1,rfl,hv1,-⟩,hb1⟩;have iq:=s0l HQ.out (hv1 rfl);obtain⟨m1,a1,n1,c1,a2,n2,c2,rfl⟩:=iq.qv;have X1:=hid (X0.out.call hb1);have y1:=qx A0 hb1;obtain⟨A1,Z1⟩:=zu ((J4 w1.heap.size w1).alloc nr (.cells #[.bool m1,.slice a1 n1 c1,.slice a2 n2 c2] 126)) (Blk.new w1 #[.bool m1,.slice a1 n1 c1,.slice a2 n2 c2] 126);have X2:=hid (X1.out.call A1.out);have y2:=qx y1 A1.out;have Q2:=hid (iq.call A1.out);clear hb1 hv1 X1 y1 iq;obtain⟨d0,d1,d2⟩:=qz X2.out;obtain⟨e0,e1,e2⟩:=qq X2.out;obtain⟨g0,g1,g2⟩:=qz Z1.out;go_wp2_with fail;obtain⟨s1,s2⟩:=c0C X2.out m1 a1 a2 n1 c1 n2 c2;obtain⟨f0,f1,f2⟩:=qz s2;refine C7 (v:=.agg #[.bool m1,.slice a1 n1 c1,.slice a2 n2 c2]) (by simp[results,results113,go_sem,f0,f1,f2]) rfl ⟨⟨_,rfl,o0a X2.out m1 a1 a2 n1 c1 n2 c2 Q2.out⟩,?_⟩;exact ((y2.out.setCell nr _).setCell nr _).setCell nr _
def c1X (w:World)(v:Value)(hv:IsN .u64 w v 1):Calls prog 196 #[v] w fun e w'=>f0E .u64 1 e w'/\Below w.heap.size w w':=by
 obtain⟨V0,A0,X0⟩:=zg hv ((J4 w.heap.size w).alloc nr (.cells #[.bool false,.slice none 0 0,.slice none 0 0] 126)) (Blk.new w #[.bool false,.slice none 0 0,.slice none 0 0] 126);obtain⟨a1,c1,rfl,_⟩:=hv.openI;obtain⟨k1,hk1⟩:=gn ((limbs 1).length);rw[hk1]at V0 |-;clear hv;go_enter func196,ntmps196;go_wp2_with fail;refine ng (c1C _ 1 (by omega)) fun v1 w1 hv1 hb1=>?_;obtain⟨a3,c3,rfl,_⟩:=hv1.openI;rw[hk1]at hv1 |-;obtain⟨HV,V1,HB⟩:=zg hv1 ((V0.out.call A0.out).call hb1) (X0.out.call hb1);obtain⟨d0,d1,d2⟩:=qz HB.out;obtain⟨e0,e1,e2⟩:=qq HB.out;have HBB:=qx A0 hb1;clear hb1 hv1;go_wp2_with fail;obtain⟨s1,s2⟩:=c0C HB.out false a1 a3 k1 c1 k1 c3;obtain⟨f0,f1,f2⟩:=qz s2;refine C7 (v:=.agg #[.bool false,.slice a1 k1 c1,.slice a3 k1 c3]) (by simp[results,results196,go_sem,f0,f1,f2]) rfl ⟨⟨_,rfl,⟨.slice a1 k1 c1,.slice a3 k1 c3,rfl,s1 _ _ _ V1.out,s1 _ _ _ HV.out⟩⟩,?_⟩;exact ((HBB.out.setCell nr _).setCell nr _).setCell nr _
def c1W (w:World):Calls prog 116 #[] w fun e w'=>f0E .u64 1 e w'/\Below w.heap.size w w':=by
 obtain⟨A0,X0⟩:=zu ((J4 w.heap.size w).alloc nr (.cells #[.bool false,.slice none 0 0,.slice none 0 0] 126)) (Blk.new w #[.bool false,.slice none 0 0,.slice none 0 0] 126);go_enter func116,ntmps116;go_wp2_with fail;refine ng (c1C _ 1 (by omega)) fun v1 w1 hv1 hb1=>?_;have V1:=hid hv1;have y1:=qx A0 hb1;have X1:=hid (X0.out.call hb1);obtain⟨a1,c1,rfl,_⟩:=hv1.openI;clear hb1 hv1 A0 X0;go_wp2_with fail;refine ng (c1X _ _ V1.out) fun v2 w2 hv2 hb2=>?_;obtain⟨m2,a2,n2,c2,b2,d2',e2',rfl⟩:=hv2.qv;have Q2:=hid hv2;have y2:=qx y1 hb2;have X2:=hid (X1.out.call hb2);clear hb2 hv2;obtain⟨d0,d1,d2⟩:=qz X2.out;obtain⟨e0,e1,e2⟩:=qq X2.out;go_wp2_with fail;obtain⟨s1,s2⟩:=c0C X2.out m2 a2 b2 n2 c2 d2' e2';obtain⟨f0,f1,f2⟩:=qz s2;refine C7 (v:=.agg #[.bool m2,.slice a2 n2 c2,.slice b2 d2' e2']) (by simp[results,results116,go_sem,f0,f1,f2]) rfl ⟨⟨_,rfl,o0a X2.out m2 a2 b2 n2 c2 d2' e2' Q2.out⟩,?_⟩;exact ((y2.out.setCell nr _).setCell nr _).setCell nr _
def v0K {q:Rat}(h:¬ ovQ q):Dig 4000 q:=by
 unfold ovQ at h;have e1:nDigits q.num.natAbs<=4000:=by omega
 have e2:nDigits q.den<=4000:=by omega
 obtain⟨K,hK⟩:∃ K,K=4000:=⟨_,rfl⟩;rw[<- hK]at e1 e2 |-;exact⟨J7 (Ch _) (J6 (by decide) e1),J7 (Ch _) (J6 (by decide) e2)⟩
def q0I (w:World)(s:ByteArray)(hs:s.size<=1000000)(hL:Lay w):
 qb 35 #[.string s] w (.tuple #[.string (hlB s),.int .i64 (hlE s)]):=by
 have HC:=hid (a1U w s t1 hs (by decide) hL);unfold t1 at HC;by_cases hq:qE s=0
 focus
  have hcE:cmE s ⟨#[49]⟩=0:=by unfold cmE;rw[J3 hq];exact p0m
  have hcB:cmB s ⟨#[49]⟩=g0f (vQ s) 1:=by unfold cmB;rw[J3 ⟨hq,p0m⟩];exact congrArg _ q0l
  rw[hcE,hcB]at HC;by_cases hlt:g0f (vQ s) 1<0
  focus
   have eE:hlE s=2:=by unfold hlE;rw[J2 (by simpa using hq),J3 hlt]
   have eB:hlB s=⟨#[]⟩:=w0K (by rw[eE];decide);rw[eE,eB];obtain⟨z,hz⟩:=gn (g0f (vQ s) 1);rw[hz]at HC hlt;have t0:decide (z<0)=true:=Z7 hlt;clear hs hL hq hcE hcB hlt eE eB hz
  rotate_left
  .have h1:1<=vQ s:=n0S hlt;have eE:hlE s=c0p (hfQ (vQ s)):=by unfold hlE;rw[J2 (by simpa using hq),J2 hlt]
   have eB:hlB s=c0b (hfQ (vQ s)):=by unfold hlB;rw[J3 ⟨hq,hlt⟩]
   rw[eE,eB];have d0:=v0K (d0C hq);have d2:Dig 8001 (vQ s+vQ s):=m0J d0 d0;have d3:Dig 4002 (vQ s+1):=m0J d0 m0I;have hne:vQ s+1≠0:=by grind
   have d4:Dig 12003 (hfQ (vQ s)):=by unfold hfQ;rw[Rat.div_def];exact s0W d2 (z0b hne d3)
   have b0:=d0.limbs (L:=100000) (by omega) (by omega);have b1:=(m0I).limbs (L:=100000) (by omega) (by omega);have b2:=d2.limbs (L:=100000) (by omega) (by omega);have b3:=d3.limbs (L:=100000) (by omega) (by omega);have b4:=d4.limbs (L:=100000) (by omega) (by omega);have HM:=fun V hV=>hid (b1N V s hs hq hV)
   have HA:=fun V v u hv hu=>hid (v0A V v u (vQ s) (vQ s) hv hu b0.1 b0.2 b0.1 b0.2)
   have HO:=fun V=>hid (c1W V)
   have HB:=fun V v u hv hu=>hid (v0A V v u (vQ s) 1 hv hu b0.1 b0.2 b1.1 b1.2)
   have HD:=fun V v u hv hu=>hid (c1Z V v u (vQ s+vQ s) (vQ s+1) hv hu hne b2.1 b2.2 b3.1 b3.2)
   have HN:=fun V v hv hV=>hid (s0F V v (hfQ (vQ s)) hv (J0 b4.1 (by omega)) (J0 b4.2 (by omega)) hV)
   have hhf:(vQ s+vQ s) / (vQ s+1)=hfQ (vQ s):=rfl;rw[hhf]at HD;have HL:=hid hL;obtain⟨z,hz⟩:=gn (g0f (vQ s) 1);rw[hz]at HC hlt;have t0:decide (z<0)=false:=Z6 hlt;obtain⟨q,hqq⟩:=gn (vQ s);rw[hqq]at HM HA HB HD HN |-;obtain⟨OB,hOB⟩:=gn (c0b (hfQ q));obtain⟨OE,hOE⟩:=gn (c0p (hfQ q));rw[hOB,hOE]at HN |-;clear hs hL hq hcE hcB hlt h1 eE eB d0 d2 d3 d4 hne b0 b1 b2 b3 b4 hhf hz hqq hOB hOE;go_enter func35,ntmps35;go_wp2_with fail;refine nz HC fun w1 y1=>?_;go_wp2_with fail;refine nu (HM _ (HL.out.call y1.out)) fun v2 w2 hv2 hb2=>?_;obtain⟨m2,a2,n2,c2,b2,d2,e2,rfl⟩:=hv2.qv;obtain⟨A2,X2⟩:=zu ((J4 w2.heap.size w2).alloc nr (.cells #[.bool m2,.slice a2 n2 c2,.slice b2 d2 e2] 126)) (Blk.new w2 #[.bool m2,.slice a2 n2 c2,.slice b2 d2 e2] 126);obtain⟨y2,Q2⟩:=zu (a0a (a0a y1.out hb2) A2.out) (hv2.call A2.out);clear hb2 hv2 y1;go_wp2_with fail;obtain⟨W,hW⟩:=gn (w2.alloc (.cells #[.bool m2,.slice a2 n2 c2,.slice b2 d2 e2] 126));obtain⟨g,hg⟩:=gn (w2.heap.size);rw[hW]at y2 X2 Q2 |-;rw[hg]at X2 |-;have KK:Hid (∀ V,Below W.heap.size W V->V.cell? ⟨g,0,none⟩=some (.bool m2)/\V.cell? ⟨g,1,none⟩=some (.slice a2 n2 c2)/\V.cell? ⟨g,2,none⟩=some (.slice b2 d2 e2)):=fun V hV=>
    ⟨(X2.out.call hV).cell 0,(X2.out.call hV).cell 1,(X2.out.call hV).cell 2⟩
   clear A2 X2 hW hg;refine a0j [0,1,3] 9 (fun V=>V.cell? ⟨g,0,none⟩=some (.bool m2)/\V.cell? ⟨g,1,none⟩=some (.slice a2 n2 c2)/\V.cell? ⟨g,2,none⟩=some (.slice b2 d2 e2)) (by kernel_rfl) (by kernel_rfl) (by kernel_rfl) (by kernel_rfl) (KK.out _ br0.drew) ?_
   iterate 3
    refine⟨_,rfl,?_⟩;apply Exists.intro
    refine⟨.inl ⟨by rfl,?_⟩,?_⟩
    .rintro W' ⟨q7,q8,q9⟩;go_simp;try with_reducible rfl
    go_frame
   refine a0c (i:=2) (by kernel_rfl) rfl rfl ?_;go_wp2_with fail;refine nu (HA _ _ _ (Q2.out.call br0.drew) (Q2.out.call br0.drew)) fun u1' v1 hv hb=>?_;obtain⟨m1',a1',n1',c1',b1',d1',e1',rfl⟩:=hv.qv;obtain⟨z1,C1⟩:=zu (show Below W.heap.size W v1 from br0.drew.trans hb) hv;clear hb hv;go_wp2_with fail;refine⟨KK.out _ z1.out,?_⟩;refine a0c (i:=4) (by kernel_rfl) rfl rfl ?_;go_wp2_with fail;refine nu (HO _) fun u2' v2 hv hb=>?_;obtain⟨m2',a2',n2',c2',b2',d2',e2',rfl⟩:=hv.qv;have z2:=qx z1 hb;obtain⟨C2,O2⟩:=zu (C1.out.call hb) hv;clear hb hv;go_wp2_with fail;refine⟨KK.out _ z2.out,?_⟩;refine a0c (i:=5) (by kernel_rfl) rfl rfl ?_;go_wp2_with fail;refine nu (HB _ _ _ (Q2.out.call z2.out) O2.out) fun u3' v3 hv hb=>?_;obtain⟨m3',a3',n3',c3',b3',d3',e3',rfl⟩:=hv.qv;have z3:=qx z2 hb;obtain⟨C3,S3⟩:=zu (C2.out.call hb) hv;clear hb hv;go_wp2_with fail;refine⟨KK.out _ z3.out,?_⟩;refine a0c (i:=6) (by kernel_rfl) rfl rfl ?_;go_wp2_with fail;refine nu (HD _ _ _ C3.out S3.out) fun u4' v4 hv hb=>?_;obtain⟨m4',a4',n4',c4',b4',d4',e4',rfl⟩:=hv.qv;have z4:=qx z3 hb;have D4:=hid hv;clear hb hv;go_wp2_with fail;refine⟨KK.out _ z4.out,?_⟩;refine a0c (i:=7) (by kernel_rfl) rfl rfl ?_;go_wp2_with fail;refine nw (HN _ _ D4.out (HL.out.call (a0a y2.out z4.out))) z4 fun v5 z5=>?_;go_wp2_with fail;refine⟨KK.out _ z5.out,?_⟩;refine a0V (is:=[8,9,10,11]) (g:=0) (by kernel_rfl) rfl (KK.out _ z5.out) (by kernel_rfl) ?_
   iterate 4
    refine⟨_,rfl,?_⟩;apply Exists.intro
    refine⟨.inl ⟨by rfl,?_⟩,?_⟩
    .rintro W' ⟨q7,q8,q9⟩;go_simp;try with_reducible rfl
    go_frame
   refine J8 (by kernel_rfl) ?_ _;simp only[b0b];go_wp2_with fail;go_ret2
   exact⟨rfl,a0a y2.out z5.out⟩
 rotate_left
 focus
  have hcE:cmE s ⟨#[49]⟩=qE s:=by unfold cmE;rw[J2 hq]
  have eE:hlE s=qE s:=by unfold hlE;rw[J3 hq]
  have eB:hlB s=⟨#[]⟩:=w0K (by rw[eE];exact hq);rw[hcE]at HC;rw[eE,eB];obtain⟨z,hz⟩:=gn (cmB s ⟨#[49]⟩);obtain⟨x,hx⟩:=gn (qE s);rw[hz,hx]at HC;rw[hx]at hq |-;have t0:(x != 0)=true:=by simpa using hq
  clear hs hL hq hcE eE eB hz hx
 all_goals
  go_enter func35,ntmps35;go_wp2_with fail;refine nz HC fun w1 y1=>?_;go_wp2_with fail;go_ret2
  exact⟨rfl,y1.out⟩
def s0p:(prog.info? 26).map (fun i=>(i.zero,i.size,i.bytes))=some (some (.string ⟨#[]⟩),1,16):=by kernel_rfl
def q0w (l:List ByteArray):∀ u∈i0i l,u.oneCell'=true:=by
 intro u hu;obtain⟨x,_,rfl⟩:=Gi.1 hu
 rfl
def b1x (w:World)(v:Value)(l:List ByteArray)(hv:Row w v (i0i l))(hl:l.length<=1000000):
 Calls prog 9 #[v] w fun e w'=>(∃ u,e=.returned u/\Row w' u (i0i l))/\Below w.heap.size w w':=by
 obtain⟨i0,hi,hz0,hz1,hz2⟩:=Dx s0p;obtain⟨a,c,rfl,q1,q2,q3⟩:=hv.ex;rw[strs_length]at *;have SRC:Hid (∀ j u,(i0i l)[j]?=some u->∃ ad,a=some ad/\(w.alloc (.cells #[] 26)).cell? (ad.add j)=some u):=fun j u hu=>by
  obtain⟨g,o,rfl,hg,hc⟩:=q3 j u hu;refine⟨_,rfl,?_⟩;rw[Addr.add_lit];exact (((J4 w.heap.size w).alloc nr (.cells #[] 26)).cell (p:=⟨g,o+j,none⟩) hg).trans hc
 obtain⟨HO,HB⟩:=zu (show (w.alloc (.cells #[] 26)).ownsRow w.heap.size 26 1 (.slice (some ⟨w.heap.size,0,none⟩) 0 0) 0 [] from Ke _ _ 0 nr (by unfold maxLen;omega) rfl) ((J4 w.heap.size w).alloc nr (.cells #[] 26));obtain⟨n,hn⟩:=gn (l.length);have HN:=hid (show (i0i l).length=n*1 from by rw[strs_length,hn];omega);rw[hn]at hl q1 |-;clear hv q3 hn;go_enter func9,ntmps9;go_wp2_with (at_builtin;refine c0Q rfl _ _ 24 rfl w.heap.size 26 i0 (.string ⟨#[]⟩) 1 16 underlying24 hi hz0 hz1 hz2 rfl (by decide) (.slice (some ⟨w.heap.size,0,none⟩) 0 0) 0 [] rfl HO.out (by intro e;cases e) a n c (i0i l) rfl HN.out SRC.out (q0w l) (by unfold maxLen;omega) (by omega) (by simp) ?_;intro v1 w1 hown1 hg1 hne1;have O1:=hid hown1;have G1:=hid hg1;clear hown1 hg1 hne1)
 go_ret
 exact⟨⟨_,rfl,Row.of_owns O1.out⟩,c0x HO.out HB.out G1.out⟩
def Jr:=@Go.Proofs.Tryz.func5
def Mz:=@Go.Proofs.Tryz.ntmps5
def i0U (w:World)(v u:Value)(c:List Int)(thr:Int)(a r:ByteArray)(b:List ByteArray)(n many reach:Int)(one:Bool)(hv:Row w v (zs c))(hu:Row w u (i0i b))(hc:c.length<=maxLen)(ha:a.size<=maxLen)(hr:r.size<=maxLen)(hb:∀ x∈b,x.size<=maxLen)(hL:LayB w):
 qb 5 #[v,.int .i64 thr,.string a,.string r,u,.int .i64 n,.int .i64 many,.int .i64 reach,.bool one] w (.bool true):=by
 have HLV:=hid (q0h w hL);unfold maxLen at hc ha hr hb;obtain⟨s,cp,rfl,q1,q2,q3⟩:=hv.openZ;obtain⟨t,cq,rfl,p1,p2,p3⟩:=hu.openS;obtain⟨L,hLL⟩:=gn (c.length);obtain⟨N,hN⟩:=gn (b.length);obtain⟨HV,HU,P3,HLL,HNN,HL⟩:=zf hv hu p3 hLL hN hL;rw[hLL]at HV q1 hc |-;rw[hN]at HU p1 |-;clear hv hu q3 p3 hLL hN hL hb;by_cases c1:40<L
 .have t1:decide ((40:Int)<(L:Int))=true:=Z7 (by omega);clear c1 hc ha hr;go_enter Jr,Mz;go_wp2_with fail;refine ny HLV fun w1 hb1=>?_;go_wp2_with fail;go_ret
  exact⟨rfl,hb1⟩
 have t1:decide ((40:Int)<(L:Int))=false:=Z6 (by omega);by_cases c2:40<a.size
 .have t2:decide ((40:Int)<(a.size:Int))=true:=Z7 (by omega);clear c1 c2 hc ha hr;go_enter Jr,Mz;go_wp2_with fail;refine ny HLV fun w1 hb1=>?_;go_wp2_with fail;go_ret
  exact⟨rfl,hb1⟩
 have t2:decide ((40:Int)<(a.size:Int))=false:=Z6 (by omega);by_cases cR:40<r.size
 .have tR:decide ((40:Int)<(r.size:Int))=true:=Z7 (by omega);clear c1 c2 cR hc ha hr;go_enter Jr,Mz;go_wp2_with fail;refine ny HLV fun w1 hb1=>?_;go_wp2_with fail;go_ret
  exact⟨rfl,hb1⟩
 have tR:decide ((40:Int)<(r.size:Int))=false:=Z6 (by omega);by_cases c3:50<N
 .have t3:decide ((50:Int)<(N:Int))=true:=Z7 (by omega);clear c1 c2 cR c3 hc ha hr;go_enter Jr,Mz;go_wp2_with fail;refine ny HLV fun w1 hb1=>?_;go_wp2_with fail;go_ret
  exact⟨rfl,hb1⟩
 have t3:decide ((50:Int)<(N:Int))=false:=Z6 (by omega);by_cases c4:60<n/\n<=256
 .have t4:decide ((60:Int)<n)=true:=Z7 c4.1;have t5:decide (n<=(256:Int))=true:=Z7 c4.2;clear c1 c2 cR c3 c4 hc ha hr;go_enter Jr,Mz;go_wp2_with fail;refine ny HLV fun w1 hb1=>?_;go_wp2_with fail;go_ret
  exact⟨rfl,hb1⟩
 have key:(decide ((60:Int)<n)=false)\/(decide ((60:Int)<n)=true/\decide (n<=(256:Int))=false):=by
  by_cases h:60<n
  .exact .inr ⟨Z7 h,Z6 (fun e=>c4 ⟨h,e⟩)⟩
  .exact .inl (Z6 h)
 obtain⟨HA,HR,HN50,HL40⟩:=zc (show a.size<=100000 by omega) (show r.size<=100000 by omega) (show N<=50 by omega) (show L<=40 by omega);have hF:(u0h a r reach one).size<=100000:=by
  unfold u0h
  split
  .decide
  split
  .decide
  .exact J0 (r0K _ _ _) (by omega)
 have P1:=fun V v u hv hu hb hV=>hid (n0p V v u c thr a r b hv hu HA.out HR.out hb hV)
 have P2:=fun V hv hu hb=>hid (r0k V (.slice s L cp) (.slice t N cq) c thr a r b hv hu HA.out HR.out hb)
 have P3':=fun V hV=>hid (x0t V a r n many HA.out HR.out hV)
 have P4:=fun V=>hid (u0E V a r n many HA.out HR.out)
 have P5:=fun V hV=>hid (q0J V a r reach one HA.out HR.out hV)
 have P6:=fun V=>hid (p0g V a r reach one HA.out HR.out)
 have PA:=fun V hV=>hid (q0I V a (by omega) hV)
 have PA':=fun V=>hid (n0N V a HA.out)
 have PF:=fun V hV=>hid (q0I V (u0h a r reach one) (by omega) hV)
 have PF':=fun V=>hid (n0N V (u0h a r reach one) hF)
 have P7:=fun V hv hV=>hid (w0k V (.slice s L cp) c thr a r n hv HA.out HR.out hV)
 have P8:=fun V hv=>hid (x0U V (.slice s L cp) c thr a r n hv HA.out HR.out)
 have PO:=fun V hV=>hid (b1w V (.slice s L cp) c hV (by rw[HLL.out];have:=HL40.out;omega))
 have PB:=fun V hV=>hid (b1x V (.slice t N cq) b hV (by rw[HNN.out];have:=HN50.out;omega))
 have PM:=fun V u v hu hv=>hid (s0h V u v (slR c thr a r n) (slR c thr a r n) hu hv)
 rw[Z7 rfl]at PM;obtain⟨X1,hX1⟩:=gn ((fsA c thr a r b).1);obtain⟨X2,hX2⟩:=gn ((fsA c thr a r b).2);obtain⟨X3,hX3⟩:=gn (fsE c thr a r b);obtain⟨X4,hX4⟩:=gn (a1y a r n many);obtain⟨X5,hX5⟩:=gn (a1x a r n many);obtain⟨X6,hX6⟩:=gn (u0h a r reach one);obtain⟨X7,hX7⟩:=gn (a1A a r reach one);obtain⟨Y1,hY1⟩:=gn (hlB a);obtain⟨Y2,hY2⟩:=gn (hlE a);obtain⟨X8,hX8⟩:=gn (slE c thr a r n);obtain⟨X9,hX9⟩:=gn (slR c thr a r n);rw[hX1,hX2,hX3]at P1 P2;rw[hX4,hX5]at P3' P4;rw[hX6,hX7]at P5 P6;rw[hX6]at PF PF' hF;obtain⟨Y3,hY3⟩:=gn (hlB X6);obtain⟨Y4,hY4⟩:=gn (hlE X6);rw[hY1,hY2]at PA PA';rw[hY3,hY4]at PF PF';rw[hX8,hX9]at P7 P8;rw[hX9]at PM;obtain⟨L1,hL1⟩:∃ L1,L1=L+1:=⟨_,rfl⟩;have W1:∃ x,IntKind.i64.wrap (n*(L1:Int))=x:=⟨_,rfl⟩;obtain⟨NL,hNL⟩:=W1;have wL:IntKind.i64.wrap ((L:Int)+1)=(L1:Int):=by rw[U0 _ ⟨by omega,by omega⟩];omega
 have kA:(decide ((5:Int)<n)=false)\/(decide ((5:Int)<n)=true/\decide (n<=(32:Int))=false)\/(decide ((5:Int)<n)=true/\decide (n<=(32:Int))=true):=by
  by_cases h:5<n
  .by_cases h2:n<=32
   .exact .inr (.inr ⟨Z7 h,Z7 h2⟩)
   .exact .inr (.inl ⟨Z7 h,Z6 h2⟩)
  .exact .inl (Z6 h)
 have kB:(decide ((3:Int)<(L:Int))=false)\/(decide ((3:Int)<(L:Int))=true/\decide ((0:Int)<n)=false)\/(decide ((3:Int)<(L:Int))=true/\decide ((0:Int)<n)=true/\decide (NL<=(256:Int))=false)\/(decide ((3:Int)<(L:Int))=true/\decide ((0:Int)<n)=true/\decide (NL<=(256:Int))=true):=by
  by_cases h:(3:Int)<(L:Int)
  .by_cases h2:0<n
   .by_cases h3:NL<=256
    .exact .inr (.inr (.inr ⟨Z7 h,Z7 h2,Z7 h3⟩))
    .exact .inr (.inr (.inl ⟨Z7 h,Z7 h2,Z6 h3⟩))
   .exact .inr (.inl ⟨Z7 h,Z6 h2⟩)
  .exact .inl (Z6 h)
 obtain⟨KA,KB,HNL,HWL⟩:=zc kA kB hNL wL;clear c1 c2 cR c3 c4 hc ha hr hX1 hX2 hX3 hX4 hX5 hX6 hX7 hX8 hX9 hY1 hY2 hY3 hY4 hF kA kB hNL wL hL1;rcases key with t4 | ⟨t4,t5⟩
 all_goals
  go_enter Jr,Mz;go_wp2_with fail;refine nz HLV fun w1 y1=>?_;go_wp2_with fail;obtain⟨w1',hw1'⟩:∃ x:World,x=w1:=⟨_,rfl⟩
  go_loop [19] (fun s15=>∃ i:Nat,s15=.int .i64 (i:Nat)/\i<=N/\Hid (∀ (j:Nat) (x:ByteArray),j<i->b[j]?=some x->x.size<=300)) (fun s15=>N-(intOf s15).toNat)
  case atStart=>exact⟨0,rfl,K5 _,fun j x hj=>absurd hj (by omega)⟩
  case round=>
   clear hw1';obtain⟨i,rfl,hi',hI⟩:=hrel;by_cases hlt:i<N
   .obtain⟨x,hx⟩:∃ x,b[i]?=some x:=⟨_,Q0 (by rw[HNN.out];exact hlt)⟩;obtain⟨g,o,rfl,hg,hc⟩:=P3.out i x hx;have c1:=(y1.out.cell (p:=⟨g,o+i,none⟩) hg).trans hc;have HX:=hid hx;have f0:=qw i
    have f1:(i:Int)<(N:Int):=by omega
    have wi:IntKind.i64.wrap ((i:Int)+1)=((i+1:Nat):Int):=by have:=HN50.out;rw[U0 _ ⟨by omega,by omega⟩];omega
    by_cases h6:300<x.size
    .have q1:decide ((300:Int)<(x.size:Int))=true:=Z7 (by omega);clear hx hc hg h6 hi';go_wp2_with fail;go_ret
     exact⟨rfl,y1.out⟩
    .have q1:decide ((300:Int)<(x.size:Int))=false:=Z6 (by omega);obtain⟨HLE,IL⟩:=zu (show x.size<=300 by omega) hlt;clear hx hc hg h6 hi' hlt;go_wp2_with fail;go_round
     case rel=>exact⟨i+1,by go_num,IL.out,fun j y hj hy=>by
      rcases Ct j i with h | h
      .exact hI.out j y h hy
      .obtain rfl:j=i:=by omega
       rw[HX.out]at hy;cases hy;exact HLE.out⟩
     case measure=>simp[intOf]<;>(have:=IL.out;omega)
   .obtain rfl:i=N:=by omega
    have q1:decide ((i:Int)<(i:Int))=false:=by simp
    have hB300:∀ x∈b,x.size<=100000000:=fun x hx=>by
     obtain⟨j,hj⟩:=Bi hx;have:=hI.out j x (by rw[<- HNN.out];exact (U4.1 hj).1) hj;omega
    have HB300:=hid hB300;clear hlt hi' hI hB300;go_wp2_with fail;refine nu (PO _ (HV.out.call y1.out)) fun u2 w2 hu2 hb2=>?_;have y2:=qx y1 hb2;have U2:=hid hu2;obtain⟨a2,d2,rfl,-,-,-⟩:=hu2.openZ;rw[HLL.out]at U2 |-;clear hb2 hu2;go_wp2_with fail;refine nu (PB _ (HU.out.call y2.out)) fun u3 w3 hu3 hb3=>?_;have y3:=qx y2 hb3;obtain⟨U3,V3⟩:=zu (U2.out.call hb3) hu3;obtain⟨a3,d3,rfl,-,-,-⟩:=hu3.openS;rw[HNN.out]at V3 |-;clear hb3 hu3;go_wp2_with fail;refine nw (P1 _ _ _ U3.out V3.out HB300.out (HL.out.call y3.out).l) y3 fun w4 y4=>?_;clear U2 U3 V3;go_wp2_with fail;refine nw (P2 _ (HV.out.call y4.out) (HU.out.call y4.out) HB300.out) y4 fun w5 y5=>?_;go_wp2_with fail;refine nw (P3' _ (HL.out.call y5.out).l) y5 fun w6 y6=>?_;go_wp2_with fail;refine nw (P4 _) y6 fun w7 y7=>?_;go_wp2_with fail;refine nw (P5 _ (HL.out.call y7.out).l) y7 fun w8 y8=>?_;go_wp2_with fail;refine nw (P6 _) y8 fun w9 y9=>?_;go_wp2_with fail;refine nw (PA _ (HL.out.call y9.out).l) y9 fun v1 z1'=>?_;go_wp2_with fail;refine nw (PA' _) z1' fun v2 z2'=>?_;go_wp2_with fail;refine nw (PF _ (HL.out.call z2'.out).l) z2' fun v3 z3'=>?_;go_wp2_with fail;refine nw (PF' _) z3' fun v4 y13=>?_;have wL:=HWL.out;have kA:=KA.out;have kB:=KB.out;have wNL:=HNL.out;rcases kA with z1 | ⟨z1,z2⟩ | ⟨z1,z2⟩
    all_goals
     rcases kB with r1 | ⟨r1,r2⟩ | ⟨r1,r2,r3⟩ | ⟨r1,r2,r3⟩
    all_goals
     go_wp2_with fail
     first
      | (go_ret
         exact⟨rfl,y13.out⟩)
      | (refine nu (P7 _ (HV.out.call y13.out) (HL.out.call y13.out)) fun ua wa hua hba=>?_
         have ya:=qx y13 hba;have Ma:=hid hua;obtain⟨aa,ca,rfl,-,-,-⟩:=hua.ex;clear hba hua;go_wp2_with fail;refine nu (P8 _ (HV.out.call ya.out)) fun ub wb hub hbb=>?_;have yb:=qx ya hbb;obtain⟨Mb,Nb⟩:=zu (Ma.out.call hbb) hub;obtain⟨ab,cb,rfl,-,-,-⟩:=hub.ex;clear hbb hub;go_wp2_with fail;refine nw (PM _ _ _ Mb.out Nb.out) yb fun wc yc=>?_;go_wp2_with fail;go_ret
         exact⟨rfl,yc.out⟩)
end
end Go.Proofs.YtfkpfpobmobnbaaGreatDoor
