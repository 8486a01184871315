import Derived.Test.YtfkpfpobmobnbaaGreatDoorPb11
set_option linter.all false
set_option maxRecDepth 100000
set_option maxHeartbeats 8000000
namespace Go.Proofs.YtfkpfpobmobnbaaGreatDoor
open Go.Proofs.Tryz Go.RowKit
open Go.Lib (decDigits nDigits)
section
open Go.Shelf
def f0N (x y:Int):orZ [x,y]=if x≠0 then x else y:=by
 unfold orZ;by_cases h:x=0
 .by_cases h2:y=0<;>simp[orZ,h,h2]
 .simp[h]
def i0l (w:World)(a:ByteArray)(ha:a.size<=100000)(hL:Lay w):
 qb 111 #[.string a] w (.int .i64 (g0J a)):=by
 have HR:=hid (e0Y w a ha hL);unfold g0J;obtain⟨z,hz⟩:=gn (gPE a);rw[hz]at HR |-;by_cases c0:z=0
 .subst c0;rw[J2 (by simp)];by_cases ca:a=⟨#[48]⟩
  .subst ca;rw[J3 rfl];clear hz ha hL;go_enter func111,ntmps111;go_wp2_with fail;refine ny HR fun w0 hb0=>?_;go_wp2_with fail;go_ret
   exact⟨rfl,hb0⟩
  .rw[J2 ca];have t0:(a.toList == [48])=false:=a0O ca;clear hz ha hL ca;go_enter func111,ntmps111;go_wp2_with fail;refine ny HR fun w0 hb0=>?_;go_wp2_with fail;go_ret
   exact⟨rfl,hb0⟩
 .rw[J3 c0];have t0:(z==0)=false:=by rw[M5];exact c0
  have t0':(z != 0)=true:=by simpa using c0
  clear hz c0 ha hL;go_enter func111,ntmps111;go_wp2_with fail;refine ny HR fun w0 hb0=>?_;go_wp2_with fail;go_ret
  exact⟨rfl,hb0⟩
def x0t (w:World)(a r:ByteArray)(n many:Int)(ha:a.size<=100000)(hr:r.size<=100000)(hL:Lay w):
 qb 31 #[.string a,.string r,.int .i64 n,.int .i64 many] w (.tuple #[.string (a1y a r n many),.int .i64 (a1x a r n many)]):=by
 have HA:=hid (e0Y w a ha hL);have HB:=fun V hV=>hid (e0Y V r hr hV)
 have CO:=fun V v h=>hid (o0Y V v [gPE a,gPE r] h)
 rw[f0N]at CO;have HL:=hid hL;unfold a1y a1x;by_cases h0:n0t a r n many=0
 .rw[J2 (by rw[h0];simp),J2 (by rw[h0];simp)];have h0':=h0;unfold n0t at h0'
  split at h0'
  .rename_i h1;exact absurd h0' h1
  rename_i h1
  have h1:gPE a=0:=Ak h1
  split at h0'
  .rename_i h2;exact absurd h0' h2
  rename_i h2
  have h2:gPE r=0:=Ak h2
  split at h0'
  .cases h0'
  rename_i h3
  rw[J2 (by simpa using h1)]at CO;rw[h1]at HA CO;rw[h2]at HB CO;have ga:glE a n 256=0:=by unfold glE;rw[J2 (by rw[h1];simp),J2 (by omega)]
  have gr:glE r n 256=0:=by unfold glE;rw[J2 (by rw[h2];simp),J2 (by omega)]
  have H1:=fun V hV=>hid (i0F V a n ha hV)
  have H2:=fun V hV=>hid (i0F V r n hr hV)
  rw[ga]at H1;rw[gr]at H2;obtain⟨m,rfl⟩:∃ m:Nat,many=(m:Nat):=⟨many.toNat,by omega⟩;have H3:=fun V hV=>hid (c1K V m (by omega) hV)
  have H4:=fun V hV=>hid (d0W V (glB r n true) (a0f m) (J0 (g0L _ _ _) (by omega)) (a0M (by have:=a0l (n:=m) (k:=3) (by omega) (by omega);omega)) hV)
  have H5:=fun V hV=>hid (h0e V (glB a n true) (b0D (· * ·) (glB r n true) (a0f m)) (J0 (g0L _ _ _) (by omega)) (J0 (e0F _ _ _) (by omega)) hV)
  have H6:=fun V hV=>hid (c1J V (b0D (· + ·) (glB a n true) (b0D (· * ·) (glB r n true) (a0f m))) ⟨#[49]⟩ (J0 (e0F _ _ _) (by omega)) (by decide) hV)
  unfold c1w;rw[Ao];obtain⟨GA,hGA⟩:=gn (glB a n true);obtain⟨GR,hGR⟩:=gn (glB r n true);obtain⟨I,hI⟩:=gn (a0f m);rw[hGA]at H1 H5 H6 |-;rw[hGR]at H2 H4 H5 H6 |-;rw[hI]at H3 H4 H5 H6 |-;obtain⟨T,hT⟩:=gn (b0D (· * ·) GR I);rw[hT]at H4 H5 H6 |-;obtain⟨U,hU⟩:=gn (b0D (· + ·) GA T);rw[hU]at H5 H6 |-;obtain⟨B,hB⟩:=gn (mnB U ⟨#[49]⟩);obtain⟨E,hE⟩:=gn (cmE U ⟨#[49]⟩);rw[hB,hE]at H6 |-;have t1:decide (n<0)=false:=Z6 (by omega);have t2:decide (256<n)=false:=Z6 (by omega);obtain⟨M,hMM⟩:∃ M:Int,((m:Nat):Int)=M:=⟨_,rfl⟩;rw[hMM]at h3 H3 |-;have t3:decide (M<1)=false:=Z6 (by omega);have t4:decide (256<M)=false:=Z6 (by omega);clear ha hr hL h0 h0' h1 h2 h3 ga gr hGA hGR hI hT hU hB hE hMM;go_enter func31,ntmps31;go_wp2_with fail;refine nz HA fun w1 y1=>?_;go_wp2_with fail;refine nw (HB _ (HL.out.call y1.out)) y1 fun w2 y2=>?_;go_wp2_with fail;refine (CO _ _ (b0V _ _ _ _)).out.mono ?_;rintro e w3 ⟨rfl,rfl⟩;have y3:=hid (y2.out.alloc y2.out.size (.cells #[.int .i64 0,.int .i64 0] 27));go_wp2_with fail;refine nw (H1 _ (HL.out.call y3.out)) y3 fun wa ya=>?_;go_wp2_with fail;refine nw (H2 _ (HL.out.call ya.out)) ya fun wb yb=>?_;go_wp2_with fail;refine nw (H3 _ (HL.out.call yb.out)) yb fun wc yc=>?_;go_wp2_with fail;refine nw (H4 _ (HL.out.call yc.out)) yc fun wd yd=>?_;go_wp2_with fail;refine nw (H5 _ (HL.out.call yd.out)) yd fun we ye=>?_;go_wp2_with fail;refine nw (H6 _ (HL.out.call ye.out)) ye fun wf yf=>?_;go_wp2_with fail;go_ret2
  exact⟨rfl,yf.out⟩
 .rw[J3 h0,J3 h0];unfold n0t at h0 |-;obtain⟨x0,hx⟩:=gn (gPE a);obtain⟨z0,hz⟩:=gn (gPE r);rw[hx]at HA CO h0 |-;simp only[hz]at HB;rw[hz]at CO h0 |-;by_cases c0:x0=0
  case neg=>
   rw[J3 c0]at CO |-;have t0:(x0==0)=false:=by rw[M5];exact c0
   clear hx hz h0 c0 ha hr hL;go_enter func31,ntmps31;go_wp2_with fail;refine nz HA fun w1 y1=>?_;go_wp2_with fail;refine nw (HB _ (HL.out.call y1.out)) y1 fun w2 y2=>?_;go_wp2_with fail;refine (CO _ _ (b0V _ _ _ _)).out.mono ?_;rintro e w3 ⟨rfl,rfl⟩;have y3:=hid (y2.out.alloc y2.out.size (.cells #[.int .i64 x0,.int .i64 z0] 27));go_wp2_with fail;go_ret2
   exact⟨rfl,y3.out⟩
  subst c0;rw[J2 (by simp)]at h0 CO |-;by_cases c2:z0=0
  case neg=>
   rw[J3 c2];have t0:(z0==0)=false:=by rw[M5];exact c2
   clear hx hz h0 c2 ha hr hL;go_enter func31,ntmps31;go_wp2_with fail;refine nz HA fun w1 y1=>?_;go_wp2_with fail;refine nw (HB _ (HL.out.call y1.out)) y1 fun w2 y2=>?_;go_wp2_with fail;refine (CO _ _ (b0V _ _ _ _)).out.mono ?_;rintro e w3 ⟨rfl,rfl⟩;have y3:=hid (y2.out.alloc y2.out.size (.cells #[.int .i64 0,.int .i64 z0] 27));go_wp2_with fail;go_ret2
   exact⟨rfl,y3.out⟩
  subst c2;rw[J2 (by simp)]at h0 |-;by_cases c1:n<0\/256<n\/many<1\/256<many
  .rw[J3 c1];obtain⟨p1,h1⟩:=gn (decide (n<0));obtain⟨p2,h2⟩:=gn (decide (256<n));obtain⟨p3,h3⟩:=gn (decide (many<1));obtain⟨p4,h4⟩:=gn (decide (256<many));have hpq:(p1 || (p2 || (p3 || p4)))=true:=by rw[<- h1,<- h2,<- h3,<- h4];simpa using c1
   clear hx hz h0 c1 ha hr hL;cases p1
   case' true=>
    clear hpq h2 h3 h4
   rotate_left
   cases p2
   case' true=>
    clear hpq h3 h4
   rotate_left
   cases p3
   case' true=>
    clear hpq h4
   rotate_left
   obtain rfl:p4=true:=by simpa using hpq
   clear hpq
   all_goals
    go_enter func31,ntmps31;go_wp2_with fail;refine nz HA fun w1 y1=>?_;go_wp2_with fail;refine nw (HB _ (HL.out.call y1.out)) y1 fun w2 y2=>?_;go_wp2_with fail;refine zx (CO _ _ (b0V _ _ _ _)) ?_;have y3:=hid (y2.out.alloc y2.out.size (.cells #[.int .i64 0,.int .i64 0] 27));go_wp2_with fail;go_ret2
    exact⟨rfl,y3.out⟩
  .rw[J2 c1]at h0;exact absurd rfl h0
def f0h (n:Nat)(s:ByteArray):(h0Y n s).size<=10000:=by
 unfold h0Y z0U
 split
 .exact c0W _
 .exact K5 _
def Lg:=@not_true_eq_false
def Ob:=@Go.Proofs.Tryz.ntmps33
def q0J (w:World)(a r:ByteArray)(reach:Int)(one:Bool)(ha:a.size<=100000)(hr:r.size<=100000)(hL:Lay w):
 qb 33 #[.string a,.string r,.int .i64 reach,.bool one] w (.tuple #[.string (u0h a r reach one),.int .i64 (a1A a r reach one)]):=by
 have HA:=hid (i0l w a ha hL);have HB:=fun V hV=>hid (i0l V r hr hV)
 have CO:=fun V v h=>hid (o0Y V v [g0J a,g0J r] h)
 rw[f0N]at CO;have HL:=hid hL;unfold u0h a1A;by_cases h0:n0A a r reach=0
 .rw[h0];simp only[ne_eq,Lg,Eh];have h0':=h0;unfold n0A at h0'
  split at h0'
  .rename_i h1;exact absurd h0' h1
  rename_i h1
  have h1:g0J a=0:=Ak h1
  split at h0'
  .rename_i h2;exact absurd h0' h2
  rename_i h2
  have h2:g0J r=0:=Ak h2
  split at h0'
  .cases h0'
  rename_i h3
  rw[J2 (by simpa using h1)]at CO;rw[h1]at HA CO;rw[h2]at HB CO;obtain⟨hq1,-⟩:=l0h h1;obtain⟨hq2,-⟩:=l0h h2;obtain⟨m,rfl⟩:∃ m:Nat,reach=(m:Nat):=⟨reach.toNat,by omega⟩;have H1:=fun V hV=>hid (w0x V a m (-(m:Int)) (by omega) hq1 (b1y h1) (by omega) rfl hV)
  have H2:=fun V hV=>hid (w0x V r (ffM (m:Nat) one) (-((ffM (m:Nat) one:Nat):Int)) (by omega) hq2 (b1y h2) (by unfold ffM;split<;>simp<;>omega) rfl hV)
  have e1:pnB m a=h0Y m a:=rfl;have e2:pnE m a=l0M m a:=rfl;have e3:pnB (ffM (m:Nat) one) r=h0Y (ffM (m:Nat) one) r:=rfl;have e4:pnE (ffM (m:Nat) one) r=l0M (ffM (m:Nat) one) r:=rfl;rw[e1,e2]at H1;rw[e3,e4]at H2;have CY:=fun V v h=>hid (o0Y V v [l0M m a,l0M (ffM (m:Nat) one) r] h)
  rw[f0N]at CY;have H3:=fun V hV=>hid (a1S V (h0Y m a) (h0Y (ffM (m:Nat) one) r) (J0 (f0h _ _) (by omega)) (J0 (f0h _ _) (by omega)) hV)
  unfold a1z;rw[Ao];obtain⟨M,hM⟩:=gn (ffM (m:Nat) one);have hM':M=if one=true then m else 2*m:=by rw[<- hM];unfold ffM;rw[Ao]
  rw[hM]at H2 H3 CY |-;obtain⟨X,hX⟩:=gn (h0Y m a);obtain⟨Y,hY⟩:=gn (h0Y M r);obtain⟨xe,hxe⟩:=gn (l0M m a);obtain⟨ye,hye⟩:=gn (l0M M r);rw[hX,hxe]at H1;rw[hY,hye]at H2;rw[hX,hY]at H3 |-;rw[hxe,hye]at CY |-;obtain⟨Z,hZ⟩:=gn (b0D (· * ·) X Y);obtain⟨ze,hze⟩:=gn (f0F (· * ·) X Y);rw[hZ,hze]at H3 |-;obtain⟨q,hqq⟩:=gn ((if xe≠0 then xe else ye));rw[hqq]at CY |-;have hneg1:IntKind.i64.wrap (-(m:Int)) = -(m:Int):=by rw[U0 _ ⟨by omega,by omega⟩]
  have hneg2:IntKind.i64.wrap (-(M:Int)) = -(M:Int):=by rw[hM'];split<;>rw[U0 _ ⟨by omega,by omega⟩]
  have t1:decide ((m:Int)<0)=false:=Z6 (by omega);have t2:decide ((10000:Int)<(m:Int))=false:=Z6 (by omega);have t3:decide (10000<m)=false:=Z6 (by omega);have hm4:m<=10000:=by omega
  clear ha hr hL h0 h0' h1 h2 h3 hq1 hq2 e1 e2 e3 e4 hM hX hY hxe hye hZ hze hqq;cases one
  case' false=>
   simp only[Bn,Eh]at hM';have wr2:IntKind.i64.wrap (2*(m:Int))=(M:Int):=by rw[U0 _ ⟨by omega,by omega⟩];omega
   clear hM' hm4
  rotate_left
  case' true=>
   simp only[Ew]at hM';subst hM';clear hm4 hneg2
  all_goals
   by_cases cq:q=0
   .subst cq;rw[J2 (by simp),J2 (by simp)];go_enter func33,Ob;go_wp2_with fail;refine nz HA fun w1 y1=>?_;go_wp2_with fail;refine nw (HB _ (HL.out.call y1.out)) y1 fun w2 y2=>?_;go_wp2_with fail;refine (CO _ _ (b0V _ _ _ _)).out.mono ?_;rintro e w3 ⟨rfl,rfl⟩;have y3:=hid (y2.out.alloc y2.out.size (.cells #[.int .i64 0,.int .i64 0] 27));go_wp2_with fail;refine nw (H1 _ (HL.out.call y3.out)) y3 fun w4 y4=>?_;go_wp2_with fail;refine nw (H2 _ (HL.out.call y4.out)) y4 fun w5 y5=>?_;go_wp2_with fail;refine (CY _ _ (b0V _ _ _ _)).out.mono ?_;rintro e w6 ⟨rfl,rfl⟩;have y6:=hid (y5.out.alloc y5.out.size (.cells #[.int .i64 xe,.int .i64 ye] 27));go_wp2_with fail;refine nw (H3 _ (HL.out.call y6.out)) y6 fun w7 y7=>?_;go_wp2_with fail;go_ret2
    exact⟨rfl,y7.out⟩
   .rw[J3 cq,J3 cq];have t0:(q==0)=false:=by rw[M5];exact cq
    have t0':(q != 0)=true:=by simpa using cq
    clear cq;go_enter func33,Ob;go_wp2_with fail;refine nz HA fun w1 y1=>?_;go_wp2_with fail;refine nw (HB _ (HL.out.call y1.out)) y1 fun w2 y2=>?_;go_wp2_with fail;refine (CO _ _ (b0V _ _ _ _)).out.mono ?_;rintro e w3 ⟨rfl,rfl⟩;have y3:=hid (y2.out.alloc y2.out.size (.cells #[.int .i64 0,.int .i64 0] 27));go_wp2_with fail;refine nw (H1 _ (HL.out.call y3.out)) y3 fun w4 y4=>?_;go_wp2_with fail;refine nw (H2 _ (HL.out.call y4.out)) y4 fun w5 y5=>?_;go_wp2_with fail;refine zx (CY _ _ (b0V _ _ _ _)) ?_;have y6:=hid (y5.out.alloc y5.out.size (.cells #[.int .i64 xe,.int .i64 ye] 27));go_wp2_with fail;go_ret2
    exact⟨rfl,y6.out⟩
 .rw[J3 h0,J3 h0];unfold n0A at h0 |-;obtain⟨x0,hx⟩:=gn (g0J a);obtain⟨z0,hz⟩:=gn (g0J r);rw[hx]at HA CO h0 |-;simp only[hz]at HB;rw[hz]at CO h0 |-;by_cases c0:x0=0
  case neg=>
   rw[J3 c0]at CO |-;have t0:(x0==0)=false:=by rw[M5];exact c0
   clear hx hz h0 c0 ha hr hL;go_enter func33,Ob;go_wp2_with fail;refine nz HA fun w1 y1=>?_;go_wp2_with fail;refine nw (HB _ (HL.out.call y1.out)) y1 fun w2 y2=>?_;go_wp2_with fail;refine (CO _ _ (b0V _ _ _ _)).out.mono ?_;rintro e w3 ⟨rfl,rfl⟩;have y3:=hid (y2.out.alloc y2.out.size (.cells #[.int .i64 x0,.int .i64 z0] 27));go_wp2_with fail;go_ret2
   exact⟨rfl,y3.out⟩
  subst c0;rw[J2 (by simp)]at h0 CO |-;by_cases c2:z0=0
  case neg=>
   rw[J3 c2];have t0:(z0==0)=false:=by rw[M5];exact c2
   clear hx hz h0 c2 ha hr hL;go_enter func33,Ob;go_wp2_with fail;refine nz HA fun w1 y1=>?_;go_wp2_with fail;refine nw (HB _ (HL.out.call y1.out)) y1 fun w2 y2=>?_;go_wp2_with fail;refine (CO _ _ (b0V _ _ _ _)).out.mono ?_;rintro e w3 ⟨rfl,rfl⟩;have y3:=hid (y2.out.alloc y2.out.size (.cells #[.int .i64 0,.int .i64 z0] 27));go_wp2_with fail;go_ret2
   exact⟨rfl,y3.out⟩
  subst c2;rw[J2 (by simp)]at h0 |-;by_cases c1:reach<0\/10000<reach
  .rw[J3 c1];obtain⟨p1,h1⟩:=gn (decide (reach<0));obtain⟨p2,h2⟩:=gn (decide (10000<reach));have hpq:(p1 || p2)=true:=by rw[<- h1,<- h2];simpa using c1
   clear hx hz h0 c1 ha hr hL;cases p1
   case' true=>
    clear hpq h2
   rotate_left
   obtain rfl:p2=true:=by simpa using hpq
   clear hpq
   all_goals
    go_enter func33,Ob;go_wp2_with fail;refine nz HA fun w1 y1=>?_;go_wp2_with fail;refine nw (HB _ (HL.out.call y1.out)) y1 fun w2 y2=>?_;go_wp2_with fail;refine zx (CO _ _ (b0V _ _ _ _)) ?_;have y3:=hid (y2.out.alloc y2.out.size (.cells #[.int .i64 0,.int .i64 0] 27));go_wp2_with fail;go_ret2
    exact⟨rfl,y3.out⟩
  .rw[J2 c1]at h0;exact absurd rfl h0
def h0l (V:World):Calls prog 151 #[.string ⟨#[48]⟩] V fun e w'=>RetFr V.heap.size .i64 0 e w'/\Below V.heap.size V w':=by
 have:=c0H V 0 (J0 (a0l (k:=1) (by omega) (by omega)) (by omega));rwa[a0q]at this
def j0h (V:World):Calls prog 151 #[.string ⟨#[49]⟩] V fun e w'=>RetFr V.heap.size .i64 1 e w'/\Below V.heap.size V w':=by
 have:=c0H V 1 (J0 (a0l (k:=1) (by omega) (by omega)) (by omega));rwa[c0e]at this
def f0w (w:World)(n:Nat)(hn:n<=1000):
 Calls prog 242 #[.int .i64 (n:Nat)] w fun e w'=>(∃ g c,e=.returned (.slice (some ⟨g,0,none⟩) (n+1) c)/\NTab w.heap.size w' g (n+1) c (fun _=>0))/\Below w.heap.size w w':=by
 obtain⟨i0,hi,hz0,hz1,hz2⟩:=Dx y0E;have HR:=fun V=>hid (h0l V)
 go_enter func242,ntmps242;go_wp2_with fail
 go_loopw [3,4] (fun o ii wr=>∃ i:Nat,ii=.int .i64 i/\i<=n+1/\Hid (NOwn w.heap.size wr o i (fun _=>0))/\Hid (Below w.heap.size w wr)) (fun o ii wr=>n+1-(intOf ii).toNat)
 case atStart=>exact⟨0,rfl,K5 _,NOwn.nil _ _ _,J4 _ _⟩
 case round=>
  obtain⟨i,rfl,hi',hO,hB⟩:=hrel;by_cases hlt:i<n+1
  .have d1:decide (i<=n)=true:=by simp;omega
   have wi:=qy i (by omega)
   have IL:=hid hlt;clear hlt hi';go_wp2_with fail;refine (HR _).out.mono ?_;rintro e wm ⟨⟨vm,rfl,hvm,hfm⟩,hbm⟩;obtain⟨am,cm,rfl,-,-,-⟩:=hvm.openI;rw[show (limbs 0).length=0 from by rw[limbs_zero];rfl]at hvm hfm |-;obtain⟨VM,BRM,FM⟩:=zg hvm hbm hfm;clear hvm hbm hfm;obtain⟨vs,HO0,HO1⟩:=id hO.out;obtain⟨HOO,HO9⟩:=zu HO0 HO1;obtain⟨ar,cr,rfl⟩:=b0l HO0;clear HO0 HO1;have hi9:=IL.out;go_wp2_with (at_builtin;refine Fd _ rfl _ _ 204 rfl w.heap.size 79 i0 (.slice none 0 0) 1 24 underlying204 hi hz0 hz1 hz2 rfl (by decide) _ i vs rfl ((HOO.out.kept (b0O BRM.out none) (by cases ar<;>simp[Value.ownBlock])).alloc _) ⟨wm.heap.size,0,none⟩ 1 1 [.slice am 0 cm] rfl rfl (Eu wm (.slice am 0 cm) 79) (by simp[Value.oneCell']) (by unfold maxLen;omega) (by omega) (by have:=hB.out.size;have:=BRM.out.size;simp;omega) ?_;intro v' w5 hown hgrow _ hat;have HO5:=hid hown;have HG5:=hid hgrow;have HA5:=hid hat;clear hown hgrow hat)
   obtain⟨N5,B5⟩:=zu (NOwn.next (f:=fun _=>0) HOO.out HO9.out BRM.out VM.out nr FM.out HO5.out HG5.out HA5.out) (k0W HOO.out hB.out BRM.out HG5.out);clear HO5 HG5 HA5 hi9;go_wp2_with fail;go_roundw
   case rel=>exact⟨i+1,by go_num,by have:=IL.out;omega,N5,B5⟩
   case measure=>simp[intOf]<;>(have:=IL.out;omega)
  .obtain rfl:i=n+1:=by omega
   have d1:decide ((n:Int)+1<=(n:Int))=false:=by simp;omega
   obtain⟨g,c,rfl,ht⟩:=NTab.of hO.out;have HT:=hid ht;clear hlt hi' ht;go_wp2_with fail;go_ret
   exact⟨⟨g,c,rfl,HT.out⟩,hB.out⟩
def j0Q (f:Nat->Nat)(i:Nat):f i<=cvo f pw2 i:=by
 cases i with
 | zero=>rw[t0b];exact O4 _
 | succ i=>rw[m0O];omega
theorem NRow.openA {w:World}{v:Value}{m:Nat}{f:Nat->Nat}(h:NRow w v m f):∃ a c,v=.slice a m c/\m<=c/\c<=9223372036854775807:=by
 obtain⟨a,c,h1,h2,h3,-⟩:=h.open;exact⟨a,c,h1,h2,h3⟩
theorem NRow.el {w:World}{a:Option Addr}{m c:Nat}{f:Nat->Nat}(h:NRow w (.slice a m c) m f){i:Nat}(hi:i<m):∃ g o x,a=some ⟨g,o,none⟩/\g<w.heap.size/\w.cell? ⟨g,o+i,none⟩=some x/\IsN .i64 w x (f i):=by
 obtain⟨a',c',e,-,-,h3⟩:=h.open;simp only[Iq]at e;obtain⟨rfl,-,rfl⟩:=e;exact h3 i hi
def aF (c:Nat->Bool)(f:Nat->Nat)(i j k:Nat):Nat:=a0m (fun i'=>if i'<=k/\c (k-i')=true then f i' else 0) i+(if i<=k/\k<i+j/\c (k-i)=true then f i else 0)
def t0C {c:Nat->Bool}(f:Nat->Nat)(h0:c 0=false)(k:Nat):aF c f 0 1 k=0:=by
 unfold aF;rw[a0m,J2];intro ⟨_,h2,h3⟩;obtain rfl:k=0:=by omega
 rw[h0]at h3;cases h3
def t0E {c:Nat->Bool}{f:Nat->Nat}{i j:Nat}(h:c j=false)(k:Nat):aF c f i (j+1) k=aF c f i j k:=by
 unfold aF
 congr 1
 by_cases hc:i<=k/\k<i+j/\c (k-i)=true
 .rw[J3 hc,J3 ⟨hc.1,by omega,hc.2.2⟩]
 .rw[J2 hc,J2];intro ⟨h1,h2,h3⟩;by_cases he:k=i+j
  .rw[he,show i+j-i=j by omega,h]at h3;cases h3
  .exact hc ⟨h1,by omega,h3⟩
def t0D {c:Nat->Bool}{f:Nat->Nat}{i j:Nat}(h:c j=true)(k:Nat):aF c f i (j+1) k=if k=i+j then aF c f i j k+f i else aF c f i j k:=by
 by_cases he:k=i+j
 .rw[J3 he];unfold aF;rw[J3 ⟨by omega,by omega,by rw[he,show i+j-i=j by omega];exact h⟩,J2 (by omega)]
  rfl
 .rw[J2 he];unfold aF
  congr 1
  by_cases hc:i<=k/\k<i+j/\c (k-i)=true
  .rw[J3 hc,J3 ⟨hc.1,by omega,hc.2.2⟩]
  .rw[J2 hc,J2];intro ⟨h1,h2,h3⟩;exact hc ⟨h1,by omega,h3⟩
def t0F {c:Nat->Bool}{f:Nat->Nat}{n i k:Nat}(h0:c 0=false)(hi:i<=n)(hk:k<=n):aF c f i (n+1-i) k=aF c f (i+1) 1 k:=by
 have e1:(if i+1<=k/\k<i+1+1/\c (k-(i+1))=true then f (i+1) else 0)=0:=J2 fun ⟨h1,h2,h3⟩=>by
  obtain rfl:k=i+1:=by omega
  rw[Bq,h0]at h3;cases h3
 have e2:(if i<=k/\k<i+(n+1-i)/\c (k-i)=true then f i else 0)=(if i<=k/\c (k-i)=true then f i else 0):=by
  by_cases hc:i<=k/\c (k-i)=true
  .rw[J3 hc,J3 ⟨hc.1,by omega,hc.2⟩]
  .rw[J2 hc,J2 (fun ⟨h1,_,h3⟩=>hc ⟨h1,h3⟩)]
 unfold aF;rw[e1,e2,At]
 rfl
def x0a {c:Nat->Bool}{f:Nat->Nat}{n k:Nat}(hk:k<=n):aF c f (n+1) 1 k=cvo (chi c) f k:=by
 unfold aF;rw[J2 (by omega),At];exact g0y (by omega)
def c1m {c:Nat->Bool}{f:Nat->Nat}{n i j k:Nat}(hi:i<=n)(hk:k<=n):aF c f i j k<=cvo (chi c) f k:=by
 rw[<- g0y (c:=c) (f:=f) (k:=k) (m:=n+1) (by omega)];refine J0 ?_ (a0Q (show i+1<=n+1 by omega));unfold aF;rw[a0m];refine Jn ?_ _;by_cases hc:i<=k/\k<i+j/\c (k-i)=true
 .rw[J3 hc,J3 ⟨hc.1,hc.2.2⟩];exact O4 _
 .rw[J2 hc];exact K5 _
def l0r (w:World)(v:Value)(n:Nat)(f:Nat->Nat)(hn:n<=1000)(hv:NRow w v (n+1) f)(hd:∀ i,i<=n->nDigits (cvo f pw2 i)<=4000):
 Calls prog 219 #[v] w fun e w'=>(∃ g c,e=.returned (.slice (some ⟨g,0,none⟩) (n+1) c)/\NTab w.heap.size w' g (n+1) c (cvo f pw2))/\Below w.heap.size w w':=by
 obtain⟨a,cv,rfl,q1,q2⟩:=hv.openA;have HEL:Hid (∀ i,i<n+1->∃ g o x,a=some ⟨g,o,none⟩/\g<w.heap.size/\w.cell? ⟨g,o+i,none⟩=some x/\IsN .i64 w x (f i)):=fun i hi=>hv.el hi
 have HLF:Hid (∀ i,i<=n->(limbs (f i)).length<=1000000/\(limbs (cvo f pw2 i)).length<=1000000):=fun i hi=>⟨a0x (J0 (a0r (j0Q f i)) (hd i hi)),a0x (hd i hi)⟩
 have HL2:Hid (∀ i,i+1<=n->(limbs (cvo f pw2 i+cvo f pw2 i)).length<=1000000):=fun i hi=>a0x (J0 (a0r (by rw[m0O];omega)) (hd (i+1) hi))
 have HZ:=fun V=>hid (f0w V n hn)
 have HN:=hid hn;have wn:IntKind.i64.wrap (((n+1:Nat):Int)-1)=(n:Int):=by rw[U0 _ ⟨by omega,by omega⟩];omega
 have wn':IntKind.i64.wrap ((n:Int)+1-1)=(n:Int):=by rw[U0 _ ⟨by omega,by omega⟩];omega
 clear hn hv hd;go_enter func219,ntmps219;go_wp2_with fail;refine (HZ _).out.mono ?_;rintro e w1 ⟨⟨g,c,rfl,ht⟩,hb1⟩;have T0:Hid (NTab w.heap.size w1 g (n+1) c (fun j=>if j<0 then cvo f pw2 j else 0)):=ht.fn fun i _=>by rw[J2 (by omega)]
 have B1:=hid hb1;clear ht hb1;go_wp2_with fail
 go_loopw [4] (fun s4 wr=>∃ i:Nat,s4=.int .i64 (i:Nat)/\i<=n+1/\Hid (NTab w.heap.size wr g (n+1) c (fun j=>if j<i then cvo f pw2 j else 0))/\Hid (Below w.heap.size w wr)) (fun s4 wr=>n+1-(intOf s4).toNat)
 case atStart=>exact⟨0,rfl,K5 _,T0,B1⟩
 case round=>
  clear T0 B1;obtain⟨i,rfl,hi,hT,hB⟩:=hrel;by_cases hlt:i<n+1
  .have q0:decide ((i:Int)<((n+1:Nat):Int))=true:=by simp;omega
   have d0:decide ((i:Int)<(n:Int)+1)=true:=by simp;omega
   have f0:=qw i
   have f1:(i:Int)<((n+1:Nat):Int):=by omega
   have f1':(i:Int)<(n:Int)+1:=by omega
   have IL:=hid hlt;obtain⟨gl,ol,y,rfl,hgl,hy1,hy2⟩:=HEL.out i hlt;have cy:=(hB.out.cell (a0e hy1)).trans hy1;obtain⟨YN,YW,CY⟩:=zg (hy2.call hB.out) hy2 hy1;have wi:IntKind.i64.wrap ((i:Int)+1)=((i+1:Nat):Int):=by have:=HN.out;rw[U0 _ ⟨by omega,by omega⟩];omega
   rcases H8 i with h0 | h0
   .have d2:decide ((0:Int)<(i:Int))=false:=by simp;omega
    have d2':decide (0<i)=false:=by simp;omega
    obtain⟨x,cx,hx,-⟩:=hT.out.at hlt;rw[J2 (by omega)]at hx;obtain⟨XN,I0⟩:=zu hx h0;clear hi hlt hx hy1 hy2 hgl h0;go_wp2_with fail;refine a0T 11 2 [0,1,2,3,4,5,6,7,8,9] 1 (fun W'=>W'.cell? ⟨g,i,none⟩=some x/\W'.cell? ⟨gl,ol+i,none⟩=some y) (by kernel_rfl) rfl (by kernel_rfl) (by kernel_rfl) (by kernel_rfl) (by kernel_rfl) ⟨cx,cy⟩ ?_
    iterate 10
     refine⟨_,rfl,?_⟩;apply Exists.intro
     refine⟨.inl ⟨by rfl,?_⟩,?_⟩
     .rintro W' ⟨r1,r2⟩;go_simp;try with_reducible rfl
     go_frame
    refine a0c (i:=10) (by kernel_rfl) rfl rfl ?_;go_wp2_with fail;refine (c0I _ _ _ _ _ (XN.out.call br0.drew) (YN.out.call br0.drew) (by rw[limbs_zero];simp) (HLF.out i (by have:=IL.out;omega)).1).mono ?_;rintro e w5 ⟨⟨zz,rfl,hz,hf⟩,hbc⟩;obtain⟨az1,cz1,rfl,-,-,-⟩:=hz.openI;obtain⟨lz1,hlz⟩:=gn ((limbs (0+f i)).length);rw[hlz]at hz hf |-;clear hlz;have C1:=hid (show Below wr.heap.size wr w5 from br0.drew.trans hbc);obtain⟨T1,Z1⟩:=zu (hT.out.call C1.out) hz;have FZ1:Hid (∀ g',(Value.slice az1 lz1 cz1).ownBlock=some g'->w.heap.size<=g'/\g'≠g):=fun g' hg=>by
     have h1:wr.heap.size<=g':=hf g' hg;have h2:=hT.out.slot;have h3:=hB.out.size;exact⟨by omega,by omega⟩
    have m1:=(C1.out.cell (a0e cx)).trans cx;have m2:=(C1.out.cell (a0e cy)).trans cy;have B5:=hid (hB.out.trans (C1.out.mono hB.out.size));clear hz hf hbc cx cy;go_wp2_with fail;refine⟨⟨m1,m2⟩,?_⟩;refine J8 (by kernel_rfl) ?_ _;simp only[b0b,c0t,Aj,K9];have m3:=T1.out.slot.2.2.2.2 i;have T2:Hid (NTab w.heap.size (w5.setCell ⟨g,i,none⟩ (.slice az1 lz1 cz1)) g (n+1) c (fun j=>if j<i+1 then cvo f pw2 j else 0)):=(T1.out.put i Z1.out (.inr FZ1.out)).fn fun j hj=>by
     have:=I0.out;by_cases e:j=i
     .rw[J3 e,J3 (by omega),e,this,t0b,F9]
     .rw[J2 e,J2 (by omega),J2 (by omega)]
    have B6:=hid (B5.out.setCell (p:=⟨g,i,none⟩) (by have:=hT.out.slot.1;exact this) (.slice az1 lz1 cz1));go_wp2_with fail
    try simp only[b0b]
    go_roundw
    case rel=>exact⟨i+1,by go_num,by have:=IL.out;omega,T2,B6⟩
    case measure=>simp[intOf]<;>(have:=IL.out;omega)
   .obtain⟨i',rfl⟩:∃ i',i=i'+1:=⟨i-1,by omega⟩;have d2:decide ((0:Int)<((i'+1:Nat):Int))=true:=by simp<;>omega
    have d2':decide (0<i'+1)=true:=by simp
    have d2'':decide ((0:Int)<(i':Int)+1)=true:=by simp<;>omega
    have w5a:IntKind.i64.wrap (i':Int)=(i':Int):=by have:=HN.out;rw[U0 _ ⟨by omega,by omega⟩]
    have w5':IntKind.i64.wrap (((i'+1:Nat):Int)-1)=(i':Int):=by have:=HN.out;rw[U0 _ ⟨by omega,by omega⟩]<;>omega
    have w5'':IntKind.i64.wrap ((i':Int)+1-1)=(i':Int):=by have:=HN.out;rw[U0 _ ⟨by omega,by omega⟩]<;>omega
    have f2:(0:Int)<=(i':Int):=by omega
    have f3':(i':Int)<(n:Int)+1:=by omega
    have f8:(0:Int)<=(i':Int)+1:=by omega
    have f9':(i':Int)+1<(n:Int)+1:=by omega
    have f10:((i':Int)+1).toNat=i'+1:=by omega
    obtain⟨x1,cx1,hx1,-⟩:=hT.out.at (i:=i') (by omega);rw[J3 (by omega)]at hx1;have XN1:=hid hx1;obtain⟨x0,cx0,-,-⟩:=hT.out.at hlt;clear hi hlt hx1 hy1 hy2 hgl h0;go_wp2_with fail;refine a0T 13 2 [0,1,2,3,4,5,6,7,8,9,10,11] 1 (fun W'=>W'.cell? ⟨g,i',none⟩=some x1/\W'.cell? ⟨g,i'+1,none⟩=some x0) (by kernel_rfl) rfl (by kernel_rfl) (by kernel_rfl) (by kernel_rfl) (by kernel_rfl) ⟨cx1,cx0⟩ ?_
    iterate 12
     refine⟨_,rfl,?_⟩;apply Exists.intro
     refine⟨.inl ⟨by rfl,?_⟩,?_⟩
     .rintro W' ⟨r1,r2⟩;go_simp;try with_reducible rfl
     go_frame
    refine a0c (i:=12) (by kernel_rfl) rfl rfl ?_;go_wp2_with fail;refine (c0I _ _ _ _ _ (XN1.out.call br0.drew) (XN1.out.call br0.drew) (HLF.out i' (by have:=IL.out;omega)).2 (HLF.out i' (by have:=IL.out;omega)).2).mono ?_;rintro e w5 ⟨⟨zz,rfl,hz,hf⟩,hbc⟩;obtain⟨az1,cz1,rfl,-,-,-⟩:=hz.openI;obtain⟨lz1,hlz⟩:=gn ((limbs (cvo f pw2 i'+cvo f pw2 i')).length);rw[hlz]at hz hf |-;clear hlz;have C1:=hid (show Below wr.heap.size wr w5 from br0.drew.trans hbc);obtain⟨T1,Z1⟩:=zu (hT.out.call C1.out) hz;have FZ1:Hid (∀ g',(Value.slice az1 lz1 cz1).ownBlock=some g'->w.heap.size<=g'/\g'≠g):=fun g' hg=>by
     have h1:wr.heap.size<=g':=hf g' hg;have h2:=hT.out.slot;have h3:=hB.out.size;exact⟨by omega,by omega⟩
    have m1:=(C1.out.cell (a0e cx1)).trans cx1;have m2:=(C1.out.cell (a0e cx0)).trans cx0;have B5:=hid (hB.out.trans (C1.out.mono hB.out.size));have cy5:=(C1.out.cell (a0e cy)).trans cy;clear hz hf hbc;go_wp2_with fail;refine⟨⟨m1,m2⟩,?_⟩;refine J8 (by kernel_rfl) ?_ _;simp only[b0b,c0t,Aj,K9];have m3:=T1.out.slot.2.2.2.2 (i'+1);obtain⟨T2,B6⟩:=zu (T1.out.put (i'+1) Z1.out (.inr FZ1.out)) (B5.out.setCell (p:=⟨g,i'+1,none⟩) (by have:=hT.out.slot.1;exact this) (.slice az1 lz1 cz1));have NEL:Hid (gl≠g):=by
     have h1:=a0e CY.out;have h2:=hT.out.slot.1;show gl≠g
     intro e;rw[e]at h1;simp at h1;omega
    have cy6:(w5.setCell ⟨g,i'+1,none⟩ (.slice az1 lz1 cz1)).cell? ⟨gl,ol+(i'+1),none⟩=some y:=by
     rw[<- cy5];unfold World.setCell World.cell?;simp[Cu,Ne.symm NEL.out]
    have YN6:Hid (IsN .i64 (w5.setCell ⟨g,i'+1,none⟩ (.slice az1 lz1 cz1)) y (f (i'+1))):=YW.out.call B6.out;obtain⟨w6,hw6⟩:=gn (w5.setCell ⟨g,i'+1,none⟩ (.slice az1 lz1 cz1));clear m1 cy5 cx1 cx0 cy;go_wp2_with fail
    try simp only[b0b]
    rw[hw6]at T2 B6 cy6 YN6
    try rw[hw6]
    clear hw6 m2 m3;obtain⟨x,cx,hx,-⟩:=T2.out.at (i:=i'+1) IL.out;simp only[Ew]at hx;have XN:=hid hx;clear hx;refine a0T 11 2 [0,1,2,3,4,5,6,7,8,9] 1 (fun W'=>W'.cell? ⟨g,i'+1,none⟩=some x/\W'.cell? ⟨gl,ol+(i'+1),none⟩=some y) (by kernel_rfl) rfl (by kernel_rfl) (by kernel_rfl) (by kernel_rfl) (by kernel_rfl) ⟨cx,cy6⟩ ?_
    iterate 10
     refine⟨_,rfl,?_⟩;apply Exists.intro
     refine⟨.inl ⟨by rfl,?_⟩,?_⟩
     .rintro W' ⟨r1,r2⟩;go_simp;try with_reducible rfl
     go_frame
    refine a0c (i:=10) (by kernel_rfl) rfl rfl ?_;go_wp2_with fail;refine (c0I _ _ _ _ _ (XN.out.call br0.drew) (YN6.out.call br0.drew) (HL2.out i' (by have:=IL.out;omega)) (HLF.out (i'+1) (by have:=IL.out;omega)).1).mono ?_;rintro e w7 ⟨⟨zz,rfl,hz,hf⟩,hbc⟩;obtain⟨az2,cz2,rfl,-,-,-⟩:=hz.openI;obtain⟨lz2,hlz⟩:=gn ((limbs (cvo f pw2 i'+cvo f pw2 i'+f (i'+1))).length);rw[hlz]at hz hf |-;clear hlz;have C2:=hid (show Below w6.heap.size w6 w7 from br0.drew.trans hbc);obtain⟨T3,Z2⟩:=zu (T2.out.call C2.out) hz;have FZ2:Hid (∀ g',(Value.slice az2 lz2 cz2).ownBlock=some g'->w.heap.size<=g'/\g'≠g):=fun g' hg=>by
     have h1:w6.heap.size<=g':=hf g' hg;have h2:=T2.out.slot;have h3:=B6.out.size;exact⟨by omega,by omega⟩
    have m1:=(C2.out.cell (a0e cx)).trans cx;have m2:=(C2.out.cell (a0e cy6)).trans cy6;have B7:=hid (B6.out.trans (C2.out.mono B6.out.size));clear hz hf hbc cx cy6;go_wp2_with fail;refine⟨⟨m1,m2⟩,?_⟩;refine J8 (by kernel_rfl) ?_ _;simp only[b0b,c0t,Aj,K9];have m3:=T3.out.slot.2.2.2.2 (i'+1);have T4:Hid (NTab w.heap.size (w7.setCell ⟨g,i'+1,none⟩ (.slice az2 lz2 cz2)) g (n+1) c (fun j=>if j<i'+1+1 then cvo f pw2 j else 0)):=(T3.out.put (i'+1) Z2.out (.inr FZ2.out)).fn fun j hj=>by
     by_cases e:j=i'+1
     .rw[J3 e,J3 (by omega),e,m0O]
     .rw[J2 e,J2 e];by_cases e2:j<i'+1
      .rw[J3 e2,J3 (by omega)]
      .rw[J2 e2,J2 (by omega)]
    have B8:=hid (B7.out.setCell (p:=⟨g,i'+1,none⟩) (by have:=hT.out.slot.1;exact this) (.slice az2 lz2 cz2));go_wp2_with fail
    try simp only[b0b]
    go_roundw
    case rel=>exact⟨i'+1+1,by go_num,by have:=IL.out;omega,T4,B8⟩
    case measure=>simp[intOf]<;>(have:=IL.out;omega)
  .have q0:decide ((i:Int)<((n+1:Nat):Int))=false:=by simp;omega
   have d0:decide ((i:Int)<(n:Int)+1)=false:=by simp;omega
   have e1:i=n+1:=by omega
   subst e1;have TE:Hid (NTab w.heap.size wr g (n+1) c (cvo f pw2)):=hT.out.fn fun i hi=>by rw[J3 hi]
   clear hi hlt;go_wp2_with fail;go_ret
   exact⟨⟨g,c,rfl,TE.out⟩,hB.out⟩
def Lh:=@List.length_range
def j0S (w:World)(v u:Value)(n:Nat)(f:Nat->Nat)(b:Nat->Bool)(hn:n<=1000)(hv:NRow w v (n+1) f)(hu:Row w u ((List.range (n+1)).map fun j=>.bool (b j)))(h0:b 0=false)(hd:∀ i,i<=n->nDigits (cvo (chi b) f i)<=4000/\nDigits (f i)<=4000):
 Calls prog 284 #[v,u] w fun e w'=>(∃ g c,e=.returned (.slice (some ⟨g,0,none⟩) (n+1) c)/\NTab w.heap.size w' g (n+1) c (cvo (chi b) f))/\Below w.heap.size w w':=by
 obtain⟨a,cv,rfl,q1,q2⟩:=hv.openA;have HEL:Hid (∀ i,i<n+1->∃ g o x,a=some ⟨g,o,none⟩/\g<w.heap.size/\w.cell? ⟨g,o+i,none⟩=some x/\IsN .i64 w x (f i)):=fun i hi=>hv.el hi
 obtain⟨ab,cb,rfl,p1,p2,p3⟩:=hu.ex;have HBL:Hid (∀ i,i<n+1->∃ g o,ab=some ⟨g,o,none⟩/\w.cell? ⟨g,o+i,none⟩=some (.bool (b i))):=fun i hi=>by
  obtain⟨g,o,h1,h2,h3⟩:=p3 i (.bool (b i)) (by rw[Et,Fl hi];rfl);exact⟨g,o,h1,h3⟩
 rw[Dp,Lh]at p1 |-;have HLF:Hid (∀ i,i<=n->(limbs (f i)).length<=1000000):=fun i hi=>a0x (hd i hi).2
 have HLA:Hid (∀ i j k,i<=n->k<=n->(limbs (aF b f i j k)).length<=1000000):=fun i j k hi hk=>a0x (J0 (a0r (c1m hi hk)) (hd k hk).1)
 have HZ:=fun V=>hid (f0w V n hn)
 obtain⟨HN,H0⟩:=zu hn h0;have wn:IntKind.i64.wrap (((n+1:Nat):Int)-1)=(n:Int):=by rw[U0 _ ⟨by omega,by omega⟩];omega
 have wn':IntKind.i64.wrap ((n:Int)+1-1)=(n:Int):=by rw[U0 _ ⟨by omega,by omega⟩];omega
 clear hn hv hd hu p3 h0;go_enter func284,ntmps284;go_wp2_with fail;refine (HZ _).out.mono ?_;rintro e w1 ⟨⟨g,c,rfl,ht⟩,hb1⟩;have T0:Hid (NTab w.heap.size w1 g (n+1) c (aF b f 0 1)):=ht.fn fun i _=>(t0C f H0.out i).symm
 have B1:=hid hb1;clear ht hb1;go_wp2_with fail
 go_loopw [6] (fun s6 wr=>∃ i:Nat,s6=.int .i64 (i:Nat)/\i<=n+1/\Hid (NTab w.heap.size wr g (n+1) c (aF b f i 1))/\Hid (Below w.heap.size w wr)) (fun s6 wr=>n+1-(intOf s6).toNat)
 case atStart=>exact⟨0,rfl,K5 _,T0,B1⟩
 case round=>
  clear T0 B1;obtain⟨i,rfl,hi,hT,hB⟩:=hrel;by_cases hlt:i<n+1
  .have q0:decide ((i:Int)<((n+1:Nat):Int))=true:=by simp;omega
   have d0:decide ((i:Int)<(n:Int)+1)=true:=by simp;omega
   have f0:=qw i
   have f1:(i:Int)<((n+1:Nat):Int):=by omega
   have f1':(i:Int)<(n:Int)+1:=by omega
   have f9:(i:Int)<=1000:=by have:=HN.out;omega
   have IL:=hid hlt;obtain⟨gl,ol,y,rfl,hgl,hy1,hy2⟩:=HEL.out i hlt;obtain⟨YW,CY⟩:=zu hy2 hy1;clear hi hlt hy1 hy2 hgl;go_wp2_with fail
   go_loopw [7] (fun s7 wq=>∃ j:Nat,s7=.int .i64 (j:Nat)/\1<=j/\(i+j<=n+1\/j=1)/\Hid (NTab w.heap.size wq g (n+1) c (aF b f i j))/\Hid (Below w.heap.size w wq)) (fun s7 wq=>n+2-(intOf s7).toNat)
   case atStart=>exact⟨1,rfl,O4 _,.inr rfl,hT,hB⟩
   case round=>
    clear hT hB;obtain⟨j,rfl,hj1,hj,hT,hB⟩:=hrel;have wij:IntKind.i64.wrap ((i:Int)+(j:Int))=(i:Int)+(j:Int):=by have:=HN.out;rw[U0 _ ⟨by omega,by omega⟩]
    by_cases hlt:i+j<n+1
    .have q1:decide ((i:Int)+(j:Int)<((n+1:Nat):Int))=true:=by simp;omega
     have d1:decide ((i:Int)+(j:Int)<(n:Int)+1)=true:=by simp;omega
     have f2:=qw j
     have f3:(j:Int)<((n+1:Nat):Int):=by omega
     have f3':(j:Int)<(n:Int)+1:=by omega
     have f4:(0:Int)<=(i:Int)+(j:Int):=by omega
     have f5:(i:Int)+(j:Int)<((n+1:Nat):Int):=by omega
     have f5':(i:Int)+(j:Int)<(n:Int)+1:=by omega
     have f6:(j:Int)<=1000:=by have:=HN.out;omega
     have et:((i:Int)+(j:Int)).toNat=i+j:=by omega
     have JL:=hid hlt;obtain⟨gb,ob,rfl,hb1⟩:=HBL.out j (by omega);have cb1:=(hB.out.cell (a0e hb1)).trans hb1;obtain⟨bj,hbj⟩:=gn (b j);rw[hbj]at cb1;obtain⟨HBJ,J1⟩:=zu hbj hj1;clear hj hlt hb1 hbj;cases bj
     .have T2:Hid (NTab w.heap.size wr g (n+1) c (aF b f i (j+1))):=hT.out.fn fun k _=>(t0E HBJ.out k).symm
      clear hj1;go_wp2_with fail;go_roundw
      case rel=>exact⟨j+1,by go_num,by omega,.inl (by have:=JL.out;omega),T2,hB⟩
      case measure=>simp[intOf]<;>(have:=JL.out;omega)
     .obtain⟨x,cx,hx,-⟩:=hT.out.at (i:=i+j) JL.out;have XN:=hid hx;have cy:=(hB.out.cell (a0e CY.out)).trans CY.out;have YN:=hid (YW.out.call hB.out);clear hx hj1;go_wp2_with fail;refine a0T 15 2 [0,1,2,3,4,5,6,7,8,9,10,11,12,13] 1 (fun W'=>W'.cell? ⟨g,i+j,none⟩=some x/\W'.cell? ⟨gl,ol+i,none⟩=some y) (by kernel_rfl) rfl (by kernel_rfl) (by kernel_rfl) (by kernel_rfl) (by kernel_rfl) ⟨cx,cy⟩ ?_
      iterate 14
       refine⟨_,rfl,?_⟩;apply Exists.intro
       refine⟨.inl ⟨by rfl,?_⟩,?_⟩
       .rintro W' ⟨r1,r2⟩;go_simp;try with_reducible rfl
       go_frame
      refine a0c (i:=14) (by kernel_rfl) rfl rfl ?_;go_wp2_with fail;refine (c0I _ _ _ _ _ (XN.out.call br0.drew) (YN.out.call br0.drew) (HLA.out i j (i+j) (by have:=IL.out;omega) (by have:=JL.out;omega)) (HLF.out i (by have:=IL.out;omega))).mono ?_;rintro e w5 ⟨⟨zz,rfl,hz,hf⟩,hbc⟩;obtain⟨az1,cz1,rfl,-,-,-⟩:=hz.openI;obtain⟨lz1,hlz⟩:=gn ((limbs (aF b f i j (i+j)+f i)).length);rw[hlz]at hz hf |-;clear hlz;have C1:=hid (show Below wr.heap.size wr w5 from br0.drew.trans hbc);obtain⟨T1,Z1⟩:=zu (hT.out.call C1.out) hz;have FZ1:Hid (∀ g',(Value.slice az1 lz1 cz1).ownBlock=some g'->w.heap.size<=g'/\g'≠g):=fun g' hg=>by
       have h1:wr.heap.size<=g':=hf g' hg;have h2:=hT.out.slot;have h3:=hB.out.size;exact⟨by omega,by omega⟩
      have m1:=(C1.out.cell (a0e cx)).trans cx;have m2:=(C1.out.cell (a0e cy)).trans cy;have B5:=hid (hB.out.trans (C1.out.mono hB.out.size));clear hz hf hbc cx cy cb1;go_wp2_with fail;refine⟨⟨m1,m2⟩,?_⟩;refine J8 (by kernel_rfl) ?_ _;simp only[b0b,c0t,Aj,K9];have m3:=T1.out.slot.2.2.2.2 (i+j);have T2:Hid (NTab w.heap.size (w5.setCell ⟨g,i+j,none⟩ (.slice az1 lz1 cz1)) g (n+1) c (aF b f i (j+1))):=(T1.out.put (i+j) Z1.out (.inr FZ1.out)).fn fun k hk=>by
       rw[t0D HBJ.out];by_cases e:k=i+j
       .rw[J3 e,J3 e,e]
       .rw[J2 e,J2 e]
      have B6:=hid (B5.out.setCell (p:=⟨g,i+j,none⟩) (by have:=hT.out.slot.1;exact this) (.slice az1 lz1 cz1));go_wp2_with fail
      try simp only[b0b]
      go_roundw
      case rel=>exact⟨j+1,by go_num,by have:=J1.out;omega,.inl (by have:=JL.out;omega),T2,B6⟩
      case measure=>simp[intOf]<;>(have:=JL.out;omega)
    .have q1:decide ((i:Int)+(j:Int)<((n+1:Nat):Int))=false:=by simp;omega
     have d1:decide ((i:Int)+(j:Int)<(n:Int)+1)=false:=by simp;omega
     have f6:(j:Int)<=1002:=by have:=HN.out;omega
     have e1:j=n+1-i\/(i=n/\j=1):=by have:=IL.out;omega
     have e2:j=n+1-i:=by have:=IL.out;omega
     subst e2;have T2:Hid (NTab w.heap.size wr g (n+1) c (aF b f (i+1) 1)):=hT.out.fn fun k hk=>t0F H0.out (by have:=IL.out;omega) (by omega)
     clear hj hlt hj1 e1;go_wp2_with fail;go_roundw
     case rel=>exact⟨i+1,by go_num,by have:=IL.out;omega,T2,hB⟩
     case measure=>simp[intOf]<;>(have:=IL.out;omega)
  .have q0:decide ((i:Int)<((n+1:Nat):Int))=false:=by simp;omega
   have d0:decide ((i:Int)<(n:Int)+1)=false:=by simp;omega
   have e1:i=n+1:=by omega
   subst e1;have TE:Hid (NTab w.heap.size wr g (n+1) c (cvo (chi b) f)):=hT.out.fn fun i hi=>x0a (by omega)
   clear hi hlt;go_wp2_with fail;go_ret
   exact⟨⟨g,c,rfl,TE.out⟩,hB.out⟩
def bls (f:Nat->Bool)(j:Nat):List Value:=(List.range j).map fun i=>Value.bool (f i)
def t0x (f:Nat->Bool)(j:Nat):(bls f j).length=j:=by simp[bls]
def o0B (f:Nat->Bool)(j:Nat):bls f (j+1)=bls f j ++ [.bool (f j)]:=by simp[bls,My]
structure TsS (W:World)(B gc:Nat)(v1 v2:Value)(j:Nat)(f1 f2:Nat->Bool):Prop where
 blk:Blk W gc #[v1,v2] 268
 o1:W.ownsRow B 4 1 v1 j (bls f1 j)
 o2:W.ownsRow B 4 1 v2 j (bls f2 j)
 n1:v1.ownBlock≠some gc
 n2:v2.ownBlock≠some gc
 n12:∀ g,v1.ownBlock=some g->v2.ownBlock≠some g
 b1:∀ g,v1.ownBlock=some g->B+1<g
 b2:∀ g,v2.ownBlock=some g->B+1<g
theorem TsS.call {W W':World}{B gc:Nat}{v1 v2:Value}{j:Nat}{f1 f2:Nat->Bool}(h:TsS W B gc v1 v2 j f1 f2)(hb:Below W.heap.size W W'):TsS W' B gc v1 v2 j f1 f2:=
 ⟨h.blk.call hb,a0C h.o1 hb,a0C h.o2 hb,h.n1,h.n2,h.n12,h.b1,h.b2⟩
def x0f {W w5 w6:World}{B gc J:Nat}{v1 v2 v1' v2':Value}{f1 f2:Nat->Bool}{o1 o2:Obj}{x1 x2:Bool}(h:TsS W B gc v1 v2 J f1 f2)(hgc:B+1<gc)(e1:f1 J=x1)(e2:f2 J=x2)
 (own1:w5.ownsRow B 4 1 v1' (J+1) (bls f1 J ++ [.bool x1])) (g1:(W.alloc o1).grownBy w5 v1.ownBlock) (at1:v1'.ownBlock=v1.ownBlock\/v1'.ownBlock=some (W.heap.size+1))
 (own2:w6.ownsRow B 4 1 v2' (J+1) (bls f2 J ++ [.bool x2])) (g2:(w5.alloc o2).grownBy w6 v2.ownBlock) (at2:v2'.ownBlock=v2.ownBlock\/v2'.ownBlock=some (w5.heap.size+1)):
 TsS ((w6.setCell ⟨gc,0,none⟩ v1').setCell ⟨gc,1,none⟩ v2') B gc v1' v2' (J+1) f1 f2:=by
 have hlt:=h.blk.lt;have s5:W.heap.size+1<=w5.heap.size:=by have:=g1.size;simpa using this
 have n1:v1'.ownBlock≠some gc:=by
  rcases at1 with e | e
  .rw[e];exact h.n1
  .rw[e];intro e';have:=Ag e';omega
 have n2:v2'.ownBlock≠some gc:=by
  rcases at2 with e | e
  .rw[e];exact h.n2
  .rw[e];intro e';have:=Ag e';omega
 have k1:v1'.ownBlock=none\/v1'.ownBlock≠v2.ownBlock:=by
  cases hv:v1'.ownBlock with
  | none=>exact .inl rfl
  | some g=>
   right
   intro e;rcases at1 with e' | e'
   .rw[hv]at e';exact h.n12 g e'.symm e.symm
   .rw[hv]at e';have h1:=(h.o2.lt g e.symm).2;have:=Ag e';omega
 have oo1:w6.ownsRow B 4 1 v1' (J+1) (bls f1 J ++ [.bool x1]):=(own1.alloc o2).kept g2 k1;have bk:Blk w6 gc #[v1,v2] 268:=Blk.grown ((Blk.grown (h.blk.alloc o1) g1 h.n1).alloc o2) g2 h.n2;refine⟨?_,?_,?_,n1,n2,?_,?_,?_⟩
 .have:=(bk.set 0 v1').set 1 v2';simpa using this
 .rw[o0B,e1];exact c0d (c0d oo1 (a:=⟨gc,0,none⟩) n1 _) (a:=⟨gc,1,none⟩) n1 _
 .rw[o0B,e2];exact c0d (c0d own2 (a:=⟨gc,0,none⟩) n2 _) (a:=⟨gc,1,none⟩) n2 _
 .intro g hg hg2;rcases at2 with e | e
  .rw[e]at hg2;rcases k1 with k | k
   .rw[k]at hg;cases hg
   .exact k (hg.trans hg2.symm)
  .rw[e]at hg2;have h1:=(own1.lt g hg).2;have:=Ag hg2;omega
 .intro g hg;rcases at1 with e | e
  .rw[e]at hg;exact h.b1 g hg
  .rw[e]at hg;have:=Ag hg;omega
 .intro g hg;rcases at2 with e | e
  .rw[e]at hg;exact h.b2 g hg
  .rw[e]at hg;have:=Ag hg;omega
def s0o:(prog.info? 4).map (fun i=>(i.zero,i.size,i.bytes))=some (some (.bool false),1,1):=by kernel_rfl
def y0i (x:Nat):(b0g (x%2) 1==0)=decide (x%2=1):=by
 have h:=Is x;rcases h with h | h
 .rw[h,b0N (by omega)];rfl
 .rw[h,c0P];rfl
def y0j (x:Nat):(b0g x 0==0)=decide (x=0):=by
 rcases H8 x with h | h
 .rw[h,c0P];rfl
 .rw[c0k h];have:decide (x=0)=false:=by simp;omega
  rw[this];rfl
def numB_two':a0f 2=⟨#[50]⟩:=by unfold a0f;rw[a0u (by omega)];rfl
def p0E {W w5:World}{b:Option Nat}(h:W.drew.grownBy w5 b):W.grownBy w5 b:=⟨h.os,h.tape,h.output,h.size,h.block⟩
def g0n {w W w5:World}{b:Option Nat}(h:Below w.heap.size w W)(g:W.grownBy w5 b)(hb:∀ k,b=some k->w.heap.size<=k):Below w.heap.size w w5:=
 h.trans ⟨g.os,g.tape,g.output,g.size,fun i hi=>g.block i (by have:=h.size;omega) (fun e=>by have:=hb _ e.symm;omega)⟩
def l0s (w:World)(m:Bool)(vN vD:Value)(N D n:Nat)(hn:n<=300)(h0:0<N)(hND:N<D)(hN:IsN .i64 w vN N)(hD:IsN .i64 w vD D)(hd:∀ j,j<=n->nDigits (N*2 ^ j)<=4000):
 Calls prog 283 #[.agg #[.bool m,vN,vD],.int .i64 (n:Nat)] w fun e w'=>(∃ u1 u2,e=.returned (.agg #[u1,u2])/\Row w' u1 (bls (a0D N D) (n+1))/\Row w' u2 (bls (a0i N D) (n+1)))/\Below w.heap.size w w':=by
 obtain⟨i0,hi,hz0,hz1,hz2⟩:=Dx s0o;obtain⟨aN,cN,rfl,-,-,-⟩:=hN.openI;obtain⟨aD,cD,rfl,-,-,-⟩:=hD.openI;obtain⟨lN,hlN⟩:=gn ((limbs N).length);obtain⟨lD,hlD⟩:=gn ((limbs D).length);rw[hlN]at hN |-;rw[hlD]at hD |-;have HT:=hid (fun j=>u0t hND j);have HL1:Hid (∀ j,j<=n->(limbs (N*2 ^ j)).length<=1000000/\(limbs (2 ^ j)).length<=1000000/\(limbs (N*2 ^ j / D)).length<=1000000):=fun j hj=>⟨a0x (hd j hj),a0x (J0 (a0r (Kt _ h0)) (hd j hj)),a0x (J0 (a0r (Ef _ _)) (hd j hj))⟩
 have HLN:Hid ((limbs N).length<=1000000):=a0x (by have:=hd 0 (K5 _);simpa using this);have HD0:Hid (0<D):=by show 0<D;omega
 have S0:Hid ((sdx N D 0).2=true/\a0D N D 0=false/\a0i N D 0=false):=⟨by simp[sdx];omega,rfl,by simp[a0i];omega⟩;have H2:=fun V=>hid (c0H V 2 (J0 (a0l (k:=1) (by omega) (by omega)) (by omega)))
 rw[numB_two']at H2;have H1:=fun V=>hid (j0h V)
 have H0:=fun V=>hid (h0l V)
 obtain⟨NN,ND,HN⟩:=zg hN hD hn;obtain⟨W1,hW1⟩:=gn ((((((w.alloc (.cells #[.bool m,.slice aN lN cN,.slice aD lD cD] 81)).alloc (.cells #[.slice none 0 0,.slice none 0 0] 268)).alloc (.cells #[.bool false] 4)).alloc (.cells #[.bool false] 4)).alloc (.cells #[.slice (some ⟨w.heap.size+1+1,0,none⟩) 1 1,.slice (some ⟨w.heap.size+1+1+1,0,none⟩) 1 1] 268)));have B1:Hid (Below w.heap.size w W1):=by
  show Below w.heap.size w W1
  rw[<- hW1];exact ((((br0.alloc nr _).alloc (by simp) _).alloc (by simp<;>omega) _).alloc (by simp<;>omega) _).alloc (by simp<;>omega) _
 have K0:Hid (Blk W1 w.heap.size #[.bool m,.slice aN lN cN,.slice aD lD cD] 81):=by
  show Blk _ _ _ _
  rw[<- hW1];have h:=Blk.new w #[.bool m,.slice aN lN cN,.slice aD lD cD] 81;exact (((h.alloc _).alloc _).alloc _).alloc _
 have K1:Hid (Blk W1 (w.heap.size+1) #[.slice none 0 0,.slice none 0 0] 268):=by
  show Blk _ _ _ _
  rw[<- hW1];have h:=Blk.new (w.alloc (.cells #[.bool m,.slice aN lN cN,.slice aD lD cD] 81)) #[.slice none 0 0,.slice none 0 0] 268;rw[show (w.alloc (.cells #[.bool m,.slice aN lN cN,.slice aD lD cD] 81)).heap.size=w.heap.size+1 by simp]at h;exact ((h.alloc _).alloc _).alloc _
 have K2:Blk W1 (w.heap.size+1+1) #[.bool false] 4:=by
  rw[<- hW1];have h:=Blk.new ((w.alloc (.cells #[.bool m,.slice aN lN cN,.slice aD lD cD] 81)).alloc (.cells #[.slice none 0 0,.slice none 0 0] 268)) #[.bool false] 4;rw[show ((w.alloc (.cells #[.bool m,.slice aN lN cN,.slice aD lD cD] 81)).alloc (.cells #[.slice none 0 0,.slice none 0 0] 268)).heap.size=w.heap.size+1+1 by simp]at h;exact (h.alloc _).alloc _
 have K3:Blk W1 (w.heap.size+1+1+1) #[.bool false] 4:=by
  rw[<- hW1];have h:=Blk.new (((w.alloc (.cells #[.bool m,.slice aN lN cN,.slice aD lD cD] 81)).alloc (.cells #[.slice none 0 0,.slice none 0 0] 268)).alloc (.cells #[.bool false] 4)) #[.bool false] 4;rw[show (((w.alloc (.cells #[.bool m,.slice aN lN cN,.slice aD lD cD] 81)).alloc (.cells #[.slice none 0 0,.slice none 0 0] 268)).alloc (.cells #[.bool false] 4)).heap.size=w.heap.size+1+1+1 by simp]at h;exact h.alloc _
 have K4:Blk W1 (w.heap.size+1+1+1+1) #[.slice (some ⟨w.heap.size+1+1,0,none⟩) 1 1,.slice (some ⟨w.heap.size+1+1+1,0,none⟩) 1 1] 268:=by
  rw[<- hW1];have h:=Blk.new ((((w.alloc (.cells #[.bool m,.slice aN lN cN,.slice aD lD cD] 81)).alloc (.cells #[.slice none 0 0,.slice none 0 0] 268)).alloc (.cells #[.bool false] 4)).alloc (.cells #[.bool false] 4)) #[.slice (some ⟨w.heap.size+1+1,0,none⟩) 1 1,.slice (some ⟨w.heap.size+1+1+1,0,none⟩) 1 1] 268;rw[show ((((w.alloc (.cells #[.bool m,.slice aN lN cN,.slice aD lD cD] 81)).alloc (.cells #[.slice none 0 0,.slice none 0 0] 268)).alloc (.cells #[.bool false] 4)).alloc (.cells #[.bool false] 4)).heap.size=w.heap.size+1+1+1+1 by simp]at h;exact h
 have T1:Hid (TsS W1 w.heap.size (w.heap.size+1+1+1+1) (.slice (some ⟨w.heap.size+1+1,0,none⟩) 1 1) (.slice (some ⟨w.heap.size+1+1+1,0,none⟩) 1 1) 1 (a0D N D) (a0i N D)):=by
  refine⟨K4,⟨rfl,.inr ⟨_,1,_,rfl,by omega,K2,O4 _,by unfold maxLen;omega,rfl,?_⟩⟩,⟨rfl,.inr ⟨_,1,_,rfl,by omega,K3,O4 _,by unfold maxLen;omega,rfl,?_⟩⟩,?_,?_,?_,?_,?_⟩
  .show [Value.bool false] = [Value.bool (a0D N D 0)]
   rw[S0.out.2.1]
  .show [Value.bool false] = [Value.bool (a0i N D 0)]
   rw[S0.out.2.2]
  .simp[Value.ownBlock]
  .simp[Value.ownBlock]
  .intro g hg e;simp[Value.ownBlock]at hg e;omega
  .intro g hg;simp[Value.ownBlock]at hg;omega
  .intro g hg;simp[Value.ownBlock]at hg;omega
 clear hN hD hd hn h0 hND K2 K3 K4 hlN hlD;go_enter func283,ntmps283;go_wp2_with fail
 try rw[hW1]
 clear hW1;obtain⟨gc,hgc⟩:=gn (w.heap.size+1+1+1+1);rw[hgc]at T1 |-;have HGC:Hid (w.heap.size+1<gc):=by show w.heap.size+1<gc;omega
 clear hgc
 go_loopw [6,7] (fun s6 s7 wr=>∃ J v1 v2,s6=.bool ((sdx N D (J-1)).2)/\s7=.int .i64 (J:Nat)/\1<=J/\J<=n+1/\Hid (TsS wr w.heap.size gc v1 v2 J (a0D N D) (a0i N D))/\Hid (Blk wr w.heap.size #[.bool m,.slice aN lN cN,.slice aD lD cD] 81)/\Hid (Blk wr (w.heap.size+1) #[.slice none 0 0,.slice none 0 0] 268)/\Hid (Below w.heap.size w wr)) (fun s6 s7 wr=>n+1-(intOf s7).toNat)
 case atStart=>exact⟨1,_,_,by rw[S0.out.1],rfl,O4 _,by omega,T1,K0,K1,B1⟩
 case round=>
  clear T1 K0 K1 B1;obtain⟨J,v1,v2,rfl,rfl,hJ1,hJ2,hT,hK0,hK1,hB⟩:=hrel;by_cases hlt:J<=n
  .have d0:decide ((J:Int)<=(n:Int))=true:=by simp;omega
   have d0':decide (J<=n)=true:=by simp;omega
   obtain⟨t1,t2,t3⟩:=HT.out (J-1);rw[show J-1+1=J by omega]at t1 t2 t3;obtain⟨l1,l2,l3⟩:=HL1.out J hlt;have wi:IntKind.i64.wrap ((J:Int)+1)=((J+1:Nat):Int):=by have:=HN.out;rw[U0 _ ⟨by omega,by omega⟩];omega
   have JL:=hid hlt;obtain⟨o,ho⟩:=gn ((sdx N D (J-1)).2);rw[ho]at t1 t2 t3 |-;have KB:Hid (∀ W,Below wr.heap.size wr W->W.cell? ⟨w.heap.size,1,none⟩=some (.slice aN lN cN)/\W.cell? ⟨w.heap.size,2,none⟩=some (.slice aD lD cD)):=fun W hW=>⟨(hK0.out.call hW).cell 1,(hK0.out.call hW).cell 2⟩
   obtain⟨RN,RD,L1,L2,L3,HT1,HT2,HT3⟩:=kq (NN.out.call hB.out) (ND.out.call hB.out) l1 l2 l3 t1 t2 t3;clear hlt hJ1 hJ2 ho t1 t2 t3 l1 l2 l3;go_wp2_with fail;refine a0j [0,1,2,5,6] 8 (fun W'=>W'.cell? ⟨w.heap.size,1,none⟩=some (.slice aN lN cN)/\W'.cell? ⟨w.heap.size,2,none⟩=some (.slice aD lD cD)) (by kernel_rfl) (by kernel_rfl) (by kernel_rfl) (by kernel_rfl) (KB.out _ br0.drew) ?_
   iterate 5
    refine⟨_,rfl,?_⟩;apply Exists.intro
    refine⟨.inl ⟨by rfl,?_⟩,?_⟩
    .rintro W' ⟨r1,r2⟩;go_simp;try with_reducible rfl
    go_frame
   refine a0c (i:=3) (by kernel_rfl) rfl rfl ?_;go_wp2_with fail;refine (n0I _ J (by have:=JL.out;have:=HN.out;omega)).mono ?_;rintro e wa ⟨⟨vt,rfl,hvt⟩,hba⟩;obtain⟨A1,VT⟩:=zu (show Below wr.heap.size wr wa from br0.drew.trans hba) hvt;clear hba hvt;go_wp2_with fail;refine⟨KB.out _ A1.out,?_⟩;refine a0c (i:=4) (by kernel_rfl) rfl rfl ?_;go_wp2_with fail;refine ng (b0n _ _ _ _ _ (RN.out.call A1.out) VT.out HLN.out L2.out) fun vp wb hvp hbb=>?_;have A2:=qx A1 hbb;have VP:=hid hvp;clear hbb hvp VT;go_wp2_with fail;refine⟨KB.out _ A2.out,?_⟩;refine a0c (i:=7) (by kernel_rfl) rfl rfl ?_;go_wp2_with fail;refine (h0r _ _ _ _ _ VP.out (RD.out.call A2.out) HD0.out L1.out).mono ?_;rintro e wc ⟨⟨vk,vr,rfl,hvk,hvr⟩,hbc⟩;have A3:=qx A2 hbc;obtain⟨VK,VR⟩:=zu hvk hvr;clear hbc hvk hvr VP;go_wp2_with fail;refine⟨KB.out _ A3.out,?_⟩;refine a0V (is:=[8,9,10,11,12]) (g:=0) (by kernel_rfl) rfl (KB.out _ A3.out) (by kernel_rfl) ?_
   iterate 5
    refine⟨_,rfl,?_⟩;apply Exists.intro
    refine⟨.inl ⟨by rfl,?_⟩,?_⟩
    .rintro W' ⟨r1,r2⟩;go_simp;try with_reducible rfl
    go_frame
   refine J8 (by kernel_rfl) ?_ _;simp only[b0b];go_wp2_with fail;refine (H2 _).out.mono ?_;rintro e wd ⟨⟨v2',rfl,hv2,-⟩,hbd⟩;have A4:=qx A3 hbd;obtain⟨VK4,VR4,V2⟩:=zg (VK.out.call hbd) (VR.out.call hbd) hv2;clear hbd hv2;go_wp2_with fail;refine (h0r _ _ _ _ _ VK4.out V2.out (by omega) L3.out).mono ?_;rintro e we ⟨⟨vq,vo,rfl,-,hvo⟩,hbe⟩;have A5:=qx A4 hbe;obtain⟨VR5,VO⟩:=zu (VR4.out.call hbe) hvo;clear hbe hvo;go_wp2_with fail;refine (H1 _).out.mono ?_;rintro e wf ⟨⟨v1',rfl,hv1,-⟩,hbf⟩;have A6:=qx A5 hbf;obtain⟨VR6,VO6,V1⟩:=zg (VR5.out.call hbf) (VO.out.call hbf) hv1;clear hbf hv1;have oa:=y0i (N*2 ^ J / D);obtain⟨ab,hab⟩:=gn (decide (N*2 ^ J / D%2=1));rw[hab]at oa;have HAB:=hid hab;clear hab;go_wp2_with fail;refine nj (b0k _ _ _ _ _ VO6.out V1.out) fun wg hbg=>?_;have A7:=qx A6 hbg;have VR7:=hid (VR6.out.call hbg);clear hbg VO VO6 V1 V2;obtain⟨za,hza⟩:=gn (b0g (N*2 ^ J / D%2) 1);rw[hza]at oa |-;clear hza;cases ab
   focus
    have E1:Hid (a0D N D J=false/\a0i N D J=o/\(sdx N D J).2=o):=by
     refine⟨?_,?_,?_⟩
     .rw[HT1.out,HAB.out];cases o<;>rfl
     .rw[HT2.out,HAB.out];cases o<;>rfl
     .rw[HT3.out,HAB.out];cases o<;>rfl
    go_wp2_with fail;cases o
   rotate_left 2
   focus
    have oz:=y0j (N*2 ^ J%D);obtain⟨eq0,heq⟩:=gn (decide (N*2 ^ J%D=0));rw[heq]at oz;have HEQ:=hid heq;clear heq;go_wp2_with fail;refine (H0 _).out.mono ?_;rintro e wh ⟨⟨v0',rfl,hv0,-⟩,hbh⟩;have A8:=qx A7 hbh;obtain⟨VR8,V0⟩:=zu (VR7.out.call hbh) hv0;clear hbh hv0;go_wp2_with fail;refine nk (b0k _ _ _ _ _ VR8.out V0.out) A8 fun wg A7=>?_;clear V0 VR8;obtain⟨zb,hzb⟩:=gn (b0g (N*2 ^ J%D) 0);rw[hzb]at oz |-;clear hzb;cases eq0
    focus
     have E1:Hid (a0D N D J=o/\a0i N D J=false/\(sdx N D J).2=o):=by
      refine⟨?_,?_,?_⟩
      .rw[HT1.out,HAB.out];cases o<;>rfl
      .rw[HT2.out,HAB.out,HEQ.out];cases o<;>rfl
      .rw[HT3.out,HAB.out,HEQ.out];cases o<;>rfl
     go_wp2_with fail;cases o
    rotate_left 2
    focus
     have E1:Hid (a0D N D J=o/\a0i N D J=o/\(sdx N D J).2=false):=by
      refine⟨?_,?_,?_⟩
      .rw[HT1.out,HAB.out];cases o<;>rfl
      .rw[HT2.out,HAB.out,HEQ.out];cases o<;>rfl
      .rw[HT3.out,HAB.out,HEQ.out];cases o<;>rfl
     go_wp2_with fail;cases o
   all_goals
    obtain⟨x1,x2,x3⟩:=E1.out;have KC:Hid (∀ W,Below wr.heap.size wr W->W.cell? ⟨gc,0,none⟩=some v1/\W.cell? ⟨gc,1,none⟩=some v2):=fun W hW=>⟨(hT.out.call hW).blk.cell 0,(hT.out.call hW).blk.cell 1⟩
    have TA:=hid (hT.out.call A7.out);have jn:=JL.out;have hn9:=HN.out;have hgc9:=HGC.out;obtain⟨K0A,K1A,BA⟩:=zg (hK0.out.call A7.out) (hK1.out.call A7.out) (hB.out.trans (A7.out.mono hB.out.size));refine h0K 21 3 [] [(18,19),(17,18),(16,17),(11,17),(15,16),(14,16),(13,14),(12,13),(10,11)] [0,1,2,3,4,5,8,9,10] 12 (fun W'=>W'.cell? ⟨gc,0,none⟩=some v1/\W'.cell? ⟨gc,1,none⟩=some v2) (by kernel_rfl) (by kernel_rfl) (by kernel_rfl) (by kernel_rfl) (by kernel_rfl) (by kernel_rfl) (by kernel_rfl) (by kernel_rfl) (by kernel_rfl) (by kernel_rfl) (by kernel_rfl) (by kernel_rfl) (KC.out _ A7.out.drew) ?_;show e0n _ _ _ _ _ _
    iterate 9
     refine⟨_,rfl,?_⟩;apply Exists.intro
     first
      | (refine⟨.inl ⟨by rfl,?_⟩,?_⟩
         ·(rintro W' ⟨r1,r2⟩;go_simp;try with_reducible rfl))
      | refine⟨.inr ⟨by rfl,rfl⟩,?_⟩
     go_frame
    refine a0c (i:=6) (by kernel_rfl) rfl rfl ?_;go_wp2_with fail;refine⟨KC.out _ (a0a A7.out (br0.alloc nr _).drew),?_⟩;refine a0c (i:=7) (by kernel_rfl) rfl rfl ?_;refine Fd _ rfl _ _ 261 rfl w.heap.size 4 i0 (.bool false) 1 1 underlying261 hi hz0 hz1 hz2 rfl (by decide) v1 J (bls (a0D N D) J) rfl (TA.out.o1.alloc _) ⟨wg.heap.size,0,none⟩ 1 1 [_] rfl rfl (Eu wg _ _) (by simp[Value.oneCell']) (by unfold maxLen;omega) (by omega) (by have:=BA.out.size;simp;omega) ?_;intro v1' w5 hown1 hgrow1 _ hat1;have hat1':v1'.ownBlock=v1.ownBlock\/v1'.ownBlock=some (wg.heap.size+1):=by simpa using hat1
    obtain⟨G1,OW1,AT1⟩:=zg (p0E hgrow1) hown1 hat1';obtain⟨p1,q1,rfl,-,-⟩:=hown1.form (Ev J);clear hown1 hgrow1 hat1 hat1';have Bk5:Hid (Blk w5 gc #[v1,v2] 268):=Blk.grown (TA.out.blk.alloc _) G1.out TA.out.n1;have Bb5:Hid (Blk w5 w.heap.size #[.bool m,.slice aN lN cN,.slice aD lD cD] 81):=Blk.grown (K0A.out.alloc _) G1.out (fun e=>by have:=TA.out.b1 _ e;omega);have Br5:Hid (Blk w5 (w.heap.size+1) #[.slice none 0 0,.slice none 0 0] 268):=Blk.grown (K1A.out.alloc _) G1.out (fun e=>by have:=TA.out.b1 _ e;omega);have Be5:=hid (g0n (BA.out.alloc BA.out.size _) G1.out (fun k e=>by have:=TA.out.b1 _ e;omega))
    have o25:w5.ownsRow w.heap.size 4 1 v2 J (bls (a0i N D) J):=(TA.out.o2.alloc _).kept G1.out (by
     cases hv:v2.ownBlock with
     | none=>exact .inl rfl
     | some g=>exact .inr fun e=>TA.out.n12 g e.symm hv)
    have O25:=hid o25;clear o25;go_wp2_with fail;refine⟨⟨Bk5.out.cell 0,Bk5.out.cell 1⟩,?_⟩;refine a0V (is:=[11,12,13,14,15,16,17,20]) (g:=2) (by kernel_rfl) rfl ⟨Bk5.out.cell 0,Bk5.out.cell 1⟩ (by kernel_rfl) ?_
    iterate 8
     refine⟨_,rfl,?_⟩;apply Exists.intro
     first
      | (refine⟨.inl ⟨by rfl,?_⟩,?_⟩
         ·(rintro W' ⟨r1,r2⟩;go_simp;try with_reducible rfl))
      | refine⟨.inr ⟨by rfl,rfl⟩,?_⟩
     go_frame
    refine a0c (i:=18) (by kernel_rfl) rfl rfl ?_;go_wp2_with fail;refine⟨⟨(Bk5.out.alloc _).cell 0,(Bk5.out.alloc _).cell 1⟩,?_⟩;refine a0c (i:=19) (by kernel_rfl) rfl rfl ?_;refine Fd _ rfl _ _ 261 rfl w.heap.size 4 i0 (.bool false) 1 1 underlying261 hi hz0 hz1 hz2 rfl (by decide) v2 J (bls (a0i N D) J) rfl (O25.out.alloc _) ⟨w5.heap.size,0,none⟩ 1 1 [_] rfl rfl (Eu w5 _ _) (by simp[Value.oneCell']) (by unfold maxLen;omega) (by omega) (by have:=Be5.out.size;simp;omega) ?_;intro v2' w6 hown2 hgrow2 _ hat2;have hat2':v2'.ownBlock=v2.ownBlock\/v2'.ownBlock=some (w5.heap.size+1):=by simpa using hat2
    obtain⟨G2,OW2,AT2⟩:=zg hgrow2 hown2 hat2';obtain⟨p2,q2,rfl,-,-⟩:=hown2.form (Ev J);clear hown2 hgrow2 hat2 hat2';have Bk6:Hid (Blk w6 gc #[v1,v2] 268):=Blk.grown (Bk5.out.alloc _) G2.out TA.out.n2;have Bb6:Hid (Blk w6 w.heap.size #[.bool m,.slice aN lN cN,.slice aD lD cD] 81):=Blk.grown (Bb5.out.alloc _) G2.out (fun e=>by have:=TA.out.b2 _ e;omega);have Br6:Hid (Blk w6 (w.heap.size+1) #[.slice none 0 0,.slice none 0 0] 268):=Blk.grown (Br5.out.alloc _) G2.out (fun e=>by have:=TA.out.b2 _ e;omega);have Be6:=hid (g0n (Be5.out.alloc Be5.out.size _) G2.out (fun k e=>by have:=TA.out.b2 _ e;omega));go_wp2_with fail;refine⟨⟨Bk6.out.cell 0,Bk6.out.cell 1⟩,?_⟩;refine J8 (by kernel_rfl) ?_ _;simp only[b0b,c0t,Aj,K9];have TN:=hid (x0f TA.out HGC.out x1 x2 OW1.out G1.out AT1.out OW2.out G2.out AT2.out);have c0:=Bk6.out.cell 0;have f0:=Bk6.out.free 0;have Bk7:=Bk6.out.set 0 (.slice (some ⟨p1,0,none⟩) (J+1) q1);have c1:=Bk7.cell 1;have f1:=Bk7.free 1;simp at c0 c1;obtain⟨B7,Bb7,Br7⟩:=zg ((Be6.out.setCell (p:=⟨gc,0,none⟩) (by simp;omega) (.slice (some ⟨p1,0,none⟩) (J+1) q1)).setCell (p:=⟨gc,1,none⟩) (by simp;omega) (.slice (some ⟨p2,0,none⟩) (J+1) q2)) ((Bb6.out.other (a:=⟨gc,0,none⟩) (by simp;omega) (.slice (some ⟨p1,0,none⟩) (J+1) q1)).other (a:=⟨gc,1,none⟩) (by simp;omega) (.slice (some ⟨p2,0,none⟩) (J+1) q2)) ((Br6.out.other (a:=⟨gc,0,none⟩) (by simp;omega) (.slice (some ⟨p1,0,none⟩) (J+1) q1)).other (a:=⟨gc,1,none⟩) (by simp;omega) (.slice (some ⟨p2,0,none⟩) (J+1) q2));clear Bk7;go_wp2_with fail;simp only[b0b];go_wp2_with fail;go_roundw
    case rel=>exact⟨J+1,_,_,by rw[Fb,x3],by go_num,by omega,by omega,TN,Bb7,Br7,B7⟩
    case measure=>simp[intOf]<;>omega
  .have d0:decide ((J:Int)<=(n:Int))=false:=by simp;omega
   have d0':decide (J<=n)=false:=by simp;omega
   obtain rfl:J=n+1:=by omega
   obtain⟨p1,q1,rfl,-,-⟩:=hT.out.o1.form (Ev n);obtain⟨p2,q2,rfl,-,-⟩:=hT.out.o2.form (Ev n);have k0:=hT.out.blk.cell 0;have k1:=hT.out.blk.cell 1;simp at k0 k1;have m0:=hK1.out.cell 0;have m1:=(hK1.out.set 0 (.slice (some ⟨p1,0,none⟩) (n+1) q1)).cell 1;have g0:=hK1.out.free 0;have g1:=(hK1.out.set 0 (.slice (some ⟨p1,0,none⟩) (n+1) q1)).free 1;simp at m0 m1;obtain⟨BF,KF,RF1,RF2⟩:=zc ((hB.out.setCell (p:=⟨w.heap.size+1,0,none⟩) (by simp) (.slice (some ⟨p1,0,none⟩) (n+1) q1)).setCell (p:=⟨w.heap.size+1,1,none⟩) (by simp) (.slice (some ⟨p2,0,none⟩) (n+1) q2)) ((hK1.out.set 0 (.slice (some ⟨p1,0,none⟩) (n+1) q1)).set 1 (.slice (some ⟨p2,0,none⟩) (n+1) q2)) (Row.of_owns (c0d (c0d hT.out.o1 (a:=⟨w.heap.size+1,0,none⟩) (fun e=>absurd (hT.out.b1 _ e) (Hq _)) (.slice (some ⟨p1,0,none⟩) (n+1) q1)) (a:=⟨w.heap.size+1,1,none⟩) (fun e=>absurd (hT.out.b1 _ e) (Hq _)) (.slice (some ⟨p2,0,none⟩) (n+1) q2))) (Row.of_owns (c0d (c0d hT.out.o2 (a:=⟨w.heap.size+1,0,none⟩) (fun e=>absurd (hT.out.b2 _ e) (Hq _)) (.slice (some ⟨p1,0,none⟩) (n+1) q1)) (a:=⟨w.heap.size+1,1,none⟩) (fun e=>absurd (hT.out.b2 _ e) (Hq _)) (.slice (some ⟨p2,0,none⟩) (n+1) q2)));clear hlt hJ1 hJ2;go_wp2_with fail;have f0:=KF.out.cell 0;have f1:=KF.out.cell 1;simp at f0 f1;refine C7 (v:=.agg #[.slice (some ⟨p1,0,none⟩) (n+1) q1,.slice (some ⟨p2,0,none⟩) (n+1) q2]) (by simp[results,results283,go_sem,f0,f1]) rfl ⟨⟨_,_,rfl,RF1.out,RF2.out⟩,BF.out⟩
def dF (c:Nat->Bool)(u:Nat->Nat)(i j k:Nat):Nat:=dlt k+aF c u i j k
def b1Y {N D n i j:Nat}(h0:a0D N D 0=false)(hi:i<=n):dF (a0D N D) (uT (a0D N D) (a0i N D) n) i j i=uT (a0D N D) (a0i N D) n i:=by
 have h:=(g0x (zs:=a0i N D) h0 (n:=n) (i:=i) (by omega) i hi).1;unfold dF aF;have e:(if i<=i/\i<i+j/\a0D N D (i-i)=true then uT (a0D N D) (a0i N D) n i else 0)=0:=J2 fun hh=>by rw[Bq,h0]at hh;cases hh.2.2
 rw[e,At];exact h.symm
def d1b {N D n i j k:Nat}(h0:a0D N D 0=false)(hi:i<=n)(hk:k<=n):dF (a0D N D) (uT (a0D N D) (a0i N D) n) i j k<=uT (a0D N D) (a0i N D) n k:=by
 rw[t0O h0 hk];exact Jn (c1m hi hk) _
def a1a {N D n k:Nat}(h0:a0D N D 0=false)(hk:k<=n):uT (a0D N D) (a0i N D) n k<=2 ^ k:=(TB.outer (zs:=a0i N D) h0 n k (by omega)).src
def a1i {N D n k:Nat}(h0:a0D N D 0=false)(hk:k<=n):cvo (chi (a0i N D)) (uT (a0D N D) (a0i N D) n) k<=2 ^ (n+2):=by
 rw[<- n0g h0 hk];exact (TB.outer (zs:=a0i N D) h0 n (n+1) nr).up2 k
def p0K (w:World)(m:Bool)(vN vD:Value)(N D n:Nat)(hn:n<=300)(h0:0<N)(hND:N<D)(hN:IsN .i64 w vN N)(hD:IsN .i64 w vD D)(hd:∀ j,j<=n->nDigits (N*2 ^ j)<=4000):
 Calls prog 218 #[.agg #[.bool m,vN,vD],.int .i64 (n:Nat)] w fun e w'=>(∃ g c,e=.returned (.slice (some ⟨g,0,none⟩) (n+1) c)/\NTab w.heap.size w' g (n+1) c (fun k=>(b0S (a0D N D) (a0i N D) n (n+1)).2.getD k 0))/\Below w.heap.size w w':=by
 obtain⟨aN,cN,rfl,-,-,-⟩:=hN.openI;obtain⟨aD,cD,rfl,-,-,-⟩:=hD.openI;obtain⟨lN,hlN⟩:=gn ((limbs N).length);obtain⟨lD,hlD⟩:=gn ((limbs D).length);rw[hlN]at hN |-;rw[hlD]at hD |-;have HT:=fun V hV1 hV2=>hid (l0s V m (.slice aN lN cN) (.slice aD lD cD) N D n hn h0 hND hV1 hV2 hd)
 obtain⟨NN,ND,HN⟩:=zg hN hD hn;clear hN hD hd;go_enter func218,ntmps218;go_wp2_with fail;have C0:=hid ((J4 w.heap.size w).alloc nr (.cells #[.bool m,.slice aN lN cN,.slice aD lD cD] 81));refine (HT _ (NN.out.call C0.out) (ND.out.call C0.out)).out.mono ?_;rintro e w1 ⟨⟨u1,u2,rfl,hu1,hu2⟩,hb1⟩;obtain⟨a1,c1,rfl,p1,p2,-⟩:=hu1.ex;obtain⟨a2,c2,rfl,p3,p4,-⟩:=hu2.ex;simp only[t0x]at p1 p3 hu1 hu2 |-;have HZ:=fun V=>hid (f0w V n (by omega))
 have HR:=fun V=>hid (j0h V)
 have Z1:Hid (a0D N D 0=false/\a0i N D 0=false):=⟨rfl,by simp[a0i];omega⟩;have EQ:Hid (∀ k,k<=n->dF (a0D N D) (uT (a0D N D) (a0i N D) n) (n+1) 1 k=uT (a0D N D) (a0i N D) n k):=fun k hk=>by
  unfold dF;rw[x0a hk,<- t0O Z1.out.1 hk]
 obtain⟨WA,hWA⟩:=gn ((w1.alloc (.cells #[.slice a1 (n+1) c1,.slice a2 (n+1) c2] 268)));have BA:Hid (Below w.heap.size w WA):=by
  show Below w.heap.size w WA
  rw[<- hWA];have h1:=(C0.out.trans (hb1.mono C0.out.size));exact h1.alloc h1.size _
 have BB:Hid (Below w1.heap.size w1 WA):=by
  show Below w1.heap.size w1 WA
  rw[<- hWA];exact br0.alloc nr _
 have KA:Hid (Blk WA w1.heap.size #[.slice a1 (n+1) c1,.slice a2 (n+1) c2] 268):=by
  show Blk _ _ _ _
  rw[<- hWA];exact Blk.new w1 _ _
 obtain⟨U1,U2⟩:=zu (hu1.call BB.out) (hu2.call BB.out);obtain⟨gc,hgc⟩:=gn (w1.heap.size);rw[hgc]at KA;clear hu1 hu2 hb1 BB;go_wp2_with fail
 try rw[hWA]
 try rw[hgc]
 clear hWA hgc;refine (HZ _).out.mono ?_;rintro e w2 ⟨⟨g,c,rfl,ht⟩,hb2⟩;obtain⟨T0,B2⟩:=zu ht hb2;clear ht hb2;go_wp2_with fail;refine (HR _).out.mono ?_;rintro e w3 ⟨⟨v1,rfl,hv1,hf1⟩,hb3⟩;obtain⟨av,cv,rfl,-,-,-⟩:=hv1.openI;obtain⟨lv,hlv⟩:=gn ((limbs 1).length);rw[hlv]at hv1 hf1 |-;have B3:=qx B2 hb3;have T1:=hid (T0.out.call hb3);have F1:Hid (∀ g',(Value.slice av lv cv).ownBlock=some g'->WA.heap.size<=g'/\g'≠g):=fun g' hg=>by
  have h1:w2.heap.size<=g':=hf1 g' hg;have h2:=T0.out.slot;have h3:=B2.out.size;exact⟨by omega,by omega⟩
 have V1:=hid hv1;have fr:=T1.out.slot.2.2.2.2 0;obtain⟨x0,cx0,-,-⟩:=T1.out.at (i:=0) (by omega);have e0':(0:Int)<(n:Int)+1:=by omega
 have T2:Hid (NTab WA.heap.size (w3.setCell ⟨g,0,none⟩ (.slice av lv cv)) g (n+1) c (dF (a0D N D) (uT (a0D N D) (a0i N D) n) 0 1)):=(T1.out.put 0 V1.out (.inr F1.out)).fn fun k hk=>by
  unfold dF;rw[t0C _ Z1.out.1,At]
  rfl
 have B4:=hid (B3.out.setCell (p:=⟨g,0,none⟩) (by have:=T1.out.slot.1;exact this) (.slice av lv cv));clear hlv hv1 hf1 hb3;go_wp2_with fail;clear cx0 T0 T1 fr e0' F1 V1 B2 B3 HR HT HZ;have SZ:Hid (gc<WA.heap.size):=KA.out.lt;obtain⟨CC,CC2⟩:=zu (KA.out.cell 0) (KA.out.cell 1);have HDF:Hid (∀ i j k,i<=n->k<=n->(limbs (dF (a0D N D) (uT (a0D N D) (a0i N D) n) i j k)).length<=1000000):=fun i j k hi hk=>a0x (a0b (J0 (d1b Z1.out.1 hi hk) (a1a Z1.out.1 hk)) (by omega))
 have HBL:Hid (∀ j,j<n+1->∃ gb ob,a1=some ⟨gb,ob,none⟩/\gb<WA.heap.size/\WA.cell? ⟨gb,ob+j,none⟩=some (.bool (a0D N D j))):=fun j hj=>U1.out.at (by unfold bls;rw[Et,Fl hj];rfl)
 go_loopw [7] (fun s7 wr=>∃ i:Nat,s7=.int .i64 (i:Nat)/\i<=n+1/\Hid (NTab WA.heap.size wr g (n+1) c (dF (a0D N D) (uT (a0D N D) (a0i N D) n) i 1))/\Hid (Below WA.heap.size WA wr)) (fun s7 wr=>n+1-(intOf s7).toNat)
 case atStart=>exact⟨0,rfl,K5 _,T2,B4⟩
 case round=>
  clear T2 B4;obtain⟨i,rfl,hi,hT,hB⟩:=hrel;by_cases hlt:i<=n
  .have d0:decide (i<=n)=true:=by simp;omega
   have f0:=qw i
   have f1:(i:Int)<((n+1:Nat):Int):=by omega
   have f1':(i:Int)<(n:Int)+1:=by omega
   have f9:(i:Int)<=1000:=by have:=HN.out;omega
   have IL:=hid hlt;clear hi hlt;go_wp2_with fail
   go_loopw [8] (fun s8 wq=>∃ j:Nat,s8=.int .i64 (j:Nat)/\1<=j/\(i+j<=n+1\/j=1)/\Hid (NTab WA.heap.size wq g (n+1) c (dF (a0D N D) (uT (a0D N D) (a0i N D) n) i j))/\Hid (Below WA.heap.size WA wq)) (fun s8 wq=>n+2-(intOf s8).toNat)
   case atStart=>exact⟨1,rfl,O4 _,.inr rfl,hT,hB⟩
   case round=>
    clear hT hB;obtain⟨j,rfl,hj1,hj,hT,hB⟩:=hrel;have wij:IntKind.i64.wrap ((i:Int)+(j:Int))=(i:Int)+(j:Int):=by have:=HN.out;rw[U0 _ ⟨by omega,by omega⟩]
    by_cases hlt:i+j<n+1
    .have q1:decide ((i:Int)+(j:Int)<=(n:Int))=true:=by simp;omega
     have f2:=qw j
     have f3:(j:Int)<((n+1:Nat):Int):=by omega
     have f3':(j:Int)<(n:Int)+1:=by omega
     have f4:(0:Int)<=(i:Int)+(j:Int):=by omega
     have f5:(i:Int)+(j:Int)<((n+1:Nat):Int):=by omega
     have f5':(i:Int)+(j:Int)<(n:Int)+1:=by omega
     have f6:(j:Int)<=1000:=by have:=HN.out;omega
     have et:((i:Int)+(j:Int)).toNat=i+j:=by omega
     have JL:=hid hlt;obtain⟨gb,ob,eb,hgb,hb1⟩:=HBL.out j (by omega);subst eb;have cb1:=(hB.out.cell (p:=⟨gb,ob+j,none⟩) hgb).trans hb1;have cc:=(hB.out.cell (p:=⟨gc,0,none⟩) SZ.out).trans CC.out;obtain⟨bj,hbj⟩:=gn (a0D N D j);rw[hbj]at cb1;obtain⟨HBJ,J1⟩:=zu hbj hj1;clear hj hlt hb1 hbj hgb;cases bj
     .have T2:Hid (NTab WA.heap.size wr g (n+1) c (dF (a0D N D) (uT (a0D N D) (a0i N D) n) i (j+1))):=hT.out.fn fun k _=>by unfold dF;rw[t0E HBJ.out k]
      clear hj1;go_wp2_with fail;go_roundw
      case rel=>exact⟨j+1,by go_num,by omega,.inl (by have:=JL.out;omega),T2,hB⟩
      case measure=>simp[intOf]<;>(have:=JL.out;omega)
     .obtain⟨x,cx,hx,-⟩:=hT.out.at (i:=i+j) JL.out;obtain⟨y,cy,hy,-⟩:=hT.out.at (i:=i) (by have:=IL.out;omega);rw[b1Y Z1.out.1 IL.out]at hy;obtain⟨XN,YN⟩:=zu hx hy;clear hx hy hj1;go_wp2_with fail;refine a0T 15 2 [0,1,2,3,4,5,6,7,8,9,10,11,12,13] 1 (fun W'=>W'.cell? ⟨g,i+j,none⟩=some x/\W'.cell? ⟨g,i,none⟩=some y) (by kernel_rfl) rfl (by kernel_rfl) (by kernel_rfl) (by kernel_rfl) (by kernel_rfl) ⟨cx,cy⟩ ?_
      iterate 14
       refine⟨_,rfl,?_⟩;apply Exists.intro
       refine⟨.inl ⟨by rfl,?_⟩,?_⟩
       .rintro W' ⟨r1,r2⟩;go_simp;try with_reducible rfl
       go_frame
      refine a0c (i:=14) (by kernel_rfl) rfl rfl ?_;go_wp2_with fail;refine (c0I _ _ _ _ _ (XN.out.call br0.drew) (YN.out.call br0.drew) (HDF.out i j (i+j) IL.out (by have:=JL.out;omega)) (by have:=HDF.out i 1 i IL.out IL.out;rwa[b1Y Z1.out.1 IL.out]at this)).mono ?_;rintro e w5 ⟨⟨zz,rfl,hz,hf⟩,hbc⟩;obtain⟨az1,cz1,rfl,-,-,-⟩:=hz.openI;obtain⟨lz1,hlz⟩:=gn ((limbs (dF (a0D N D) (uT (a0D N D) (a0i N D) n) i j (i+j)+uT (a0D N D) (a0i N D) n i)).length);rw[hlz]at hz hf |-;clear hlz;have C1:=hid (show Below wr.heap.size wr w5 from br0.drew.trans hbc);obtain⟨T1,Z9⟩:=zu (hT.out.call C1.out) hz;have FZ1:Hid (∀ g',(Value.slice az1 lz1 cz1).ownBlock=some g'->WA.heap.size<=g'/\g'≠g):=fun g' hg=>by
       have h1:wr.heap.size<=g':=hf g' hg;have h2:=hT.out.slot;have h3:=hB.out.size;exact⟨by omega,by omega⟩
      have m1:=(C1.out.cell (a0e cx)).trans cx;have m2:=(C1.out.cell (a0e cy)).trans cy;have B5:=hid (hB.out.trans (C1.out.mono hB.out.size));clear hz hf hbc cx cy cb1 cc;go_wp2_with fail;refine⟨⟨m1,m2⟩,?_⟩;refine J8 (by kernel_rfl) ?_ _;simp only[b0b,c0t,Aj,K9];have m3:=T1.out.slot.2.2.2.2 (i+j);have T2:Hid (NTab WA.heap.size (w5.setCell ⟨g,i+j,none⟩ (.slice az1 lz1 cz1)) g (n+1) c (dF (a0D N D) (uT (a0D N D) (a0i N D) n) i (j+1))):=(T1.out.put (i+j) Z9.out (.inr FZ1.out)).fn fun k hk=>by
       unfold dF;rw[t0D HBJ.out];by_cases e:k=i+j
       .rw[J3 e,J3 e,e,Dh]
       .rw[J2 e,J2 e]
      have B6:=hid (B5.out.setCell (p:=⟨g,i+j,none⟩) (by have:=hT.out.slot.1;exact this) (.slice az1 lz1 cz1));go_wp2_with fail
      try simp only[b0b]
      go_roundw
      case rel=>exact⟨j+1,by go_num,by have:=J1.out;omega,.inl (by have:=JL.out;omega),T2,B6⟩
      case measure=>simp[intOf]<;>(have:=JL.out;omega)
    .have q1:decide ((i:Int)+(j:Int)<=(n:Int))=false:=by simp;omega
     have f6:(j:Int)<=1002:=by have:=HN.out;omega
     have e2:j=n+1-i:=by have:=IL.out;omega
     subst e2;have T2:Hid (NTab WA.heap.size wr g (n+1) c (dF (a0D N D) (uT (a0D N D) (a0i N D) n) (i+1) 1)):=hT.out.fn fun k hk=>by
      unfold dF;rw[t0F Z1.out.1 IL.out (by omega)]
     clear hj hlt hj1;go_wp2_with fail;go_roundw
     case rel=>exact⟨i+1,by go_num,by have:=IL.out;omega,T2,hB⟩
     case measure=>simp[intOf]<;>(have:=IL.out;omega)
  .have e1:i=n+1:=by omega
   subst e1;have d0:decide ((n:Int)+1<=(n:Int))=false:=by simp;omega
   have TE:Hid (NRow wr (.slice (some ⟨g,0,none⟩) (n+1) c) (n+1) (uT (a0D N D) (a0i N D) n)):=(hT.out.fn fun k hk=>EQ.out k (by omega)).row;have cc2:=(hB.out.cell (p:=⟨gc,1,none⟩) SZ.out).trans CC2.out;have U3:=hid (U2.out.call hB.out);clear hi hlt;go_wp2_with fail;refine (j0S _ _ _ n (uT (a0D N D) (a0i N D) n) (a0i N D) (by have:=HN.out;omega) TE.out U3.out Z1.out.2 (fun k hk=>⟨a0b (a1i Z1.out.1 hk) (by have:=HN.out;omega),a0b (a1a Z1.out.1 hk) (by have:=HN.out;omega)⟩)).mono ?_;rintro e w9 ⟨⟨g9,c9,rfl,ht9⟩,hb9⟩;have BF:=hid (BA.out.trans ((hB.out.trans (hb9.mono hB.out.size)).mono BA.out.size));have TF:Hid (NTab w.heap.size w9 g9 (n+1) c9 (fun k=>(b0S (a0D N D) (a0i N D) n (n+1)).2.getD k 0)):=(ht9.mono (J0 BA.out.size hB.out.size)).fn fun k hk=>(n0g Z1.out.1 (by omega)).symm
   clear ht9 hb9;go_wp2_with fail;go_ret
   exact⟨⟨g9,c9,rfl,TF.out⟩,BF.out⟩
def ttF (N D n k:Nat):Nat:=(b0S (a0D N D) (a0i N D) n (n+1)).2.getD k 0
def t2F (N D n i:Nat):Nat:=a0m (fun i=>ttF N D n i*cw (n-i) (g0k N D)) i
section
variable {N D : Nat} (h : N < D)
include h
theorem k0p {n m:Nat}(hm:m<=n):cvo (ttF N D n) pw2 m=cw m (g0k N D):=i0Y h n hm
theorem x0k (n:Nat):t2F N D n (n+1)=cw n (d0Q N D):=o0q h n
omit h in
theorem t0a (n:Nat)(P:List UInt8->Bool):cw n P<=2 ^ n:=by have:=l0x P n;omega
theorem a1n {n i:Nat}(hi:i<=n+1):t2F N D n i<=2 ^ n:=J0 (a0Q hi) (by rw[show a0m (fun i=>ttF N D n i*cw (n-i) (g0k N D)) (n+1)=cw n (d0Q N D) from o0q h n];exact t0a _ _)
theorem a1h {n i:Nat}(hi:i<=n):ttF N D n i<=2 ^ n:=J0 (j0Q _ _) (by rw[k0p h hi];exact J0 (t0a _ _) (J6 (by omega) hi))
end
def p0J (w:World)(a:ByteArray)(n:Nat)(two:Bool)(ha:a.size<=100000)(he:gPE a=0)(hn:n<=256)(h0:a≠⟨#[48]⟩):
 qb 147 #[.string a,.int .i64 (n:Nat),.bool two] w (.tuple #[.string (shB (gL (bN (cW a)) (bN (qD a)) two n) (2 ^ n)),.int .i64 0]):=by
 have HA:=hid (b0K w a (by omega));rw[he]at HA;obtain⟨hq,hm⟩:=j0i he;have HR:=fun V=>hid (j0m V a (by omega))
 rw[hq,b0Z hm,hm]at HR;obtain⟨N,hN⟩:=gn (bN (cW a));obtain⟨D,hD⟩:=gn (bN (qD a));have hND:=(b0R he).2;have hpos:=h0m he h0;have hdg:∀ j,j<=n->nDigits (N*2 ^ j)<=4000:=fun j hj=>by rw[<- hN];exact k0J he (by omega)
 rw[hN]at HR hND hpos;rw[hD]at HR hND;rw[hN,hD];have HT:=fun V m v1 v2 k1 k2=>hid (p0K V m v1 v2 N D n (by omega) hpos hND k1 k2 hdg)
 obtain⟨HND,HN⟩:=zu hND hn;have n0:(decide ((n:Int)<0))=false:=by simp
 have n1:(decide ((256:Int)<(n:Int)))=false:=by simp;omega
 have ze:(a.toList == [48])=false:=by
  have e:a.toList=a.data.toList:=Lp a;rw[e,M5];exact fun e=>h0 (b0f e)
 clear ha he hq hm hN hD hND hpos hdg h0;go_enter func147,ntmps147;go_wp2_with fail;refine nz HA fun w1 B1=>?_;clear HA;go_wp2_with fail;refine (HR _).out.mono ?_;rintro e w2 ⟨⟨v,rfl,hv,-⟩,hb2⟩;obtain⟨vN,vD,rfl,hvN,hvD⟩:=hv rfl;obtain⟨aN,cN,rfl,-,-,-⟩:=hvN.openI;obtain⟨aD,cD,rfl,-,-,-⟩:=hvD.openI;have B2:=qx B1 hb2;obtain⟨lN,hlN⟩:=gn ((limbs N).length);obtain⟨lD,hlD⟩:=gn ((limbs D).length);rw[hlN]at hvN |-;rw[hlD]at hvD |-;have C2:=hid ((J4 w2.heap.size w2).alloc nr (.cells #[.bool false,.slice aN lN cN,.slice aD lD cD] 81));obtain⟨VN,VD⟩:=zu (hvN.call C2.out) (hvD.call C2.out);have B3:=qx B2 C2.out;clear hv hb2 hvN hvD hlN hlD HR;go_wp2_with fail;refine (HT _ _ _ _ VN.out VD.out).out.mono ?_;rintro e w3 ⟨⟨gl,cl,rfl,htl⟩,hb3⟩;have TL:Hid (NTab w.heap.size w3 gl (n+1) cl (ttF N D n)):=htl.mono B3.out.size;have B4:=qx B3 hb3;have HDP:Hid (∀ i,i<=n->nDigits (cvo (ttF N D n) pw2 i)<=4000):=fun i hi=>by
  rw[k0p HND.out hi];exact a0b (t0a _ _) (by have:=HN.out;omega)
 clear htl hb3 HT VN VD;go_wp2_with fail;refine (l0r _ _ n (ttF N D n) (by have:=HN.out;omega) TL.out.row HDP.out).mono ?_;rintro e w4 ⟨⟨gd,cd,rfl,htd⟩,hb4⟩;obtain⟨TD,TL4⟩:=zu (htd.mono B4.out.size) (TL.out.call hb4);have B5:=qx B4 hb4;clear htd hb4 TL;obtain⟨xd,cxd,hxd,-⟩:=TD.out.at (i:=n) (by omega);have XD:=hid hxd;have f0:=qw n
 have f1':(n:Int)<(n:Int)+1:=by omega
 have HTw:=fun V=>hid (n0I V n (by have:=HN.out;omega))
 have HSh:=fun V u x hu hx=>hid (n0J V u x n hu (by have:=HN.out;omega) hx)
 have LP:Hid ((limbs (2 ^ n)).length<=1000000):=a0x (a0b nr (by have:=HN.out;omega));have E256:Hid (∀ x,2 ^ n-x<=2 ^ 256):=fun x=>J0 (Hv _ _) (J6 (by omega) HN.out)
 clear hxd hn;cases two
 .have ED:Hid (2 ^ n-cvo (ttF N D n) pw2 n=gL N D false n):=by
   show _=_
   rw[k0p HND.out (O4 n),w0P]
  have LE:Hid (cvo (ttF N D n) pw2 n<=2 ^ n):=by
   show _<=_
   rw[k0p HND.out (O4 n)];exact t0a _ _
  go_wp2_with fail;refine nu (HTw _) fun vt w6 hvt hbt=>?_;obtain⟨VT,XD6⟩:=zu hvt (XD.out.call hbt);have B6:=qx B5 hbt;clear hvt hbt;go_wp2_with fail;refine ng (f0f _ _ _ _ _ VT.out XD6.out LE.out LP.out) fun vm w7 hvm hbm=>?_;have VM:=hid hvm;have B7:=qx B6 hbm;clear hvm hbm;go_wp2_with fail;refine nw (HSh _ _ _ VM.out (E256.out _)) B7 fun w8 B8=>?_;go_wp2_with fail;rw[ED.out];go_ret2
  exact⟨rfl,B8.out⟩
 .have HR0:=fun V=>hid (h0l V)
  have ED:Hid (2 ^ n-t2F N D n (n+1)=gL N D true n):=by
   show _=_
   rw[x0k HND.out,s0B]
  have LE:Hid (∀ i,i<=n+1->t2F N D n i<=2 ^ n):=fun i hi=>a1n HND.out hi
  clear XD;go_wp2_with fail;clear cxd;refine (HR0 _).out.mono ?_;rintro e w6 ⟨⟨v0,rfl,hv0,-⟩,hb0⟩;have V0:Hid (IsN .i64 w6 v0 (t2F N D n 0)):=hv0;have B6:=qx B5 hb0;obtain⟨TD6,TL6⟩:=zu (TD.out.call hb0) (TL4.out.call hb0);clear hv0 hb0 TD TL4 HR0;go_wp2_with fail
  go_loopw [13,14] (fun s13 s14 wr=>∃ i:Nat,s14=.int .i64 (i:Nat)/\i<=n+1/\Hid (IsN .i64 wr s13 (t2F N D n i))/\Hid (NTab w.heap.size wr gl (n+1) cl (ttF N D n))/\Hid (NTab w.heap.size wr gd (n+1) cd (cvo (ttF N D n) pw2))/\Hid (Below w.heap.size w wr)) (fun s13 s14 wr=>n+1-(intOf s14).toNat)
  case atStart=>exact⟨0,rfl,K5 _,V0,TL6,TD6,B6⟩
  case round=>
   clear V0 TL6 TD6 B6;obtain⟨i,rfl,hi,hV,hL,hT,hB⟩:=hrel;by_cases hlt:i<=n
   .have d0:decide (i<=n)=true:=by simp;omega
    have e0:=qw i
    have e1:(i:Int)<((n+1:Nat):Int):=by omega
    have e1':(i:Int)<(n:Int)+1:=by omega
    have e3':(n:Int)-(i:Int)<(n:Int)+1:=by omega
    have ws:IntKind.i64.wrap ((n:Int)-(i:Int))=(n:Int)-(i:Int):=by have:=HN.out;rw[U0 _ ⟨by omega,by omega⟩]
    have wi:IntKind.i64.wrap ((i:Int)+1)=((i+1:Nat):Int):=by have:=HN.out;rw[U0 _ ⟨by omega,by omega⟩];omega
    have et:((n:Int)-(i:Int)).toNat=n-i:=by omega
    have IL:=hid hlt;obtain⟨x,cx,hx,-⟩:=hL.out.at (i:=i) (by omega);obtain⟨y,cy,hy,-⟩:=hT.out.at (i:=n-i) (by omega);obtain⟨XN,YN⟩:=zu hx hy;have LX:Hid ((limbs (ttF N D n i)).length<=1000000):=a0x (a0b (a1h HND.out hlt) (by have:=HN.out;omega));have LY:Hid ((limbs (cvo (ttF N D n) pw2 (n-i))).length<=1000000):=a0x (HDP.out _ (by omega));have LS:Hid ((limbs (t2F N D n i)).length<=1000000):=a0x (a0b (LE.out i hi) (by have:=HN.out;omega));have ST:Hid (t2F N D n i+ttF N D n i*cvo (ttF N D n) pw2 (n-i)=t2F N D n (i+1)):=by
     show _=_
     rw[k0p HND.out (show n-i<=n by omega)];rfl
    have LM:Hid ((limbs (ttF N D n i*cvo (ttF N D n) pw2 (n-i))).length<=1000000):=a0x (a0b (J0 (by rw[<- ST.out];omega) (LE.out (i+1) (by omega))) (by have:=HN.out;omega));clear hx hy hi hlt;go_wp2_with fail;have e4:=IL.out;refine a0T 13 1 [0,1,2,3,4,5,6,7,8,9,10] 2 (fun W'=>W'.cell? ⟨gl,i,none⟩=some x/\W'.cell? ⟨gd,n-i,none⟩=some y) (by kernel_rfl) rfl (by kernel_rfl) (by kernel_rfl) (by kernel_rfl) (by kernel_rfl) ⟨cx,cy⟩ ?_
    iterate 11
     refine⟨_,rfl,?_⟩;apply Exists.intro
     refine⟨.inl ⟨by rfl,?_⟩,?_⟩
     .rintro W' ⟨r1,r2⟩;go_simp;try with_reducible rfl
     go_frame
    refine a0c (i:=11) (by kernel_rfl) rfl rfl ?_;go_wp2_with fail;refine ng (b0n _ _ _ _ _ (XN.out.call br0.drew) (YN.out.call br0.drew) LX.out LY.out) fun vp wa hvp hba=>?_;obtain⟨A1,VP⟩:=zu (show Below wr.heap.size wr wa from br0.drew.trans hba) hvp;have m1:=(A1.out.cell (a0e cx)).trans cx;have m2:=(A1.out.cell (a0e cy)).trans cy;clear hba hvp cx cy e4;go_wp2_with fail;refine⟨⟨m1,m2⟩,?_⟩;refine a0c (i:=12) (by kernel_rfl) rfl rfl ?_;go_wp2_with fail;refine ng (d0E _ _ _ _ _ (hV.out.call A1.out) VP.out LS.out LM.out) fun vs wb hvs hbb=>?_;have A2:=qx A1 hbb;have VS:=hid (hvs.cast ST.out);have k1:=(hbb.cell (a0e m1)).trans m1;have k2:=(hbb.cell (a0e m2)).trans m2;clear hbb hvs m1 m2;go_wp2_with fail;refine⟨⟨k1,k2⟩,?_⟩;refine J8 (by kernel_rfl) ?_ _;simp only[b0b,c0t,Aj,K9];obtain⟨NL,ND,NB⟩:=zg (hL.out.call A2.out) (hT.out.call A2.out) (hB.out.trans (A2.out.mono hB.out.size));clear k1 k2;go_wp2_with fail
    try simp only[b0b]
    go_roundw
    case rel=>exact⟨i+1,by go_num,by have:=IL.out;omega,VS,NL,ND,NB⟩
    case measure=>simp[intOf]<;>(have:=IL.out;omega)
   .have e1:i=n+1:=by omega
    subst e1;have d0:decide ((n:Int)+1<=(n:Int))=false:=by simp;omega
    clear hi hlt;go_wp2_with fail;refine nu (HTw _) fun vt w6 hvt hbt=>?_;obtain⟨VT,XD6⟩:=zu hvt (hV.out.call hbt);have B7:=qx hB hbt;clear hvt hbt;go_wp2_with fail;refine ng (f0f _ _ _ _ _ VT.out XD6.out (LE.out _ nr) LP.out) fun vm w7 hvm hbm=>?_;have VM:=hid hvm;have B8:=qx B7 hbm;clear hvm hbm;go_wp2_with fail;refine nw (HSh _ _ _ VM.out (E256.out _)) B8 fun w8 B9=>?_;go_wp2_with fail;rw[ED.out];go_ret2
    exact⟨rfl,B9.out⟩
def y0Z (w:World)(a:ByteArray)(n:Int)(two:Bool)(ha:a.size<=100000):
 qb 147 #[.string a,.int .i64 n,.bool two] w (.tuple #[.string (glB a n two),.int .i64 (glE a n 256)]):=by
 have HA:=hid (b0K w a (by omega));by_cases he:gPE a=0
 focus
  by_cases hn:n<0\/256<n
  focus
   have e1:glE a n 256=2:=by unfold glE;rw[J2 (by rw[he];simp),J3 hn]
   have e2:glB a n two=⟨#[]⟩:=by unfold glB;rw[J2 (by rw[e1];decide)]
   rw[e1,e2];rw[he]at HA;obtain⟨b1,k1⟩:=gn (decide (n<0));obtain⟨b2,k2⟩:=gn (decide (256<n));have k3:(b1 || b2)=true:=by rw[<- k1,<- k2];simpa using hn
   clear ha he hn e1 e2;cases b1
   focus
    obtain rfl:b2=true:=by simpa using k3
    clear k3
   rotate_left
   focus
    clear k2 k3
  rotate_left 2
  focus
   obtain⟨m,rfl⟩:∃ m:Nat,n=(m:Nat):=⟨n.toNat,by omega⟩;have e1:glE a (m:Nat) 256=0:=by unfold glE;rw[J2 (by rw[he];simp),J2 hn]
   unfold glB;rw[J3 e1,e1];by_cases h0:a=⟨#[48]⟩
   focus
    obtain⟨q1,q2⟩:=i0q h0;rw[q1,q2,s0A (by omega),g0A];rw[he]at HA;have ze:(a.toList == [48])=true:=by rw[h0];exact c0q
    have n0:(decide ((m:Int)<0))=false:=by simp
    have n1:(decide ((256:Int)<(m:Int)))=false:=by simp;omega
    clear ha he hn e1 q1 q2 h0
   rotate_left
   .exact p0J w a m two ha he (by omega) h0
 rotate_left 3
 focus
  have e1:glE a n 256=gPE a:=by unfold glE;rw[J3 he]
  have e2:glB a n two=⟨#[]⟩:=by unfold glB;rw[J2 (by rw[e1];exact he)]
  rw[e1,e2];obtain⟨x,hx⟩:=gn (gPE a);rw[hx]at HA he |-;have x0:(x != 0)=true:=by simpa using he
  clear ha he hx e1 e2
 all_goals
  go_enter func147,ntmps147;go_wp2_with fail;refine nz HA fun w1 B1=>?_;clear HA;go_wp2_with fail;go_ret2
  exact⟨rfl,B1.out⟩
def i0H (w:World)(a:ByteArray)(n:Int)(ha:a.size<=100000):
 qb 53 #[.string a,.int .i64 n] w (.tuple #[.string (glB a n true),.int .i64 (glE a n 256)]):=by
 have H:=hid (y0Z w a n true ha);obtain⟨o,ho⟩:=gn (glB a n true);obtain⟨x,hx⟩:=gn (glE a n 256);rw[ho,hx]at H |-;clear ha ho hx;go_enter func53,ntmps53;go_wp2_with fail;refine nz H fun w1 B1=>?_;go_wp2_with fail;go_ret2
 exact⟨rfl,B1.out⟩
def u0E (w:World)(a r:ByteArray)(n many:Int)(ha:a.size<=100000)(hr:r.size<=100000):
 qb 32 #[.string a,.string r,.int .i64 n,.int .i64 many] w (.tuple #[.string (a1y a r n many),.int .i64 (a1x a r n many)]):=by
 have HA:=hid (b0K w a (by omega));have HR:=fun V=>hid (b0K V r (by omega))
 unfold a1y a1x;by_cases hg:gPE a=0
 case neg=>
  have hx:n0t a r n many=gPE a:=by unfold n0t;rw[J3 hg]
  rw[hx,J3 hg,J3 hg];obtain⟨E,hE⟩:=gn (gPE a);rw[hE]at HA hg |-;have q0:(E==0)=false:=by simpa using hg
  clear ha hr hg hx hE HR;go_enter func32,ntmps32;go_wp2_with fail;refine ny HA fun w0 hb0=>?_;go_wp2_with fail;go_ret2
  exact⟨rfl,hb0⟩
 rw[hg]at HA;by_cases hk:gPE r=0
 case' neg=>
  have hx:n0t a r n many=gPE r:=by unfold n0t;rw[J2 (by rw[hg];simp),J3 hk]
  rw[hx,J3 hk,J3 hk];obtain⟨E,hE⟩:=gn (gPE r);rw[hE]at HR hk |-;have q0:(E==0)=false:=by simpa using hk
  clear ha hr hg hk hx hE
 rotate_left
 rw[hk]at HR;by_cases hc:n<0\/256<n\/many<1\/256<many
 case' pos=>
  have hx:n0t a r n many=2:=by unfold n0t;rw[J2 (by rw[hg];simp),J2 (by rw[hk];simp),J3 hc]
  rw[hx,J3 (by decide),J3 (by decide)];obtain⟨p1,h1⟩:=gn (decide (n<0));obtain⟨p2,h2⟩:=gn (decide (256<n));obtain⟨p3,h3⟩:=gn (decide (many<1));obtain⟨p4,h4⟩:=gn (decide (256<many));have hp:(p1 || (p2 || (p3 || p4)))=true:=by rw[<- h1,<- h2,<- h3,<- h4];simpa using hc
  clear ha hr hg hk hx hc;cases p1
  focus
   cases p2
   focus
    cases p3
    focus
     cases p4
     .simp at hp
     focus
      clear hp
    rotate_left
    focus
     clear hp h4
   rotate_left 2
   focus
    clear hp h3 h4
  rotate_left 3
  focus
   clear hp h2 h3 h4
 rotate_left 4
 have hx:n0t a r n many=0:=by unfold n0t;rw[J2 (by rw[hg];simp),J2 (by rw[hk];simp),J2 hc]
 rw[hx,J2 (by decide),J2 (by decide)];have t1:decide (n<0)=false:=Z6 (by omega);have t2:decide (256<n)=false:=Z6 (by omega);have t3:decide (many<1)=false:=Z6 (by omega);have t4:decide (256<many)=false:=Z6 (by omega);have HO:=fun V=>hid (i0H V a n ha)
 have HP:=fun V=>hid (i0H V r n hr)
 obtain⟨E0,hE0⟩:=gn (glE a n 256);obtain⟨E1,hE1⟩:=gn (glE r n 256);rw[hE0]at HO;rw[hE1]at HP;obtain⟨m,rfl⟩:∃ m:Nat,many=(m:Nat):=⟨many.toNat,by omega⟩;have HI:=fun V=>hid (k0O V m (by omega))
 have HT:=fun V=>hid (w0v V (glB r n true) (a0f m) (J0 (g0L _ _ _) (by omega)) (by rw[a0y];have:=a0l (n:=m) (k:=3) (by omega) (by omega);omega))
 have HU:=fun V=>hid (a1M V (glB a n true) (b0D (· * ·) (glB r n true) (a0f m)) (J0 (g0L _ _ _) (by omega)) (J0 (e0F _ _ _) (by omega)))
 have HM:=fun V=>hid (a1L V (b0D (· + ·) (glB a n true) (b0D (· * ·) (glB r n true) (a0f m))) ⟨#[49]⟩ (J0 (e0F _ _ _) (by omega)) (by show 1<=1000000;omega))
 unfold c1w;rw[Ao];obtain⟨G,hG⟩:=gn (glB a n true);obtain⟨K,hK⟩:=gn (glB r n true);obtain⟨I,hI⟩:=gn (a0f m);rw[hG]at HO HU HM |-;rw[hK]at HP HT HU HM |-;rw[hI]at HI HT HU HM |-;obtain⟨T,hT⟩:=gn (b0D (· * ·) K I);obtain⟨ET,hET⟩:=gn (f0F (· * ·) K I);rw[hT]at HT HU HM |-;rw[hET]at HT;obtain⟨S,hS⟩:=gn (b0D (· + ·) G T);obtain⟨ES,hES⟩:=gn (f0F (· + ·) G T);rw[hS]at HU HM |-;rw[hES]at HU;obtain⟨B,hB⟩:=gn (mnB S ⟨#[49]⟩);obtain⟨E,hE⟩:=gn (cmE S ⟨#[49]⟩);rw[hB,hE]at HM |-;obtain⟨M,hMM⟩:∃ M:Int,((m:Nat):Int)=M:=⟨_,rfl⟩;rw[hMM]at HI t3 t4 |-;clear ha hr hg hk hc hx hE0 hE1 hG hK hI hT hET hS hES hB hE hMM;go_enter func32,ntmps32;go_wp2_with fail;refine nz HA fun w0 y0=>?_;go_wp2_with fail;refine nw (HR _) y0 fun w1 y1=>?_;go_wp2_with fail;refine nw (HO _) y1 fun w2 y2=>?_;go_wp2_with fail;refine nw (HP _) y2 fun w3 y3=>?_;go_wp2_with fail;refine zx (HI _) ?_;go_wp2_with fail;refine nw (HT _) y3 fun w5 y5=>?_;go_wp2_with fail;refine nw (HU _) y5 fun w6 y6=>?_;go_wp2_with fail;refine nw (HM _) y6 fun w7 y7=>?_;go_wp2_with fail;go_ret2
 exact⟨rfl,y7.out⟩
 all_goals
  go_enter func32,ntmps32;go_wp2_with fail;refine nz HA fun w0 y0=>?_;go_wp2_with fail;refine nw (HR _) y0 fun w1 y1=>?_;go_wp2_with fail;go_ret2
  exact⟨rfl,y1.out⟩
def Oc:=@Go.Proofs.Tryz.ntmps34
def p0g (w:World)(a r:ByteArray)(reach:Int)(one:Bool)(ha:a.size<=100000)(hr:r.size<=100000):
 qb 34 #[.string a,.string r,.int .i64 reach,.bool one] w (.tuple #[.string (u0h a r reach one),.int .i64 (a1A a r reach one)]):=by
 have HA:=hid (h0p w a (by omega));have HR:=fun V=>hid (h0p V r (by omega))
 unfold u0h a1A;by_cases hg:g0J a=0
 case neg=>
  have hx:n0A a r reach=g0J a:=by unfold n0A;rw[J3 hg]
  rw[hx,J3 hg,J3 hg];obtain⟨E,hE⟩:=gn (g0J a);rw[hE]at HA hg |-;have q0:(E==0)=false:=by simpa using hg
  clear ha hr hg hx hE HR;go_enter func34,Oc;go_wp2_with fail;refine ny HA fun w0 hb0=>?_;go_wp2_with fail;go_ret2
  exact⟨rfl,hb0⟩
 rw[hg]at HA;by_cases hk:g0J r=0
 case neg=>
  have hx:n0A a r reach=g0J r:=by unfold n0A;rw[J2 (by rw[hg];simp),J3 hk]
  rw[hx,J3 hk,J3 hk];obtain⟨E,hE⟩:=gn (g0J r);rw[hE]at HR hk |-;have q0:(E==0)=false:=by simpa using hk
  clear ha hr hg hk hx hE;go_enter func34,Oc;go_wp2_with fail;refine nz HA fun w0 y0=>?_;go_wp2_with fail;refine nw (HR _) y0 fun w1 y1=>?_;go_wp2_with fail;go_ret2
  exact⟨rfl,y1.out⟩
 rw[hk]at HR;by_cases hc:reach<0\/10000<reach
 case pos=>
  have hx:n0A a r reach=2:=by unfold n0A;rw[J2 (by rw[hg];simp),J2 (by rw[hk];simp),J3 hc]
  rw[hx,J3 (by decide),J3 (by decide)];obtain⟨p1,h1⟩:=gn (decide (reach<0));obtain⟨p2,h2⟩:=gn (decide (10000<reach));have hp:(p1 || p2)=true:=by rw[<- h1,<- h2];simpa using hc
  clear ha hr hg hk hx hc;cases p1
  focus
   cases p2
   .simp at hp
   focus
    clear hp
  rotate_left
  focus
   clear hp h2
  all_goals
   go_enter func34,Oc;go_wp2_with fail;refine nz HA fun w0 y0=>?_;go_wp2_with fail;refine nw (HR _) y0 fun w1 y1=>?_;go_wp2_with fail;go_ret2
   exact⟨rfl,y1.out⟩
 have hx:n0A a r reach=0:=by unfold n0A;rw[J2 (by rw[hg];simp),J2 (by rw[hk];simp),J2 hc]
 simp only[hx,ne_eq,Lg,Eh];obtain⟨hqa,hna⟩:=l0h hg;obtain⟨hqr,hnr⟩:=l0h hk;obtain⟨m,rfl⟩:∃ m:Nat,reach=(m:Nat):=⟨reach.toNat,by omega⟩;rw[Ao];unfold a1z;rw[Ao];obtain⟨M,hM'⟩:=gn (ffM (m:Nat) one);have hM:M=if one=true then m else 2*m:=by rw[<- hM'];unfold ffM;rw[Ao]
 have hMb:M<=20000:=by rw[hM];split<;>omega
 rw[hM'];have HP:=fun V=>hid (r0f V a m (-(m:Int)) (by omega) hqa hna (by omega) rfl)
 have HO:=fun V=>hid (r0f V r M (-(M:Int)) (by omega) hqr hnr (by omega) rfl)
 have HT:=fun V=>hid (w0v V (h0Y m a) (h0Y M r) (J0 (f0h _ _) (by omega)) (J0 (f0h _ _) (by omega)))
 obtain⟨B,hB⟩:=gn (h0Y m a);obtain⟨E,hE⟩:=gn (l0M m a);obtain⟨B2,hB2⟩:=gn (h0Y M r);obtain⟨E2,hE2⟩:=gn (l0M M r);rw[hB,hE]at HP;rw[hB2,hE2]at HO;rw[hB,hB2]at HT |-;rw[hE,hE2];obtain⟨T,hT⟩:=gn (b0D (· * ·) B B2);obtain⟨ET,hET⟩:=gn (f0F (· * ·) B B2);rw[hT,hET]at HT |-;have t1:decide ((m:Int)<0)=false:=Z6 (by omega);have t2:decide ((10000:Int)<(m:Int))=false:=Z6 (by omega);have wm:IntKind.i64.wrap (-(m:Int)) = -(m:Int):=by rw[U0 _ ⟨by omega,by omega⟩]
 have wn:IntKind.i64.wrap (-(M:Int)) = -(M:Int):=by rw[U0 _ ⟨by omega,by omega⟩]
 have wr2:one=false->IntKind.i64.wrap (2*(m:Int))=(M:Int):=fun h=>by subst h;rw[hM,U0 _ ⟨by omega,by omega⟩];simp
 have hMm:one=true->(m:Int)=(M:Int):=fun h=>by subst h;rw[hM];simp
 obtain⟨WR,WM⟩:=zu wr2 hMm;clear ha hr hc hx hqa hna hqr hnr hM' hM hMb hB hE hB2 hE2 hT hET wr2 hMm hg hk;by_cases he:E=0
 case neg=>
  have q0:(E==0)=false:=by simpa using he
  rw[J3 he,J3 he,J3 he];clear he;go_enter func34,Oc;go_wp2_with fail;refine nz HA fun w0 y0=>?_;go_wp2_with fail;refine nw (HR _) y0 fun w1 y1=>?_;go_wp2_with fail;refine nw (HP _) y1 fun w2 y2=>?_;go_wp2_with fail;go_ret2
  exact⟨rfl,y2.out⟩
 subst he;simp only[ne_eq,eq_self,Lg,Eh];obtain⟨X,hX⟩:∃ s:ByteArray,(if ¬E2=0 then ⟨#[]⟩ else T)=s:=⟨_,rfl⟩;obtain⟨Y,hY⟩:∃ s:Int,(if ¬E2=0 then E2 else ET)=s:=⟨_,rfl⟩;rw[hX,hY];obtain⟨HX,HY⟩:=zu hX hY;clear hX hY;go_enter func34,Oc;go_wp2_with fail;refine nz HA fun w0 y0=>?_;go_wp2_with fail;refine nw (HR _) y0 fun w1 y1=>?_;go_wp2_with fail;refine nw (HP _) y1 fun w2 y2=>?_;cases one
 focus
  have wq:=WR.out rfl;go_wp2_with fail
 rotate_left
 focus
  have wq:=WM.out rfl;rw[wq]at wm |-;go_wp2_with fail
 all_goals
  refine nw (HO _) y2 fun w3 y3=>?_;by_cases he:E2=0
  .obtain⟨e1,e2⟩:=zu (show T=X from by rw[<- HX.out,J2 (by simpa using he)]) (show ET=Y from by rw[<- HY.out,J2 (by simpa using he)]);subst he;go_wp2_with fail;refine nw (HT _) y3 fun w4 y4=>?_;go_wp2_with fail;go_ret2
   exact⟨by rw[<- e1.out,<- e2.out];rfl,y4.out⟩
  .have q1:(E2==0)=false:=by simpa using he
   obtain⟨e1,e2⟩:=zu (show (⟨#[]⟩:ByteArray)=X from by rw[<- HX.out,J3 he]) (show E2=Y from by rw[<- HY.out,J3 he]);clear he;go_wp2_with fail;go_ret2
   exact⟨by rw[<- e1.out,<- e2.out];rfl,y3.out⟩
end
def b1T {x m:Nat}(hx:x<=2 ^ m)(h:m<=1000):Dig 4000 (dyQ x m):=g0M (f0g m) (by rw[Kl];exact l0t hx h) (l0t nr h)
def b0E {x m:Nat}(hx:x<=2 ^ m)(h:m<=1000):(limbs (dyQ x m).num.natAbs).length<=100000/\(limbs (dyQ x m).den).length<=100000:=(b1T hx h).limbs (by omega) (by omega)
def s0P (x m:Nat):c0b (dyQ x m)=dyB x m:=by
 unfold dyB shB;rw[f0L];rfl
def j0T (m:Nat):dyQ 0 m=0:=Rat.zero_mkRat _
def j0U (m:Nat):dyQ (2 ^ m) m=1:=by
 have e:=Jo (n:=1) (d:=1) (f0g m);show mkRat ((2 ^ m:Nat):Int) (2 ^ m)=1
 rw[Int.one_mul,Hn]at e;rw[e];rfl
def m0F {x y m:Nat}(h:y<=x):dyQ x m + -dyQ y m=dyQ (x-y) m:=by rw[<- Id,m0E h]
def p0F (c:Int->Nat)(t n r:Nat):(glP c t n r).length<=2*n+2:=by
 unfold glP glM;rw[J5];have h:=Ga (fun (j:Nat)=>if c ((j:Int)-n)=0 then none else some (zB ((j:Int)-n),shB (c ((j:Int)-n)) t)) (List.range (2*n+1));rw[Lh]at h;have h2:(if r=0 then ([]:List (ByteArray×ByteArray)) else [(b0d,shB r t)]).length<=1:=by split<;>simp
 omega
def d1m:vQ ⟨#[48]⟩=0:=by decide +kernel
def d1q:qE ⟨#[48]⟩=0:=by decide +kernel
def chQ (g:Int->Nat)(n:Nat):List (Int×Rat):=(chA g n).map fun v=>(v,dyQ (g v) n)
def i0P (g:Int->Nat)(n:Nat):(chQ g n).length=(chA g n).length:=by simp[chQ]
def t0o {g:Int->Nat}{n i:Nat}(h:i<(chA g n).length):∃ v,(chA g n)[i]?=some v/\(chQ g n)[i]?=some (v,dyQ (g v) n):=by
 refine⟨_,Q0 h,?_⟩;unfold chQ;rw[Et,Q0 h];rfl
section
variable {g : Int -> Nat} {n : Nat} (hg : ∀ v : Int, v < 0 -> g v = 0) (hz : zS n g <= 2 ^ n)
include hg hz
omit hg hz in
omit hg hz in
omit hg hz in
omit hg hz in
end
section
open Go.Shelf
def q0Y {w w':World}{row:Option Nat}{v:Value}{xs:List Value}(h:Row w v xs)(hg:w.grownBy w' row)(hne:∀ g,v.ownBlock=some g->row≠some g):Row w' v xs:=by
 obtain⟨a,c,rfl,h1,h2,h3⟩:=h.ex;refine⟨a,c,rfl,h1,h2,fun i x hx=>?_⟩;obtain⟨g,o,rfl,hg',hc⟩:=h3 i x hx;exact⟨g,o,rfl,J7 hg' hg.size,hg.cell hc (fun e=>hne g rfl e.symm)⟩
def a1G {w:World}{v:Value}{xs:List Value}{g:Nat}(h:Row w v xs)(h0:0<xs.length)(hg:v.ownBlock=some g):g<w.heap.size:=by
 obtain⟨a,c,rfl,h1,h2,h3⟩:=h.ex;obtain⟨g',o,rfl,hg',hc⟩:=h3 0 _ (Q0 h0);simp only[Value.ownBlock,Az]at hg;omega
def NRowX (w:World)(x:Value)(m:Nat)(f:Nat->Nat)(o:Value):Prop:=∃ ys:List Value,ys.length=m/\Row w x ys/\(∀ g,x.ownBlock=some g->o.ownBlock≠some g)/\∀ j y,ys[j]?=some y->IsN .i64 w y (f j)/\Ap y o (f j)
theorem NRowX.row {w:World}{x o:Value}{m:Nat}{f:Nat->Nat}(h:NRowX w x m f o):NRow w x m f:=by
 obtain⟨ys,h1,h2,h3,h4⟩:=h;exact⟨ys,h1,h2,fun j y hy=>(h4 j y hy).1⟩
theorem NRowX.call {w w':World}{x o:Value}{m:Nat}{f:Nat->Nat}(h:NRowX w x m f o)(hb:Below w.heap.size w w'):NRowX w' x m f o:=by
 obtain⟨ys,h1,h2,h3,h4⟩:=h;exact⟨ys,h1,h2.call hb,h3,fun j y hy=>⟨(h4 j y hy).1.call hb,(h4 j y hy).2⟩⟩
theorem NRowX.of {w:World}{B g m c:Nat}{f:Nat->Nat}{o:Value}(h:NTab B w g m c f)(ho:∀ b,o.ownBlock=some b->b<B):NRowX w (.slice (some ⟨g,0,none⟩) m c) m f o:=by
 have hs:=h.slot;obtain⟨vs,h1,h2⟩:=h.ex;refine⟨vs,by have:=h1.1;omega,Row.of_owns h1,fun b hb e=>?_,fun j y hy=>⟨(h2 j y hy).1,(h2 j y hy).2.imp id fun k b hb e=>?_⟩⟩
 .have:=ho b e;simp only[Value.ownBlock,Az]at hb;omega
 .have:=ho b e;have:=(k b hb).1;omega
theorem NRowX.grow {w w3:World}{x v v3:Value}{m:Nat}{f:Nat->Nat}(h:NRowX w x m f v)(h0:0<m)(hg:w.grownBy w3 v.ownBlock)(hat:v3.ownBlock=v.ownBlock\/v3.ownBlock=some w.heap.size):NRowX w3 x m f v3:=by
 obtain⟨ys,h1,h2,h3,h4⟩:=h;refine⟨ys,h1,q0Y h2 hg h3,fun g hx=>?_,fun j y hy=>⟨f0r (h4 j y hy).1 hg (h4 j y hy).2,?_⟩⟩
 .rcases hat with e | e
  .rw[e];exact h3 g hx
  .rw[e];intro e';injection e' with e'
   have:=a1G h2 (by omega) hx;omega
 .obtain⟨q1,q2⟩:=h4 j y hy;by_cases hz:f j=0
  .exact .inl hz
  .refine .inr fun g hx=>?_
   rcases q2 with e | q2
   .exact absurd e hz
   .rcases hat with e | e
    .rw[e];exact q2 g hx
    .rw[e];intro e';injection e' with e'
     have:=s0m q1 hz hx;omega
def NSeg (B:Nat)(w:World)(v:Value)(r m:Nat)(f:Nat->Nat->Nat):Prop:=∃ vs:List Value,w.ownsRow B 204 1 v r vs/\∀ k x,vs[k]?=some x->NRowX w x m (f k) v
theorem NSeg.nil (B:Nat)(w:World)(m:Nat)(f:Nat->Nat->Nat):NSeg B w (.slice none 0 0) 0 m f:=⟨[],Cq _ _ _ _,fun j x hx=>by simp at hx⟩
theorem NSeg.call {B:Nat}{w w':World}{v:Value}{r m:Nat}{f:Nat->Nat->Nat}(h:NSeg B w v r m f)(hb:Below w.heap.size w w'):NSeg B w' v r m f:=by
 obtain⟨vs,h1,h2⟩:=h;exact⟨vs,h1.kept (b0O hb none) (by cases hv:v.ownBlock<;>simp),fun j x hx=>(h2 j x hx).call hb⟩
theorem NSeg.mono {B B':Nat}{w:World}{v:Value}{r m:Nat}{f:Nat->Nat->Nat}(h:NSeg B w v r m f)(hB:B'<=B):NSeg B' w v r m f:=by
 obtain⟨vs,h1,h2⟩:=h;refine⟨vs,⟨h1.1,?_⟩,h2⟩;rcases h1.2 with h0 | ⟨g',cap,cur,e,k1,k2,k3⟩
 .exact .inl h0
 .exact .inr ⟨g',cap,cur,e,by omega,k2,k3⟩
theorem NSeg.next {B:Nat}{w w1 w3:World}{v v3:Value}{r m g c:Nat}{f:Nat->Nat->Nat}{o:Obj}{vs:List Value}(h0:0<m)(k1:w.ownsRow B 204 1 v r vs)(k2:∀ k x,vs[k]?=some x->NRowX w x m (f k) v)(hb:Below w.heap.size w w1)(hx:NTab w.heap.size w1 g m c (f r))
 (h3:w3.ownsRow B 204 1 v3 (r+1) (vs ++ [.slice (some ⟨g,0,none⟩) m c])) (hg:(w1.alloc o).grownBy w3 v.ownBlock) (hat:v3.ownBlock=v.ownBlock\/v3.ownBlock=some (w1.alloc o).heap.size):NSeg B w3 v3 (r+1) m f:=by
 have hal:Below w1.heap.size w1 (w1.alloc o):=br0.alloc nr o;have hl:vs.length=r:=by have:=k1.1;omega
 refine⟨vs ++ [.slice (some ⟨g,0,none⟩) m c],h3,fun k x hk=>?_⟩;have key:NRowX w1 x m (f k) v:=by
  by_cases hj:k<vs.length
  .rw[As hj]at hk;exact (k2 k x hk).call hb
  .rw[G8 (by omega)]at hk;have hj':k-vs.length=0:=by
    rcases H8 (k-vs.length) with h | h
    .exact h
    .rw[U6 (by simp;omega)]at hk;cases hk
   rw[hj']at hk;obtain rfl:k=r:=by omega
   simp at hk;subst hk;exact NRowX.of hx fun b hb'=>(k1.lt b hb').2
 exact (key.call hal).grow h0 hg hat
theorem NSeg.open {B:Nat}{w:World}{v:Value}{r m:Nat}{f:Nat->Nat->Nat}(h:NSeg B w v (r+1) m f):∃ g c,v=.slice (some ⟨g,0,none⟩) (r+1) c/\r+1<=c/\c<=9223372036854775807/\g<w.heap.size/\∀ k,k<=r->∃ x,w.cell? ⟨g,k,none⟩=some x/\NRow w x m (f k):=by
 obtain⟨vs,h1,h2⟩:=h;obtain⟨g,c,rfl,-,-⟩:=h1.form (Ev r);have hs:=e0c h1;have hl:vs.length=r+1:=by have:=h1.1;omega
 refine⟨g,c,rfl,hs.2.2.2.2.2.1,hs.2.2.2.2.1,hs.2.1,fun k hk=>?_⟩;obtain⟨x,hx⟩:∃ x,vs[k]?=some x:=⟨_,Q0 (by omega)⟩;exact⟨x,hs.2.2.2.1 k x hx,(h2 k x hx).row⟩
def chC (y:Int×Bool×Value×Value):List Value:=[.int .i64 y.1,.bool y.2.1,y.2.2.1,y.2.2.2]
def chF (L:List (Int×Bool×Value×Value)):List Value:=L.flatMap chC
def v0Q (L:List (Int×Bool×Value×Value))(y:Int×Bool×Value×Value):chF (L ++ [y])=chF L++chC y:=by simp[chF]
def Ks:=@List.getElem?_cons_succ
def z0u {L:List (Int×Bool×Value×Value)}:∀ {i:Nat} {y:Int×Bool×Value×Value},L[i]?=some y->(chF L)[i*4]?=some (.int .i64 y.1)/\(chF L)[i*4+1]?=some (.bool y.2.1)/\(chF L)[i*4+2]?=some y.2.2.1/\(chF L)[i*4+3]?=some y.2.2.2:=by
 induction L with
 | nil=>intro i p h;simp at h
 | cons q r ih=>
  intro i p h;have hl:(chC q).length=4:=rfl;cases i with
  | zero=>simp at h;subst h;exact⟨rfl,rfl,rfl,rfl⟩
  | succ i=>
   rw[Ks]at h;obtain⟨h1,h2,h3,h4⟩:=ih h;have e:chF (q::r)=chC q++chF r:=rfl;rw[e];refine⟨?_,?_,?_,?_⟩
   .rw[G8 (by omega),hl,show (i+1)*4-4=i*4 by omega];exact h1
   .rw[G8 (by omega),hl,show (i+1)*4+1-4=i*4+1 by omega];exact h2
   .rw[G8 (by omega),hl,show (i+1)*4+2-4=i*4+2 by omega];exact h3
   .rw[G8 (by omega),hl,show (i+1)*4+3-4=i*4+3 by omega];exact h4
structure CRow (w:World)(v:Value)(l:List (Int×Rat)):Prop where
 ex:∃ a c,v=.slice a l.length c/\l.length<=c/\c<=9223372036854775807/\∀ (i:Nat) (x:Int×Rat),l[i]?=some x->∃ g o N D,a=some ⟨g,o,none⟩/\g<w.heap.size/\w.cell? ⟨g,o+i*4,none⟩=some (.int .i64 x.1)/\w.cell? ⟨g,o+i*4+1,none⟩=some (.bool (decide (x.2.num<0)))/\w.cell? ⟨g,o+i*4+2,none⟩=some N/\w.cell? ⟨g,o+i*4+3,none⟩=some D/\IsN .i64 w N x.2.num.natAbs/\IsN .i64 w D x.2.den
theorem CRow.call {w w':World}{v:Value}{l:List (Int×Rat)}(h:CRow w v l)(hb:Below w.heap.size w w'):CRow w' v l:=by
 obtain⟨a,c,rfl,h1,h2,h3⟩:=h.ex;refine⟨a,c,rfl,h1,h2,fun i x hx=>?_⟩;obtain⟨g,o,N,D,rfl,hg,k1,k2,k3,k4,k5,k6⟩:=h3 i x hx;exact⟨g,o,N,D,rfl,J7 hg hb.size,(hb.cell (p:=⟨g,o+i*4,none⟩) hg).trans k1,(hb.cell (p:=⟨g,o+i*4+1,none⟩) hg).trans k2,(hb.cell (p:=⟨g,o+i*4+2,none⟩) hg).trans k3,(hb.cell (p:=⟨g,o+i*4+3,none⟩) hg).trans k4,k5.call hb,k6.call hb⟩
structure COwn (B:Nat)(w:World)(v:Value)(l:List (Int×Rat))(vs:List (Int×Bool×Value×Value)):Prop where
 own:w.ownsRow B 89 4 v l.length (chF vs)
 len:vs.length=l.length
 at_:∀ (i:Nat) (y:Int×Bool×Value×Value) (x:Int×Rat),vs[i]?=some y->l[i]?=some x->y.1=x.1/\y.2.1=decide (x.2.num<0)/\IsN .i64 w y.2.2.1 x.2.num.natAbs/\Ap y.2.2.1 v x.2.num.natAbs/\IsN .i64 w y.2.2.2 x.2.den/\Ap y.2.2.2 v x.2.den
theorem COwn.nil (B:Nat)(w:World):COwn B w (.slice none 0 0) [] []:=⟨Cq _ _ _ _,rfl,fun i y x h=>by simp at h⟩
theorem COwn.call {B:Nat}{w w':World}{v:Value}{l:List (Int×Rat)}{vs:List (Int×Bool×Value×Value)}(h:COwn B w v l vs)(hb:Below w.heap.size w w'):COwn B w' v l vs:=by
 refine⟨h.own.kept (b0O hb none) (by cases hv:v.ownBlock<;>simp),h.len,fun i y x hy hx=>?_⟩;obtain⟨k1,k2,k3,k4,k5,k6⟩:=h.at_ i y x hy hx;exact⟨k1,k2,k3.call hb,k4,k5.call hb,k6⟩
def o0F {w:World}{v v3 y:Value}{n:Nat}(hn:IsN .i64 w y n)(h:Ap y v n)(hat:v3.ownBlock=v.ownBlock\/v3.ownBlock=some w.heap.size):Ap y v3 n:=by
 by_cases hz:n=0
 .exact .inl hz
 .refine .inr fun g hx=>?_
  rcases h with e | q2
  .exact absurd e hz
  .rcases hat with e | e
   .rw[e];exact q2 g hx
   .rw[e];intro e';injection e' with e'
    have:=s0m hn hz hx;omega
theorem COwn.next {B:Nat}{w w3:World}{v v3:Value}{l:List (Int×Rat)}{vs:List (Int×Bool×Value×Value)}(h:COwn B w v l vs)(x:Int)(q:Rat){N D:Value}(hN:IsN .i64 w N q.num.natAbs)(aN:Ap N v q.num.natAbs)(hD:IsN .i64 w D q.den)(aD:Ap D v q.den)
 (h3:w3.ownsRow B 89 4 v3 (l.length+1) (chF vs ++ [.int .i64 x,.bool (decide (q.num<0)),N,D])) (hg:w.grownBy w3 v.ownBlock) (hat:v3.ownBlock=v.ownBlock\/v3.ownBlock=some w.heap.size):COwn B w3 v3 (l ++ [(x,q)]) (vs ++ [(x,decide (q.num<0),N,D)]):=by
 refine⟨by rw[v0Q,J5];exact h3,by simp[h.len],fun i y z hy hz=>?_⟩;have key:y.1=z.1/\y.2.1=decide (z.2.num<0)/\IsN .i64 w y.2.2.1 z.2.num.natAbs/\Ap y.2.2.1 v z.2.num.natAbs/\IsN .i64 w y.2.2.2 z.2.den/\Ap y.2.2.2 v z.2.den:=by
  by_cases hj:i<vs.length
  .rw[As hj]at hy;rw[As (by rw[<- h.len];exact hj)]at hz;exact h.at_ i y z hy hz
  .rw[G8 (by omega)]at hy;rw[G8 (by rw[<- h.len];omega)]at hz;have hl:=h.len;have hj':i-vs.length=0:=by
    rcases H8 (i-vs.length) with h | h
    .exact h
    .rw[U6 (by simp;omega)]at hy;cases hy
   rw[hj']at hy;rw[show i-l.length=0 by omega]at hz;simp at hy hz;subst hy hz;exact⟨rfl,rfl,hN,aN,hD,aD⟩
 obtain⟨k1,k2,k3,k4,k5,k6⟩:=key;exact⟨k1,k2,f0r k3 hg k4,o0F k3 k4 hat,f0r k5 hg k6,o0F k5 k6 hat⟩
def o0G {B:Nat}{w w1:World}{v y:Value}{l:List (Int×Rat)}{vs:List (Int×Bool×Value×Value)}{n:Nat}(h:COwn B w v l vs)(hf:∀ g,y.ownBlock=some g->w.heap.size<=g):Ap y v n:=.inr fun g hg e=>by
 have:=(h.own.lt g e).2;have:=hf g hg;omega
theorem COwn.row {B:Nat}{w:World}{v:Value}{l:List (Int×Rat)}{vs:List (Int×Bool×Value×Value)}(h:COwn B w v l vs):CRow w v l:=by
 rcases h.own.2 with ⟨rfl,h0⟩ | ⟨g,cap,cur,rfl,hb,hg,k1,k2,k3,k4⟩
 .have h1:=h.own.1;have hl:l = []:=Ho.1 (by omega);subst hl;exact⟨none,0,rfl,O4 _,by omega,fun i x hx=>by simp at hx⟩
 .obtain⟨o1,o2,o3,o4,o5,o6⟩:=d0F h.own;refine⟨some ⟨g,0,none⟩,cap,rfl,o6,o5,fun i x hx=>?_⟩;have hi:i<vs.length:=by rw[h.len];exact (U4.1 hx).1
  obtain⟨y,hy⟩:∃ y,vs[i]?=some y:=⟨_,Q0 hi⟩;obtain⟨q1,q2,q3,q4,q5,q6⟩:=h.at_ i y x hy hx;obtain⟨f1,f2,f3,f4⟩:=z0u hy;refine⟨g,0,y.2.2.1,y.2.2.2,rfl,o2,?_,?_,?_,?_,q3,q5⟩
  .rw[F9,<- q1];exact o4 _ _ f1
  .rw[F9,<- q2];exact o4 _ _ f2
  .rw[F9];exact o4 _ _ f3
  .rw[F9];exact o4 _ _ f4
end
end Go.Proofs.YtfkpfpobmobnbaaGreatDoor
