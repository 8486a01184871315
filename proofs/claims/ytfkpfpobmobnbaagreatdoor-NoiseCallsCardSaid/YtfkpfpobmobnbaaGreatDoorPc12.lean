/- Texts that the proof rests on, merged: R6h, KoI, Nr2, Nx0, Rl0, Ny0, Krw, Sx1, Sx2, So0, Qb, Ro0, Nrw, Ns, Chn, Chp, RdF, R2da, Iz, Rch, Er5, Tw. -/
import Derived.Test.YtfkpfpobmobnbaaGreatDoorPc11
import Derived.Maps.AppendAt
set_option linter.defProp false
set_option linter.unusedVariables false
set_option linter.unusedSimpArgs false
set_option linter.unusedSectionVars false
set_option maxRecDepth 100000
set_option maxHeartbeats 8000000
namespace Go.Proofs.YtfkpfpobmobnbaaGreatDoor
section
open Go.RowKit Go.Shelf
open Go.Lib (decDigits nDigits)
def t0q {a:ByteArray}(h:gPE a=0):bN (cW a)=(vQ a).num.natAbs/\bN (qD a)=(vQ a).den:=by
 obtain⟨h1,h2,-,-⟩:=e0z h;obtain⟨g1,g2,g3⟩:=i0t h1;have hm:iM (cW a)=false:=by
  rw[<- g1,F9];omega
 rw[b0P hm]at g2;exact⟨g2.symm,g3.symm⟩
def d0E {a:ByteArray}(h:gPE a=0):(limbs (vQ a).num.natAbs).length<=100000/\(limbs (vQ a).den).length<=100000:=(e0z h).2.2.2.limbs (L:=100000) (by omega) (by omega)
def n0X (w:World)(a b:ByteArray)(ha:a.size<=1000000)(hb:b.size<=1000000)(he:gE a b≠0):
 Calls Tryz.prog 48 #[.string a,.string b] w fun e w'=>e=.returned (.tuple #[.agg #[.bool false,.int .i64 0,.int .i64 0],.int .i64 (gE a b)])/\Below w.heap.size w w':=by
 have R0:=fun V=>hid (l0k V a b ha hb)
 obtain⟨x,hx⟩:=gn (gE a b);rw[hx]at R0 he |-;have q0:(x != 0)=true:=by simpa using he
 obtain⟨x0,b0⟩:=zg (Blk.new w #[.bool false,.int .i64 0,.int .i64 0] 62) ((J3 w.heap.size w).alloc nr (.cells #[.bool false,.int .i64 0,.int .i64 0] 62));clear ha hb he hx;go_enter Tryz.func48,Tryz.ntmps48;go_wp2_with fail;refine (R0 _).out.mono ?_;rintro e w1 ⟨rfl,hb1⟩;obtain⟨x1,b1⟩:=zg (x0.out.call hb1) (a0a b0.out hb1);have d0:=x1.out.cell 0;have d1:=x1.out.cell 1;have d2:=x1.out.cell 2;have e0:=x1.out.free 0;have e1:=x1.out.free 1;have e2:=x1.out.free 2;simp at d0 d1 d2;clear hb1;go_wp2_with fail;refine J6 (v:=.tuple #[.agg #[.bool false,.int .i64 0,.int .i64 0],.int .i64 x]) (by simp[results,Tryz.results48,go_sem,d0,d1,d2]) rfl ⟨rfl,?_⟩
 first | exact b1.out | exact ((b1.out.setCell nr _).setCell nr _).setCell nr _
def l0l (w:World)(a b:ByteArray)(ha:a.size<=100000)(hb:b.size<=100000)(he:gE a b=0)(hS:s1 (vQ a).num.natAbs (vQ a).den b.data.toList 0 0=none):
 Calls Tryz.prog 48 #[.string a,.string b] w fun e w'=>e=.returned (.tuple #[.agg #[.bool false,.int .i64 0,.int .i64 (b.size:Nat)],.int .i64 0])/\Below w.heap.size w w':=by
 have R0:=fun V=>hid (l0k V a b (by omega) (by omega))
 rw[he]at R0;have R1:=fun V=>hid (c0I V a (by omega))
 have hg:=(d0o he).1;obtain⟨hq,hnum,hlt,hdig⟩:=e0z hg;have RS:=fun V v (hV:IsQ .i64 V v (vQ a))=>hid (g0M V v (vQ a) b (by omega) hV (d0E hg).1 (d0E hg).2 hlt)
 rw[hS]at RS;have HQ:=hid hq;have RS':∀ V v,IsQ .i64 V v (vQ a)->Hid (Calls Tryz.prog 141 #[v,.string b] V fun e w'=>e=.returned (.tuple #[.int .i64 0,.int .i64 0,.bool false])/\Below V.heap.size V w'):=RS;clear RS;have RS:=RS';clear RS' ha hb he hg hq hnum hlt hdig hS;obtain⟨x0,b0⟩:=zg (Blk.new w #[.bool false,.int .i64 0,.int .i64 0] 62) ((J3 w.heap.size w).alloc nr (.cells #[.bool false,.int .i64 0,.int .i64 0] 62));go_enter Tryz.func48,Tryz.ntmps48;go_wp2_with fail;refine (R0 _).out.mono ?_;rintro e w1 ⟨rfl,hb1⟩;obtain⟨x1,b1⟩:=zg (x0.out.call hb1) (a0a b0.out hb1);clear hb1;go_wp2_with fail;refine (R1 _).out.mono ?_;rintro e w2 ⟨hr,hb2⟩;obtain⟨pm,pa,pn,pc,pa',pn',pc',rfl,h1,-⟩:=hr.open;have hqA:=h1 HQ.out;rw[HQ.out];have ba:=(J3 w2.heap.size w2).alloc nr (.cells #[.bool pm,.slice pa pn pc,.slice pa' pn' pc'] 81);obtain⟨x2,b2,q2,y2⟩:=zd ((x1.out.call hb2).call ba) (a0a (a0a b1.out hb2) ba) (hqA.call ba) (Blk.new w2 #[.bool pm,.slice pa pn pc,.slice pa' pn' pc'] 81);have g0:=y2.out.cell 0;have g1:=y2.out.cell 1;have g2:=y2.out.cell 2;simp at g0 g1 g2;clear hr hb2 h1 hqA ba;go_wp2_with fail;refine (RS _ _ q2.out).out.mono ?_;rintro e w3 ⟨rfl,hb3⟩;obtain⟨x3,b3⟩:=zg (x2.out.call hb3) (a0a b2.out hb3);clear hb3 g0 g1 g2;have d0:=x3.out.cell 0;have d1:=x3.out.cell 1;have d2:=x3.out.cell 2;have e0:=x3.out.free 0;have e1:=x3.out.free 1;have e2:=x3.out.free 2;simp at d0 d1 d2;go_wp2_with fail;have s3:=((x3.out.set 0 (.bool false)).set 1 (.int .i64 0)).set 2 (.int .i64 (b.size:Nat));have f0:=s3.cell 0;have f1:=s3.cell 1;have f2:=s3.cell 2;simp at f0 f1 f2;refine J6 (v:=.tuple #[.agg #[.bool false,.int .i64 0,.int .i64 (b.size:Nat)],.int .i64 0]) (by simp[results,Tryz.results48,go_sem,f0,f1,f2]) rfl ⟨rfl,?_⟩;exact ((b3.out.setCell nr _).setCell nr _).setCell nr _
def g0L (w:World)(a b:ByteArray)(n p:Nat)(o:Option (Nat×Nat))(z1:Bool)(z2 z3:Int)(ha:a.size<=100000)(hb:b.size<=256)(he:gE a b=0)(hn:n<=256)(hp:p<=b.size)(hS:s1 (vQ a).num.natAbs (vQ a).den b.data.toList 0 0=some (n,p))
 (ho:s1 (vQ a).num.natAbs (vQ a).den (b.data.toList.drop p) 0 0=o) (hz:(o=none/\z1=false/\z2=0/\z3=(b.size:Nat))\/(∃ k q:Nat,o=some (k,q)/\k<=256/\p+q<=b.size/\z1=true/\z2=(n:Int)-k/\z3=(p+q:Nat))):
 Calls Tryz.prog 48 #[.string a,.string b] w fun e w'=>e=.returned (.tuple #[.agg #[.bool z1,.int .i64 z2,.int .i64 z3],.int .i64 0])/\Below w.heap.size w w':=by
 have R0:=fun V=>hid (l0k V a b (by omega) (by omega))
 rw[he]at R0;have R1:=fun V=>hid (c0I V a (by omega))
 have hg:=(d0o he).1;obtain⟨hq,hnum,hlt,hdig⟩:=e0z hg;have RS:=fun V v (hV:IsQ .i64 V v (vQ a))=>hid (g0M V v (vQ a) b (by omega) hV (d0E hg).1 (d0E hg).2 hlt)
 rw[hS]at RS;have HQ:=hid hq;have RS':∀ V v,IsQ .i64 V v (vQ a)->Hid (Calls Tryz.prog 141 #[v,.string b] V fun e w'=>e=.returned (.tuple #[.int .i64 (n:Nat),.int .i64 (p:Nat),.bool true])/\Below V.heap.size V w'):=RS;clear RS;have RS:=RS';have hx:(b.extract p b.size).data.toList=b.data.toList.drop p:=by
  rw[a0J];refine Z6 ?_;rw[S9];simp
 have RS2:=fun V v (hV:IsQ .i64 V v (vQ a))=>hid (g0M V v (vQ a) (b.extract p b.size) (by simp;omega) hV (d0E hg).1 (d0E hg).2 hlt)
 obtain⟨x1v,x2v,x3v,hv⟩:∃ (y1 y2:Int) (y3:Bool),b1k o=.tuple #[.int .i64 y1,.int .i64 y2,.bool y3]:=by cases o<;>exact⟨_,_,_,rfl⟩
 rw[hx,ho,hv]at RS2;have HVV:=hid hv;clear hv;obtain⟨HZ,HB,HNN⟩:=zc hz hb hn;clear RS' ha hb he hg hq hnum hlt hdig hS ho hx hz hn;obtain⟨x0,b0⟩:=zg (Blk.new w #[.bool false,.int .i64 0,.int .i64 0] 62) ((J3 w.heap.size w).alloc nr (.cells #[.bool false,.int .i64 0,.int .i64 0] 62));go_enter Tryz.func48,Tryz.ntmps48;go_wp2_with fail;refine (R0 _).out.mono ?_;rintro e w1 ⟨rfl,hb1⟩;obtain⟨x1,b1⟩:=zg (x0.out.call hb1) (a0a b0.out hb1);clear hb1;go_wp2_with fail;refine (R1 _).out.mono ?_;rintro e w2 ⟨hr,hb2⟩;obtain⟨pm,pa,pn,pc,pa',pn',pc',rfl,h1,-⟩:=hr.open;have hqA:=h1 HQ.out;rw[HQ.out];have ba:=(J3 w2.heap.size w2).alloc nr (.cells #[.bool pm,.slice pa pn pc,.slice pa' pn' pc'] 81);obtain⟨x2,b2,q2,y2⟩:=zd ((x1.out.call hb2).call ba) (a0a (a0a b1.out hb2) ba) (hqA.call ba) (Blk.new w2 #[.bool pm,.slice pa pn pc,.slice pa' pn' pc'] 81);have g0:=y2.out.cell 0;have g1:=y2.out.cell 1;have g2:=y2.out.cell 2;simp at g0 g1 g2;clear hr hb2 h1 hqA ba;go_wp2_with fail;refine (RS _ _ q2.out).out.mono ?_;rintro e w3 ⟨rfl,hb3⟩;obtain⟨x3,b3,y3,q3⟩:=zd (x2.out.call hb3) (a0a b2.out hb3) (y2.out.call hb3) (q2.out.call hb3);clear hb3 g0 g1 g2;have g0:=y3.out.cell 0;have g1:=y3.out.cell 1;have g2:=y3.out.cell 2;simp at g0 g1 g2;have i0:(0:Int)<=(p:Int):=by omega
 have i1:(p:Int)<=(b.size:Int):=by omega
 go_wp2_with fail;obtain⟨gA,hgA⟩:=gn (w2.heap.size);rw[hgA]at g0 g1 g2 y3 |-;clear hgA;have KK:Hid (∀ w',Below w3.heap.size w3 w'->w'.cell? ⟨gA,0,none⟩=some (.bool pm)/\w'.cell? ⟨gA,1,none⟩=some (.slice pa pn pc)/\w'.cell? ⟨gA,2,none⟩=some (.slice pa' pn' pc')):=fun w' hb=>by
  have y:=y3.out.call hb;exact⟨y.cell 0,y.cell 1,y.cell 2⟩
 go_region_held3 (fun w'=>w'.cell? ⟨gA,0,none⟩=some (.bool pm)/\w'.cell? ⟨gA,1,none⟩=some (.slice pa pn pc)/\w'.cell? ⟨gA,2,none⟩=some (.slice pa' pn' pc'))
  (first
   | exact KK.out _ br0.drew
   | exact KK.out _ cc.out)
  (first
   | (go_at_call 141;refine (RS2 _ _ (q3.out.call br0.drew)).out.mono ?_;rintro e w4 ⟨rfl,hb4⟩;have cc:=hid (a0a br0.drew hb4)))
 obtain⟨x4,b4⟩:=zg (x3.out.call cc.out) (a0a b3.out cc.out);clear hb4 cc KK g0 g1 g2;rcases HZ.out with ⟨rfl,rfl,rfl,rfl⟩ | ⟨k,q,rfl,hk,hpq,rfl,rfl,rfl⟩
 .have hv:=HVV.out;simp[b1k]at hv;obtain⟨rfl,rfl,rfl⟩:=hv;clear HVV;have d0:=x4.out.cell 0;have d1:=x4.out.cell 1;have d2:=x4.out.cell 2;have e0:=x4.out.free 0;have e1:=x4.out.free 1;have e2:=x4.out.free 2;simp at d0 d1 d2;go_wp2_with fail;have s3:=((x4.out.set 0 (.bool false)).set 1 (.int .i64 0)).set 2 (.int .i64 (b.size:Nat));have f0:=s3.cell 0;have f1:=s3.cell 1;have f2:=s3.cell 2;simp at f0 f1 f2;refine J6 (v:=.tuple #[.agg #[.bool false,.int .i64 0,.int .i64 (b.size:Nat)],.int .i64 0]) (by simp[results,Tryz.results48,go_sem,f0,f1,f2]) rfl ⟨rfl,?_⟩;exact ((b4.out.setCell nr _).setCell nr _).setCell nr _
 .have hv:=HVV.out;simp[b1k]at hv;obtain⟨rfl,rfl,rfl⟩:=hv;clear HVV;have w1:IntKind.i64.wrap ((n:Int)-(k:Nat))=(n:Int)-k:=by have:=HNN.out;rw[O0 _ ⟨by omega,by omega⟩]
  have w2:IntKind.i64.wrap ((p:Int)+(q:Nat))=((p+q:Nat):Int):=by have:=HB.out;rw[O0 _ ⟨by omega,by omega⟩];omega
  have d0:=x4.out.cell 0;have d1:=x4.out.cell 1;have d2:=x4.out.cell 2;have e0:=x4.out.free 0;have e1:=x4.out.free 1;have e2:=x4.out.free 2;simp at d0 d1 d2;go_wp2_with fail;have s3:=((x4.out.set 0 (.bool true)).set 1 (.int .i64 ((n:Int)-(k:Nat)))).set 2 (.int .i64 ((p+q:Nat):Int));have f0:=s3.cell 0;have f1:=s3.cell 1;have f2:=s3.cell 2;simp at f0 f1 f2;refine J6 (v:=.tuple #[.agg #[.bool true,.int .i64 ((n:Int)-(k:Nat)),.int .i64 ((p+q:Nat):Int)],.int .i64 0]) (by simp[results,Tryz.results48,go_sem,f0,f1,f2]) rfl ⟨rfl,?_⟩;exact ((b4.out.setCell nr _).setCell nr _).setCell nr _
def z0B (w:World)(a b:ByteArray)(ha:a.size<=100000)(hb:b.size<=100000):
 Calls Tryz.prog 48 #[.string a,.string b] w fun e w'=>e=.returned (.tuple #[d3 (wT a b),.int .i64 (gE a b)])/\Below w.heap.size w w':=by
 by_cases he:gE a b=0
 .obtain⟨e1,e2⟩:=t0q (d0o he).1;have hlt:=(e0z (d0o he).1).2.2.1;have hs:=d0g (d0o he).2;have hl:b.data.toList.length=b.size:=a0z b;unfold wT;rw[U0 he,he,e1,e2];unfold y0Y;cases hS:s1 (vQ a).num.natAbs (vQ a).den b.data.toList 0 0 with
  | none=>
   have h:=l0l w a b ha hb he hS;rw[<- hl]at h;exact h
  | some y=>
   obtain⟨n,p⟩:=y;have h2:=n0V hlt b.data.toList.length 0 0 n p (Nat.zero_le _) (by omega) hS;have hd:=l0h hlt (l:=b.data.toList) (a:=p) (by omega) b.data.toList.length 0 0 (by omega) (by omega);rw[Nat.add_zero]at hd;dsimp only;rw[hd];cases hT:s1 (vQ a).num.natAbs (vQ a).den (b.data.toList.drop p) 0 0 with
   | none=>
    have h:=g0L w a b n p none false 0 (b.size:Nat) ha hs he (by omega) (by omega) hS hT (.inl ⟨rfl,rfl,rfl,rfl⟩);rw[<- hl]at h;exact h
   | some z=>
    obtain⟨k,q⟩:=z;have h3:=n0V hlt (b.data.toList.drop p).length 0 0 k q (J5 _) (by omega) hT;rw[S9]at h3;exact g0L w a b n p (some (k,q)) true ((n:Int)-k) ((p+q:Nat):Int) ha hs he (by omega) (by omega) hS hT (.inr ⟨k,q,rfl,by omega,by omega,rfl,rfl,rfl⟩)
 .unfold wT;rw[Q0 he];exact n0X w a b (by omega) (by omega) he
def h0i:(Tryz.prog.info? 3).map (fun i=>(i.zero,i.size,i.bytes))=some (some (.int .i64 0),1,8):=by kernel_rfl
def x0J (w:World)(v:Value)(l:List Int)(hv:Row w v (zs l))(hl:l.length<=1000000):
 Calls Tryz.prog 8 #[v] w fun e w'=>(∃ u,e=.returned u/\w'.ownsRow w.heap.size 3 1 u l.length (zs l))/\Below w.heap.size w w':=by
 obtain⟨i0,hi,hz0,hz1,hz2⟩:=Cl h0i;obtain⟨a,c,rfl,q1,q2,q3⟩:=hv.ex;rw[zs_length]at *;have SRC:Hid (∀ j u,(zs l)[j]?=some u->∃ ad,a=some ad/\(w.alloc (.cells #[] 3)).cell? (ad.add j)=some u):=fun j u hu=>by
  obtain⟨g,o,rfl,hg,hc⟩:=q3 j u hu;refine⟨_,rfl,?_⟩;rw[Addr.add_lit];exact (((J3 w.heap.size w).alloc nr (.cells #[] 3)).cell (p:=⟨g,o+j,none⟩) hg).trans hc
 obtain⟨HO,HB⟩:=zg (show (w.alloc (.cells #[] 3)).ownsRow w.heap.size 3 1 (.slice (some ⟨w.heap.size,0,none⟩) 0 0) 0 [] from Jn _ _ 0 nr (by unfold maxLen;omega) rfl) ((J3 w.heap.size w).alloc nr (.cells #[] 3));obtain⟨n,hn⟩:=gn (l.length);have HN:=hid (show (zs l).length=n*1 from by rw[zs_length,hn];omega);rw[hn]at hl q1 |-;clear hv q3 hn;go_enter Tryz.func8,Tryz.ntmps8;go_wp2_with (at_builtin;refine c0L rfl _ _ 22 rfl w.heap.size 3 i0 (.int .i64 0) 1 8 Ib hi hz0 hz1 hz2 rfl (by decide) (.slice (some ⟨w.heap.size,0,none⟩) 0 0) 0 [] rfl HO.out (by intro e;cases e) a n c (zs l) rfl HN.out SRC.out (z0b l) (by unfold maxLen;omega) (by omega) (by simp) ?_;intro v1 w1 hown1 hg1 hne1;have O1:=hid hown1;have G1:=hid hg1;clear hown1 hg1 hne1)
 go_ret
 refine⟨⟨_,rfl,?_⟩,b0V HO.out HB.out G1.out⟩;have:=O1.out;simpa using this
def a1s (w:World)(v:Value)(l:List Int)(hv:Row w v (zs l))(hl:l.length<=1000000):
 Calls Tryz.prog 8 #[v] w fun e w'=>(∃ u,e=.returned u/\Row w' u (zs l))/\Below w.heap.size w w':=
 (x0J w v l hv hl).mono fun e w' h=>by
  obtain⟨⟨u,h1,h2⟩,h3⟩:=h;exact⟨⟨u,h1,Row.of_owns h2⟩,h3⟩
def f0Y (w:World):Row w (.slice none 0 0) (zs []):=⟨none,0,rfl,Z3 _,by unfold maxLen;omega,fun i x h=>by simp[zs]at h⟩
def Kt:=@Go.Proofs.Tryz.results10
def w0X (w:World)(v u:Value)(c:List Int)(a:ByteArray)(bs:List ByteArray)(hv:Row w v (zs c))(hu:Row w u (e0p bs))(ha:a.size<=100000)(hb:∀ x∈bs,x.size<=100000000):
 Calls Tryz.prog 10 #[v,.string a,u] w fun e w'=>(∃ y,e=.returned (.tuple #[y,.bool (naO c a bs).isSome,.int .i64 (naE c a bs)])/\Row w' y (zs ((naO c a bs).getD [])))/\Below w.heap.size w w':=by
 obtain⟨i0,hi,hz0,hz1,hz2⟩:=Cl h0i;have HC:=hid (g0O w v c hv);have HR:=fun V=>hid (c0o V a (by omega))
 have HW:=fun V h=>hid (l0o V u bs ((c.length:Nat):Int) h hb)
 obtain⟨PT,HV,HU⟩:=zc (fun V x (hx:c0t x=0)=>z0B V a x ha (by have:=d0g hx;omega)) hv hu;obtain⟨s,cp,rfl,q1,q2,q3⟩:=hv.openZ;obtain⟨t,cq,rfl,p1,p2,p3⟩:=hu.openS;obtain⟨Q3,P3⟩:=zg q3 p3;have HNA:Hid (naE c a bs=0->NaOk c a bs):=fun h=>v0B h
 have HRO:Hid (naE c a bs=0->naO c a bs=nzO true a c bs):=fun h=>q0Q h rfl
 have HRB:Hid (naE c a bs≠0->naO c a bs=none):=fun h=>q0R h
 have hE:naE c a bs=if zE c≠0 then zE c else if gPE a≠0 then gPE a else wdE bs ((c.length:Nat):Int):=rfl
 obtain⟨z,hz⟩:=gn (naE c a bs);obtain⟨z1,hz1'⟩:=gn (zE c);obtain⟨z2,hz2'⟩:=gn (gPE a);obtain⟨z3,hz3'⟩:=gn (wdE bs ((c.length:Nat):Int));obtain⟨ro,hro⟩:=gn (naO c a bs);obtain⟨n,hn⟩:=gn (c.length);obtain⟨n2,hn2⟩:=gn (bs.length);obtain⟨HN,HN2⟩:=zg hn hn2;rw[hz,hro]at HRO HRB;rw[hz]at HNA;rw[hz,hro];rw[hz,hz1',hz2',hz3']at hE;rw[hz1']at HC;simp only[hz2']at HR;rw[hn]at hz3';simp only[hn,hz3']at HW;rw[hn]at HV HC q1 |-;rw[hn2]at HU p1 |-;simp only[hn2]at HW;clear hv hu q3 p3 ha hb hz hz1' hz2' hz3' hro hn hn2;by_cases h1:z1=0
 case neg=>
  rw[U0 h1]at hE;subst hE;obtain rfl:=HRB.out h1;have t0:(z==0)=false:=by rw[U4];exact h1
  clear HNA HRO HRB h1 Q3 P3;go_enter Tryz.func10,Tryz.ntmps10;go_wp2_with fail;refine HC.out.mono ?_;rintro e w1 ⟨rfl,hb1⟩;go_wp2_with fail;refine J6 (v:=.tuple #[.slice none 0 0,.bool false,.int .i64 z]) (by simp[results,Kt,go_sem]) rfl ⟨⟨_,rfl,f0Y _⟩,hb1⟩
 subst h1;rw[Q0 (by simp)]at hE;by_cases h2:z2=0
 case neg=>
  rw[U0 h2]at hE;subst hE;obtain rfl:=HRB.out h2;have t0:(z==0)=false:=by rw[U4];exact h2
  clear HNA HRO HRB h2 Q3 P3;go_enter Tryz.func10,Tryz.ntmps10;go_wp2_with fail;refine HC.out.mono ?_;rintro e w1 ⟨rfl,hb1⟩;have y1:=hid hb1;clear hb1;go_wp2_with fail;refine (HR _).out.mono ?_;rintro e w2 ⟨rfl,hb2⟩;have y2:=hid (a0a y1.out hb2);clear hb2;go_wp2_with fail;refine J6 (v:=.tuple #[.slice none 0 0,.bool false,.int .i64 z]) (by simp[results,Kt,go_sem]) rfl ⟨⟨_,rfl,f0Y _⟩,y2.out⟩
 subst h2;rw[Q0 (by simp)]at hE;subst hE;by_cases h3:z=0
 case neg=>
  obtain rfl:=HRB.out h3;have t0:(z==0)=false:=by rw[U4];exact h3
  clear HNA HRO HRB h3 Q3 P3;go_enter Tryz.func10,Tryz.ntmps10;go_wp2_with fail;refine HC.out.mono ?_;rintro e w1 ⟨rfl,hb1⟩;have y1:=hid hb1;clear hb1;go_wp2_with fail;refine (HR _).out.mono ?_;rintro e w2 ⟨rfl,hb2⟩;have y2:=hid (a0a y1.out hb2);clear hb2;go_wp2_with fail;refine (HW _ (HU.out.call y2.out)).out.mono ?_;rintro e w3 ⟨rfl,hb3⟩;have y3:=hid (a0a y2.out hb3);clear hb3;go_wp2_with fail;refine J6 (v:=.tuple #[.slice none 0 0,.bool false,.int .i64 z]) (by simp[results,Kt,go_sem]) rfl ⟨⟨_,rfl,f0Y _⟩,y3.out⟩
 subst h3;obtain⟨HOK,HRO2⟩:=zg (HNA.out rfl) (HRO.out rfl);have hle:=HOK.out.le;rw[HN.out]at hle;have hl2:n2=n:=by have:=HOK.out.len;rw[HN.out,HN2.out]at this;exact this
 subst hl2;have HLE:=hid hle;clear HNA HRO HRB hle;go_enter Tryz.func10,Tryz.ntmps10;go_wp2_with fail;refine HC.out.mono ?_;rintro e w1 ⟨rfl,hb1⟩;have y1:=hid hb1;clear hb1;go_wp2_with fail;refine (HR _).out.mono ?_;rintro e w2 ⟨rfl,hb2⟩;have y2:=hid (a0a y1.out hb2);clear hb2;go_wp2_with fail;refine (HW _ (HU.out.call y2.out)).out.mono ?_;rintro e w3 ⟨rfl,hb3⟩;have y3:=hid (a0a y2.out hb3);clear hb3;go_wp2_with fail
 go_loopw [12,13,14,15] (fun s12 s13 s14 s15 wr=>∃ (i:Nat) (ys:List Int),s13=.int .i64 (i:Nat)/\i<=n2/\Hid (NdT a c bs i ys)/\Hid (wr.ownsRow w3.heap.size 3 1 s12 ys.length (zs ys))/\Hid (Below w3.heap.size w3 wr)) (fun s12 s13 s14 s15 wr=>n2-(intOf s13).toNat)
 case atStart=>exact⟨0,[],rfl,J5 _,NdT.zero _ _ _,Ba _ _ _ _,J3 _ _⟩
 case round=>
  obtain⟨i,ys,rfl,hi',hN,hO,hB⟩:=hrel;have hl256:=HLE.out;by_cases hlt:i<n2
  .obtain⟨x,hx⟩:∃ x,c[i]?=some x:=⟨_,J0 (by rw[HN.out];exact hlt)⟩;obtain⟨b,hb⟩:∃ x,bs[i]?=some x:=⟨_,J0 (by rw[HN2.out];exact hlt)⟩;obtain⟨g,o,rfl,hg,hc⟩:=Q3.out i x hx;obtain⟨g',o',rfl,hg',hc'⟩:=P3.out i b hb;have BW:=hid (a0a y3.out hB.out);have KA:Hid (∀ W,Below w.heap.size w W->W.cell? ⟨g,o+i,none⟩=some (.int .i64 x)):=fun W hW=>(hW.cell (p:=⟨g,o+i,none⟩) hg).trans hc
   have r1:=(BW.out.cell (p:=⟨g',o'+i,none⟩) hg').trans hc';have hch:=HOK.out.b b (E7 hb);have hsz:=d0g hch;have hxr:=HOK.out.rng x (E7 hx);have PTb:=fun V=>hid (PT.out V b hch)
   have hvb:=m0i a b hsz;have hz1':nz1 true a x b=if (wT a b).1=true then some (x+(wT a b).2.1) else none:=by unfold nz1;simp only[Fp]
   obtain⟨TT,hTT⟩:=gn (wT a b);obtain⟨ge,hge⟩:=gn (gE a b);rw[hTT]at hvb hz1';simp only[hTT,hge]at PTb;obtain⟨d,v1,u1⟩:=TT;simp only[d3]at PTb;dsimp only at hvb hz1';have wxv:IntKind.i64.wrap (x+v1)=x+v1:=by rw[IntWalk.i64_in _ ⟨by omega,by omega⟩]
   have f1:(0:Int)<=(i:Int):=by omega
   have f2:(i:Int)<(n2:Int):=by omega
   have wi:IntKind.i64.wrap ((i:Int)+1)=((i+1:Nat):Int):=by rw[O0 _ ⟨by omega,by omega⟩];omega
   obtain⟨HX,HBB,HZ1,HLT⟩:=zd hx hb hz1' hlt;have hyl:ys.length<=256:=by have:=hN.out.len;omega
   have HYL:=hid hyl;clear hx hb hg hg' hc hc' hch hsz hxr hvb hz1' hTT hge hlt hi' hl256 hyl;go_wp2_with fail;refine (PTb _).out.mono ?_;rintro e w5 ⟨rfl,hb5⟩;have A1:=hid (hb5.alloc hb5.size (.cells #[.bool d,.int .i64 v1,.int .i64 u1] 62));obtain⟨B1,X1⟩:=zg (a0a hB.out A1.out) (Blk.new w5 #[.bool d,.int .i64 v1,.int .i64 u1] 62);have g1:=KA.out _ (a0a y3.out B1.out);have s0:=X1.out.cell 0;have s1:=X1.out.cell 1;simp at s0 s1;clear hb5 r1;cases d
   .have hnone:nzO true a c bs=none:=i0P i x b HX.out HBB.out (by rw[HZ1.out,Q0 (by simp)]);obtain rfl:=HRO2.out.trans hnone;clear hnone;go_wp2_with fail;refine J6 (v:=.tuple #[.slice none 0 0,.bool false,.int .i64 0]) (by simp[results,Kt,go_sem]) rfl ⟨⟨_,rfl,f0Y _⟩,a0a y3.out B1.out⟩
   .have H2:=hid (a0T hO.out A1.out)
    go_upto_region 17 with fail
    obtain⟨wB,hwB⟩:=gn (w5.alloc (.cells #[.bool true,.int .i64 v1,.int .i64 u1] 62));rw[hwB]at H2 B1 X1 |-;have DR:=hid (show Below wB.heap.size wB wB.drew from br0.drew);obtain⟨D1,Z1⟩:=zg (DR.out.alloc DR.out.size (.cells #[.int .i64 (x+v1)] 3)) (Blk.new wB.drew #[.int .i64 (x+v1)] 3);obtain⟨O2,BD,B2⟩:=zc (a0T H2.out D1.out) (a0a B1.out DR.out) (a0a B1.out D1.out);have r1:=(X1.out.call DR.out).cell 1;simp at r1;clear hwB s0 s1 g1;refine a0k [0,1,2,3,4,5] 5 (fun W=>W.cell? ⟨g,o+i,none⟩=some (.int .i64 x)) (by kernel_rfl) (by kernel_rfl) (by kernel_rfl) (by kernel_rfl) (KA.out _ (a0a y3.out BD.out)) ?_
    iterate 6
     refine⟨_,rfl,?_⟩;apply Exists.intro
     refine⟨.inl ⟨by rfl,?_⟩,?_⟩
     ·(intro W' hW';obtain q8:=hW';go_simp;try (with_reducible rfl))
     go_frame
    refine a0c (i:=6) (by kernel_rfl) rfl rfl ?_;go_wp2_with fail;refine⟨KA.out _ (a0a y3.out BD.out),?_⟩;refine a0c (i:=7) (by kernel_rfl) rfl rfl ?_;go_wp2_with fail;refine⟨KA.out _ (a0a y3.out BD.out),?_⟩;refine a0c (i:=8) (by kernel_rfl) rfl rfl ?_;go_wp2_with fail;refine⟨KA.out _ (a0a y3.out B2.out),?_⟩;refine a0c (i:=9) (by kernel_rfl) rfl rfl ?_;show wpList _ _ _ [⟨some 60,_,_,_,_,_⟩] _ _
    refine Bo _ rfl _ _ 22 rfl w3.heap.size 3 i0 (.int .i64 0) 1 8 Ib hi hz0 hz1 hz2 rfl (by decide) u12 ys.length (zs ys) rfl O2.out ⟨wB.heap.size,0,none⟩ 1 1 [.int .i64 (x+v1)] rfl rfl (t0W Z1.out) (by simp[Value.oneCell']) (by have:=HYL.out;unfold maxLen;omega) (by have:=HYL.out;omega) B2.out.size ?_;intro v' w6 hown hgrow _
    have S3:=hid (show w6.ownsRow w3.heap.size 3 1 v' (ys ++ [x+v1]).length (zs (ys ++ [x+v1])) by
     have e1:(ys ++ [x+v1]).length=ys.length+1:=by simp
     have e2:zs (ys ++ [x+v1])=zs ys ++ [.int .i64 (x+v1)]:=by simp[zs]
     rw[e1,e2];exact hown)
    have B3:=hid (b0V O2.out B2.out hgrow);clear hown hgrow r1
    go_frame
    go_wp2_with fail;refine⟨KA.out _ (a0a y3.out B3.out),?_⟩;refine a0c (i:=10) (by kernel_rfl) rfl rfl ?_;go_wp2_with fail;refine⟨KA.out _ (a0a y3.out B3.out),?_⟩;refine Z7 (by kernel_rfl) ?_ _;simp only[a0Z];go_wp2_with fail;go_roundw
    case rel=>exact⟨i+1,ys ++ [x+v1],by go_num,HLT.out,hN.out.next HX.out HBB.out (by rw[HZ1.out];simp),S3.out,B3.out⟩
    case measure=>simp[intOf]<;>(have:=HLT.out;omega)
  .obtain rfl:i=n2:=by omega
   have q1:decide ((i:Int)<(i:Int))=false:=by simp
   have hro:=HRO2.out.trans (NdT.all (by rw[HN.out];exact hN.out) (by rw[HN.out,HN2.out]));subst hro;have RO:=hid (Row.of_owns hO.out);clear hlt hi' hl256;go_wp2_with fail;refine J6 (v:=.tuple #[_,.bool true,.int .i64 0]) (by simp[results,Kt,go_sem]) rfl ⟨⟨_,rfl,RO.out⟩,a0a y3.out hB.out⟩
end
section
open Go.RowKit
open Go.Lib (decDigits nDigits)
def nyD (g:Int->Nat)(vs:List Int)(M:Nat)(cs dn:List Int)(x:Nat):List (ByteArray×ByteArray):=(nzX g vs cs dn x).map (nzM M)
def nyJ (g:Int->Nat)(vs:List Int)(M:Nat)(c:Int)(cs dn:List Int)(x j:Nat):List (ByteArray×ByteArray):=((vs.take j).flatMap fun v=>nzX g vs cs (dn ++ [c+v]) (x*g v)).map (nzM M)
def nyS (g:Int->Nat)(vs:List Int)(T m x j:Nat):Nat:=x*sV g (vs.take j)*T ^ m
def x0v (g:Int->Nat)(vs:List Int)(M:Nat)(dn:List Int)(x:Nat):nyD g vs M [] dn x = [(jn dn,dyB x M)]:=rfl
def m0U (g:Int->Nat)(vs:List Int)(M:Nat)(c:Int)(cs dn:List Int)(x:Nat):nyJ g vs M c cs dn x 0 = []:=rfl
def m0V (g:Int->Nat){vs:List Int}(M:Nat)(c:Int)(cs dn:List Int)(x:Nat){j:Nat}{v:Int}(h:vs[j]?=some v):nyJ g vs M c cs dn x (j+1)=nyJ g vs M c cs dn x j++nyD g vs M cs (dn ++ [c+v]) (x*g v):=by
 unfold nyJ nyD;rw[Dr,h,Et,List.flatMap_append,Ak];simp
def x0u (g:Int->Nat)(vs:List Int)(M:Nat)(c:Int)(cs dn:List Int)(x:Nat):nyJ g vs M c cs dn x vs.length=nyD g vs M (c::cs) dn x:=by
 unfold nyJ nyD;rw[Bq,nzX]
def f0d (g:Int->Nat)(vs:List Int)(M:Nat)(cs dn:List Int)(x:Nat):(nyD g vs M cs dn x).length=vs.length ^ cs.length:=by
 unfold nyD;rw[Aa,l0w]
theorem h0V (g:Int->Nat)(vs:List Int)(M:Nat)(c:Int)(cs dn:List Int)(x:Nat):∀ j,j<=vs.length->(nyJ g vs M c cs dn x j).length=j*vs.length ^ cs.length
 | 0,_=>by rw[m0U,Fi];rfl
 | j+1,h=>by
  rw[m0V g M c cs dn x (J0 (show j<vs.length by omega)),J4,h0V g vs M c cs dn x j (by omega),f0d,As,Ds]
def t0M (g:Int->Nat)(vs:List Int)(T m x:Nat):nyS g vs T m x 0=0:=by
 unfold nyS sV;simp
def t0N (g:Int->Nat){vs:List Int}(T m x:Nat){j:Nat}{v:Int}(h:vs[j]?=some v):nyS g vs T m x (j+1)=nyS g vs T m x j+x*g v*T ^ m:=by
 unfold nyS;rw[w0F h,Ad,As]
def x0t (g:Int->Nat){vs:List Int}{T:Nat}(h:sV g vs=T)(m x:Nat):nyS g vs T m x vs.length=x*T ^ (m+1):=by
 unfold nyS;rw[Bq,h,M7,G8,E9 T]
def z0V (g:Int->Nat){vs:List Int}{T:Nat}(h:sV g vs=T)(m x j:Nat):nyS g vs T m x j<=x*T ^ (m+1):=by
 unfold nyS;rw[M7,E9 (T ^ m),<- G8];exact H8 _ (Af _ (by rw[<- h];exact b1t j))
def m0g {v:Int}(h:v.natAbs<10 ^ 20):(zB v).size<=21:=by
 have h1:(zB v).size=(Lib.itoa v).length:=by rw[<- c0Z];exact (a0z _).symm
 have h2:∀ m:Nat,m<10 ^ 20->(decDigits m).length<=20:=fun m hm=>by
  rw[C9];exact a0j (k:=20) (by omega) hm
 rw[h1];unfold Lib.itoa
 split
 .have:=h2 v.natAbs h;simp only[J7];omega
 .have:=h2 v.toNat (by omega);omega
def Hs:=@ByteArray.size_append
theorem d0L:∀ {l:List Int} {k:Nat},l.length=k->(∀ v∈l,v.natAbs<10 ^ 20)->(jn l).size<=22*k
 | l,0,hk,_=>by
  rw[Ct.1 hk];exact J5 _
 | l,k+1,hk,h=>by
  obtain⟨r,v,rfl⟩:∃ r v,l=r ++ [v]:=⟨l.dropLast,l.getLast (fun e=>by rw[e]at hk;cases hk),(Fu _).symm⟩;rw[J4,E8]at hk;have ih:=d0L (l:=r) (k:=k) (by omega) (fun u hu=>h u (Ll _ hu));have hv:=m0g (h v (by simp));rw[j0b,Hs];unfold jnS
  split
  .have:(⟨#[]⟩:ByteArray).size=0:=rfl;omega
  .rw[Hs];have:spB.size=1:=rfl;omega
def r0j {l:List Int}{k:Nat}(hk:l.length=k)(h:∀ v∈l,v.natAbs<10 ^ 20):(jnS l).size<=22*k+1:=by
 have:=d0L hk h;unfold jnS
 split
 .exact J5 _
 .rw[Hs];have:spB.size=1:=rfl;omega
def a1K {x m:Nat}(hx:x<=2 ^ m)(h:m<=1000):Dig 4000 (dyQ x m):=g0k (d0V m) (by rw[Jw];exact h0E hx h) (h0E nr h)
def j0q {x m:Nat}(hx:x<=2 ^ m)(h:m<=1000):(limbs (dyQ x m).num.natAbs).length<=100000/\(limbs (dyQ x m).den).length<=100000:=(a1K hx h).limbs (by omega) (by omega)
def v0T (x m:Nat):c0u (dyQ x m)=dyB x m:=by
 unfold dyB shB;rw[f0b];rfl
def n0q (m:Nat):dyQ (2 ^ m) m=1:=by
 have e:=Iu (n:=1) (d:=1) (d0V m);show mkRat ((2 ^ m:Nat):Int) (2 ^ m)=1
 rw[Int.one_mul,Ds]at e;rw[e];rfl
def y0f {x y m:Nat}(h:y<=x):dyQ x m + -dyQ y m=dyQ (x-y) m:=by rw[<- Hm,l0M h]
def o0E (c:Int->Nat)(t n r:Nat):(glP c t n r).length<=2*n+2:=by
 unfold glP glM;rw[J4];have h:=Hd (fun (j:Nat)=>if c ((j:Int)-n)=0 then none else some (zB ((j:Int)-n),shB (c ((j:Int)-n)) t)) (List.range (2*n+1));rw[Nm]at h;have h2:(if r=0 then ([]:List (ByteArray×ByteArray)) else [(b0h,shB r t)]).length<=1:=by split<;>simp
 omega
def chQ (g:Int->Nat)(n:Nat):List (Int×Rat):=(chA g n).map fun v=>(v,dyQ (g v) n)
def p0a (g:Int->Nat)(n:Nat):(chQ g n).length=(chA g n).length:=by simp[chQ]
def y0C {g:Int->Nat}{n i:Nat}(h:i<(chA g n).length):∃ v,(chA g n)[i]?=some v/\(chQ g n)[i]?=some (v,dyQ (g v) n):=by
 refine⟨_,J0 h,?_⟩;unfold chQ;rw[Ck,J0 h];rfl
section
variable {g : Int -> Nat} {n : Nat} (hg : ∀ v : Int, v < 0 -> g v = 0) (hz : zS n g <= 2 ^ n)
include hg hz
omit hg hz in
omit hg hz in
omit hg hz in
omit hg hz in
end
def stX (g:Int->Nat)(ci:Int)(p:List Int×Nat)(v:Int):List Int×Nat:=(p.1 ++ [ci+v],p.2*g v)
def lvX (g:Int->Nat)(vs c:List Int)(i:Nat):List (List Int×Nat):=nzX g vs (c.take i) [] 1
def nxX (g:Int->Nat)(vs:List Int)(X:List (List Int×Nat))(ci:Int)(k:Nat):List (List Int×Nat):=(X.take k).flatMap fun p=>vs.map (stX g ci p)
def nyA (g:Int->Nat)(vs:List Int)(X:List (List Int×Nat))(ci:Int)(p:List Int×Nat)(k j:Nat):List (List Int×Nat):=nxX g vs X ci k++(vs.take j).map (stX g ci p)
theorem m0T (g:Int->Nat)(vs:List Int)(d:Int):∀ (cs dn:List Int) (x:Nat),nzX g vs (cs ++ [d]) dn x=(nzX g vs cs dn x).flatMap fun p=>vs.map (stX g d p)
 | [],dn,x=>by
  show (vs.flatMap fun v=>[(dn ++ [d+v],x*g v)]) = [(dn,x)].flatMap fun p=>vs.map (stX g d p)
  rw[List.flatMap_singleton,List.map_eq_flatMap]
  rfl
 | c::cs,dn,x=>by
  rw[Bk,nzX,nzX,List.flatMap_assoc]
  congr 1
  funext v
  exact m0T g vs d cs _ _
section
variable {g : Int -> Nat} {vs c : List Int}
theorem i0T:lvX g vs c 0 = [([],1)]:=by unfold lvX;rw[Gy];rfl
theorem n0b {i:Nat}{ci:Int}(h:c[i]?=some ci):nxX g vs (lvX g vs c i) ci (lvX g vs c i).length=lvX g vs c (i+1):=by
 unfold lvX nxX;rw[Dr,h,Et,m0T,Bq]
theorem i0U:lvX g vs c c.length=nzX g vs c [] 1:=by unfold lvX;rw[Bq]
theorem o0x (i:Nat):(lvX g vs c i).length=vs.length ^ (c.take i).length:=l0w g vs _ _ _
theorem a1i {N:Nat}(h1:1<=N)(h:vs.length<=N)(i:Nat):(lvX g vs c i).length<=N ^ c.length:=by
 rw[o0x];refine E0 (Dn h _) (Z4 h1 ?_);rw[Cg];omega
theorem t0P (X:List (List Int×Nat))(ci:Int)(p:List Int×Nat)(k:Nat):nxX g vs X ci k=nyA g vs X ci p k 0:=by unfold nyA;rw[Gy,Oc,Bw]
theorem m0W (X:List (List Int×Nat))(ci:Int)(p:List Int×Nat)(k:Nat){j:Nat}{v:Int}(h:vs[j]?=some v):nyA g vs X ci p k j ++ [stX g ci p v]=nyA g vs X ci p k (j+1):=by
 unfold nyA;rw[Dr,h,Et,Ak,Ai];rfl
theorem x0w {X:List (List Int×Nat)}(ci:Int){p:List Int×Nat}{k:Nat}(h:X[k]?=some p):nyA g vs X ci p k vs.length=nxX g vs X ci (k+1):=by
 unfold nyA nxX;rw[Bq,Dr,h,Et,List.flatMap_append,List.flatMap_singleton]
theorem o0m (X:List (List Int×Nat))(ci:Int)(k:Nat):(nxX g vs X ci k).length<=k*vs.length:=by
 unfold nxX;rw[List.length_flatMap,List.map_congr_left (g:=fun _=>vs.length) (fun p _=>Aa _),List.map_const',List.sum_replicate_nat];exact H8 _ (by rw[Cg];omega)
theorem o0l (X:List (List Int×Nat))(ci:Int)(p:List Int×Nat)(k j:Nat):(nyA g vs X ci p k j).length<=k*vs.length+j:=by
 unfold nyA;rw[J4,Aa,Cg];have:=o0m (g:=g) (vs:=vs) X ci k;omega
structure OutX (n i B:Nat)(p:List Int×Nat):Prop where
 len:p.1.length=i
 le:p.2<=2 ^ (n*i)
 sm:∀ y∈p.1,y.natAbs<=B
theorem OutX.next {n i B:Nat}{p:List Int×Nat}(h:OutX n i B p){ci v:Int}(hg:g v<=2 ^ n)(hs:(ci+v).natAbs<=B):OutX n (i+1) B (stX g ci p v):=
 ⟨by show (p.1 ++ [ci+v]).length=_;rw[J4,h.len];rfl,by
  show p.2*g v<=_
  rw[Nat.mul_succ,Dd];exact Aw h.le hg,fun y hy=>by
  rcases Cu.1 hy with hy | hy
  .exact h.sm y hy
  .rw[Co.1 hy];exact hs⟩
theorem q0X {n B:Nat}(hg:∀ v∈vs,g v<=2 ^ n)(hs:∀ x∈c,∀ v∈vs,(x+v).natAbs<=B):∀ i,i<=c.length->∀ p∈lvX g vs c i,OutX n i B p
 | 0,_,p,hp=>by
  rw[i0T,Co]at hp;subst hp;exact⟨rfl,by simp,fun y hy=>by simp at hy⟩
 | i+1,hi,p,hp=>by
  obtain⟨ci,hci⟩:∃ x,c[i]?=some x:=⟨_,J0 (by omega)⟩;rw[<- n0b hci]at hp;unfold nxX at hp;rw[Bq,Io]at hp;obtain⟨q,hq,hp⟩:=hp;obtain⟨v,hv,rfl⟩:=Cc.1 hp;exact (q0X hg hs i (by omega) q hq).next (hg v hv) (hs ci (E7 hci) v hv)
def tX (p:List Int×Nat):ByteArray:=jn p.1
def qX (M:Nat)(p:List Int×Nat):Rat:=dyQ p.2 M
theorem w0m {n i B:Nat}{p:List Int×Nat}(h:OutX n i B p)(hi:i≠0)(ci v:Int):(tX p++spB)++zB (ci+v)=tX (stX g ci p v):=by
 unfold tX stX;rw[j0b];unfold jnS;rw[Q0 (fun e=>hi (by rw[<- h.len,e];rfl))]
theorem s0T {n B:Nat}{p:List Int×Nat}(h:OutX n 0 B p)(ci v:Int):zB (ci+v)=tX (stX g ci p v):=by
 unfold tX stX;rw[j0b,Ct.1 h.len];refine a0M ?_;simp[jnS]
theorem x0f (n i:Nat)(p:List Int×Nat)(ci v:Int):qX (n*i) p*dyQ (g v) n=qX (n*(i+1)) (stX g ci p v):=by
 unfold qX stX;rw[l0N,Nat.mul_succ]
def smX (X:List (List Int×Nat))(k:Nat):Nat:=((X.take k).map fun p=>p.2).sum
def dlX (X:List (List Int×Nat))(M k:Nat):List (ByteArray×ByteArray):=a0B (((X.take k).map (nzM M)).filter v0v)
theorem m0t {X:List (List Int×Nat)}{k:Nat}{p:List Int×Nat}(h:X[k]?=some p):smX X (k+1)=smX X k+p.2:=by
 unfold smX;rw[Dr,h,Et,Ak,List.sum_append];simp
theorem z0v (X:List (List Int×Nat))(k:Nat):smX X k<=smX X X.length:=by
 by_cases hk:k<X.length
 .have h1:∀ d k,k+d=X.length->smX X k<=smX X X.length:=by
   intro d
   induction d with
   | zero=>intro k h;rw[show k=X.length by omega];exact Z3 _
   | succ d ih=>
    intro k h;obtain⟨p,hp⟩:∃ p,X[k]?=some p:=⟨_,J0 (by omega)⟩;have:=ih (k+1) (by omega);rw[m0t hp]at this;omega
  exact h1 (X.length-k) k (by omega)
 .unfold smX;rw[Z6 (by omega),Bq];exact Z3 _
theorem t0b {X:List (List Int×Nat)}{M k:Nat}(hX:smX X X.length<=2 ^ M){p:List Int×Nat}(h:X[k]?=some p):dyQ (2 ^ M-smX X k) M + -qX M p=dyQ (2 ^ M-smX X (k+1)) M:=by
 have h1:=m0t h;have h2:=z0v X (k+1);unfold qX;rw[y0f (by omega),h1]
 congr 1
 omega
theorem t0a (X:List (List Int×Nat))(M:Nat):dyQ (2 ^ M-smX X 0) M=1:=by
 rw[show smX X 0=0 from rfl,Jc];exact n0q M
theorem p0E {n:Nat}(rv:y0V g n vs):smX (nzX g vs c [] 1) (nzX g vs c [] 1).length=zS n g ^ c.length:=by
 unfold smX;rw[Bq,x0s rv,Ds]
theorem u0L (X:List (List Int×Nat))(M:Nat):dlX X M 0 = []:=by
 show a0B [] = []
 rw[a0B,List.mergeSort_nil]
theorem o0N (X:List (List Int×Nat))(M k:Nat):(dlX X M k).length<=X.length:=by
 unfold dlX;rw[c0f];refine E0 (Kz _ _) ?_;rw[Aa,Cg];omega
theorem v0u (nd:vs.Nodup)(M:Nat)(k:Nat):((((nzX g vs c [] 1).take k).map (nzM M)).map b0C).Nodup:=by
 rw[List.map_map];show List.Pairwise _ _
 rw[Km];refine Kn ?_ ((q0E nd c [] 1).sublist (List.take_sublist _ _));intro p q h e;exact h (v0G (a0M e))
theorem u0M (nd:vs.Nodup)(M:Nat){k:Nat}{p:List Int×Nat}(h:(nzX g vs c [] 1)[k]?=some p):h0G (dlX (nzX g vs c [] 1) M k) (tX p) (dyB p.2 M)=dlX (nzX g vs c [] 1) M (k+1):=by
 have h2:=v0u (g:=g) (c:=c) nd M (k+1);unfold dlX;rw[Dr,h,Et,Ak]at h2 |-;exact h0r h2
theorem y0h {n:Nat}(nd:vs.Nodup)(hv:∀ v,v∈vs↔g v≠0)(hle:∀ p∈nzX g vs c [] 1,p.2<=2 ^ (n*c.length))(hM:n*c.length<=1000):
 h0G (dlX (nzX g vs c [] 1) (n*c.length) (nzX g vs c [] 1).length) b0h (dyB (nzR g n c.length) (n*c.length))=a0B (nyP g vs n c):=by
 have h1:=v0u (g:=g) (c:=c) nd (n*c.length) (nzX g vs c [] 1).length;unfold dlX;rw[Bq]at h1 |-
 rw[h0r (by
  rw[Ak,Hc];refine⟨h1,by simp,?_⟩;intro a ha b hb e;rw[Cc]at ha;obtain⟨p,hp,rfl⟩:=ha;obtain⟨q,-,rfl⟩:=Cc.1 hp;simp at hb;subst hb;exact r0i _ (a0M e)),Ju]
 unfold nyP
 congr 2
 .rw[List.filter_eq_self];intro q hq;obtain⟨p,hp,rfl⟩:=Cc.1 hq;obtain⟨ys,h0,e⟩:=(g0Y hv).1 hp;have hp2:p.2≠0:=by rw[e];simpa using h0
  unfold v0v nzM;exact I8 fun e=>hp2 ((f0q (hle p hp) hM).1 e)
 .by_cases h0:nzR g n c.length=0
  .rw[U0 h0,h0,l0L];rfl
  .rw[Q0 h0,List.filter_eq_self];intro q hq;rw[Co]at hq;subst hq;exact I8 fun e=>h0 ((f0q (v0t g n c.length) hM).1 e)
end
end
section
open Go.RowKit
structure KeepK (k:IntKind)(W W':World):Prop where
 size:W.heap.size<=W'.heap.size
 cell:∀ (g o:Nat) (x:Int),W.cell? ⟨g,o,none⟩=some (.int k x)->W'.cell? ⟨g,o,none⟩=some (.int k x)
theorem KeepK.trans {k:IntKind}{W W1 W2:World}(h:KeepK k W W1)(h2:KeepK k W1 W2):KeepK k W W2:=⟨E0 h.size h2.size,fun g o x hx=>h2.cell g o x (h.cell g o x hx)⟩
theorem KeepK.isN {k:IntKind}{W W':World}{v:Value}{n:Nat}(h:KeepK k W W')(hn:IsN k W v n):IsN k W' v n:=by
 obtain⟨a,c,rfl,h1,h2,h3⟩:=hn.ex;refine⟨a,c,rfl,h1,h2,fun i x hx=>?_⟩;obtain⟨g,o,e,hg,hc⟩:=h3 i x hx;have hm:x∈b0q k (limbs n):=E7 hx;obtain⟨y,_,rfl⟩:=Cc.1 hm;exact⟨g,o,e,H6 hg h.size,h.cell g _ _ hc⟩
theorem KeepK.isQ {k:IntKind}{W W':World}{v:Value}{q:Rat}(h:KeepK k W W')(hq:IsQ k W v q):IsQ k W' v q:=by
 obtain⟨N,D,rfl,h1,h2⟩:=hq.ex;exact⟨N,D,rfl,h.isN h1,h.isN h2⟩
theorem KeepK.below {k:IntKind}{W W':World}(hb:Below W.heap.size W W'):KeepK k W W':=⟨hb.size,fun g o x hx=>(hb.cell (p:=⟨g,o,none⟩) (a0e hx)).trans hx⟩
def NoK (k:IntKind)(cs:Array Value):Prop:=∀ (i:Nat) (x:Int),cs[i]? ≠ some (.int k x)
def NoKL (k:IntKind)(cs:List Value):Prop:=∀ x:Int,.int k x ∉ cs
theorem NoK.of {k:IntKind}{cs:Array Value}(h:NoKL k cs.toList):NoK k cs:=fun i x hx=>h x (E7 (by rw[Cq];exact hx))
theorem NoK.list {k:IntKind}{cs:Array Value}(h:NoK k cs):NoKL k cs.toList:=fun x hx=>by
 obtain⟨i,hi⟩:=Da hx;exact h i x (by rw[<- Cq];exact hi)
theorem NoKL.append {k:IntKind}{a b:List Value}(h:NoKL k a)(h2:NoKL k b):NoKL k (a++b):=fun x hx=>(Cu.1 hx).elim (h x) (h2 x)
theorem NoKL.take {k:IntKind}{a:List Value}(h:NoKL k a)(n:Nat):NoKL k (a.take n):=fun x hx=>h x (Gz hx)
theorem NoKL.drop {k:IntKind}{a:List Value}(h:NoKL k a)(n:Nat):NoKL k (a.drop n):=fun x hx=>h x (Id hx)
theorem NoKL.zeros {k:IntKind}{z:Array Value}(h:NoKL k z.toList)(n:Nat):NoKL k (Builtin.zeroCells z n).toList:=fun x hx=>by
 unfold Builtin.zeroCells at hx;rw[Array.toList_map]at hx;obtain⟨i,hi,he⟩:=Cc.1 hx;rw[Array.toList_range,Dv]at hi;have hz:0<z.size:=by
  rcases H7 z.size with h0 | h0
  .rw[h0,Eu]at hi;omega
  .exact h0
 have hl:i%z.size<z.size:=Hh _ hz;rw[La z _ hl]at he;exact h x (by rw[<- he];simp)
theorem KeepK.grown {k:IntKind}{W W':World}{g:Nat}{cs:Array Value}{t:TypeId}(hB:Blk W g cs t)(hn:NoK k cs)(hg:W.grownBy W' (some g)):KeepK k W W':=by
 refine⟨hg.size,fun g' o x hx=>?_⟩;have hne:g'≠g:=by
  rintro rfl;rw[hB.cell]at hx;exact hn _ _ hx
 exact hg.cell hx (fun e=>hne (K9 e))
theorem KeepK.grown0 {k:IntKind}{W W':World}(hg:W.grownBy W' none):KeepK k W W':=⟨hg.size,fun g' o x hx=>hg.cell hx (fun e=>by cases e)⟩
structure KRow (k:IntKind)(t:TypeId)(sz B:Nat)(W:World)(v:Value)(cs:List (List Value)):Prop where
 own:W.ownsRow B t sz v cs.length cs.flatten
 all:∀ c∈cs,c.length=sz
 nok:∀ g,v.ownBlock=some g->∃ cur,Blk W g cur t/\NoK k cur
theorem KRow.nil (k:IntKind)(t:TypeId)(sz B:Nat)(W:World):KRow k t sz B W (.slice none 0 0) []:=⟨Ba _ _ _ _,fun c hc=>(by cases hc),fun g hg=>by simp[Value.ownBlock]at hg⟩
theorem KRow.keep {k:IntKind}{t:TypeId}{sz B:Nat}{W W':World}{v:Value}{cs:List (List Value)}(h:KRow k t sz B W v cs)(hb:∀ g,v.ownBlock=some g->W'.heap[g]?=W.heap[g]?):KRow k t sz B W' v cs:=by
 refine⟨⟨h.own.1,?_⟩,h.all,fun g hg=>?_⟩
 .rcases h.own.2 with h0 | ⟨g,cap,cur,rfl,h1,h2,h3⟩
  .exact .inl h0
  .exact .inr ⟨g,cap,cur,rfl,h1,(hb g rfl).trans h2,h3⟩
 .obtain⟨cur,h1,h2⟩:=h.nok g hg;exact⟨cur,(hb g hg).trans h1,h2⟩
theorem KRow.call {k:IntKind}{t:TypeId}{sz B:Nat}{W W':World}{v:Value}{cs:List (List Value)}(h:KRow k t sz B W v cs)(hb:Below W.heap.size W W'):KRow k t sz B W' v cs:=h.keep fun g hg=>hb.block g (h.own.lt g hg).2
theorem KRow.ex {k:IntKind}{t:TypeId}{sz B:Nat}{W:World}{v:Value}{cs:List (List Value)}(h:KRow k t sz B W v cs):∃ a c,v=.slice a cs.length c/\cs.length<=c/\c<=9223372036854775807:=by
 rcases h.own.2 with ⟨rfl,h0⟩ | ⟨g,cap,cur,rfl,h1,h2,h3,h4,h5,h6⟩
 .exact⟨none,0,by rw[h0],by omega,by omega⟩
 .exact⟨_,_,rfl,h3,by unfold maxLen at h4;omega⟩
def Jy:=@List.getElem?_cons_succ
def u0y {cs:List (List Value)}{sz:Nat}:(∀ c∈cs,c.length=sz)->∀ {i j:Nat} {c:List Value} {x:Value},cs[i]?=some c->c[j]?=some x->cs.flatten[i*sz+j]?=some x:=by
 induction cs with
 | nil=>intro _ i j c x hc;simp at hc
 | cons d cs ih=>
  intro h i j c x hc hx;have hd:d.length=sz:=h d (by simp);rw[List.flatten_cons];cases i with
  | zero=>
   simp at hc;subst hc;have:j<d.length:=(O4.1 hx).1;rw[Fi,U7,D9 this];exact hx
  | succ i=>
   rw[Jy]at hc;rw[He,M6 (by omega),show i*sz+sz+j-d.length=i*sz+j by omega];exact ih (fun c hc=>h c (by simp[hc])) hc hx
theorem KRow.block {k:IntKind}{t:TypeId}{sz B:Nat}{W:World}{v:Value}{cs:List (List Value)}(h:KRow k t sz B W v cs){i:Nat}{c:List Value}(hc:cs[i]?=some c)(h0:0<sz):∃ g cap,v=.slice (some ⟨g,0,none⟩) cs.length cap/\cs.length<=cap/\cap<=9223372036854775807/\B<=g/\g<W.heap.size/\(∀ j,W.frozen? ⟨g,j,none⟩=false):=by
 have hi:i<cs.length:=(O4.1 hc).1;rcases h.own.2 with ⟨rfl,h0⟩ | ⟨g,cap,cur,rfl,h1,h2,h3,h4,h5,h6⟩
 .omega
 .exact⟨g,cap,rfl,h3,by unfold maxLen at h4;omega,h1,(S4.1 h2).1,fun j=>Blk.free h2 j⟩
theorem KRow.cell {k:IntKind}{t:TypeId}{sz B:Nat}{W:World}{cs:List (List Value)}{g n cap:Nat}(h:KRow k t sz B W (.slice (some ⟨g,0,none⟩) n cap) cs){i j:Nat}{c:List Value}{x:Value}(hc:cs[i]?=some c)(hx:c[j]?=some x):W.cell? ⟨g,i*sz+j,none⟩=some x:=by
 have:=h.own.cells rfl _ _ (u0y h.all hc hx);rwa[Addr.add_lit,U7]at this
def Iv:=@Array.toList_append
def g0F {P:Program}(w:World)(k:IntKind)(base:Nat)(t ty e:TypeId)(i:TypeInfo)(z:Value)(size bytes:Nat)(ht:P.underlying t=some (.slice e))(hi:P.info? e=some i)(hz:i.zero=some z)
 (hsize:i.size=size) (hby:i.bytes=bytes) (hzs:z.cells.size=size) (hsz:0<size) (hzk:NoKL k z.cells.toList) (v:Value) (cs:List (List Value)) (hown:KRow k e size base w v cs)
 (a:Addr) (m c:Nat) (news:List (List Value)) (hl:news.length=m) (hns:∀ d∈news,d.length=size) (hnews:∀ j u,news.flatten[j]?=some u->w.cell? (a.add j)=some u) (h1:∀ u∈news.flatten,u.oneCell'=true) (hnk:NoKL k news.flatten)
 (h63:cs.length+m<=maxLen) (hbytes:(cs.length+m)*bytes<=140737488355328) (hbase:base<=w.heap.size):
 ∃ v' w',(Builtin.append_ #[t,t] ty #[v,.slice (some a) m c]).run P w=.ok v' w'/\KRow k e size base w' v' (cs++news)/\w.grownBy w' v.ownBlock/\KeepK k w w' /\
  (v'.ownBlock=v.ownBlock\/v'.ownBlock=some w.heap.size):=by
 have hfl:news.flatten.length=m*size:=by
  rw[<- hl];clear hnews h1 hnk hl
  induction news with
  | nil=>simp
  | cons d news ih=>rw[List.flatten_cons,J4,ih (fun d hd=>hns d (by simp[hd])),hns d (by simp),J7,He];omega
 obtain⟨v',w',hr,k1,k2,-,k4⟩:=run_append_own_at (P:=P) w base t ty e i z size bytes ht hi hz hsize hby hzs hsz v cs.length cs.flatten hown.own a m c news.flatten hfl hnews h1 h63 hbytes hbase;have keep:KeepK k w w':=by
  cases hv:v.ownBlock with
  | none=>rw[hv]at k2;exact KeepK.grown0 k2
  | some g=>
   obtain⟨cur,q1,q2⟩:=hown.nok g hv;rw[hv]at k2;exact KeepK.grown q1 q2 k2
 have hlen:(cs++news).length=cs.length+m:=by rw[J4,hl]
 refine⟨v',w',hr,⟨by rw[hlen,List.flatten_append];exact k1,fun d hd=>(Cu.1 hd).elim (hown.all d) (hns d),?_⟩,k2,keep,k4⟩;intro g' hg';subst hsize;subst hby
 have hzz:=hzk.zeros;rcases hown.own.2 with ⟨rfl,h0⟩ | ⟨g,cap,cur,rfl,hbg,hg,hnc,hcm,hcs,htake⟩
 .by_cases hm:m=0
  .subst hm;have hn:news = []:=Ag hl;subst hn
   exfalso
   rcases k1.2 with ⟨e1,_⟩ | ⟨g1,cap1,cur1,e1,_⟩
   .rw[e1]at hg';simp[Value.ownBlock]at hg'
   .have hr2:(Builtin.append_ #[t,t] ty #[.slice none 0 0,.slice (some a) 0 c]).run P w=.ok (.slice none 0 0) w:=by
     simp[Builtin.append_,run_underlying ht,sizeOf,typeInfo,hi,Builtin.lenOf,Builtin.firstCells,loadCells,loadCellsFrom]
    rw[hr]at hr2;injection hr2 with q1 q2
    rw[q1]at hg';simp[Value.ownBlock]at hg'
  .have hr2:=run_append_nil (P:=P) w t ty e i z ht hi hz a m c news.flatten hfl hnews (by omega) (by unfold maxLen at h63;omega) (by rw[h0,U7]at hbytes;omega);rw[hr]at hr2;injection hr2 with q1 q2
   rw[q1]at hg';simp[Value.ownBlock]at hg';subst hg';rw[q2];refine⟨_,Ga w.drew _,NoK.of ?_⟩;rw[Iv];exact hnk.append (hzz _)
 .by_cases hroom:cs.length+m<=cap
  .have hfit:cs.length*i.size+news.flatten.length<=cur.size:=by rw[hfl,hcs,<- As];exact H8 _ hroom
   have hr2:=run_append_room (P:=P) w t ty e i ht hi g cs.length cap cur hg a m c news.flatten hfl hnews h1 hroom hfit;rw[hr]at hr2;injection hr2 with q1 q2
   rw[q1]at hg';simp[Value.ownBlock]at hg';subst hg';rw[q2];refine⟨_,setRow_heap w g cur _ e _ hg,NoK.of ?_⟩;obtain⟨cur2,q3,q4⟩:=hown.nok g rfl;have e2:cur2=cur:=by
    have:=(show w.heap[g]? = _ from q3).symm.trans hg;injection this with this
    injection this
   subst e2;exact ((q4.list.take _).append hnk).append (q4.list.drop _)
  .have holds:∀ j u,cs.flatten[j]?=some u->w.cell? ((⟨g,0,none⟩:Addr).add j)=some u:=hown.own.cells (g:=g) rfl;have hr2:=run_append_grow (P:=P) w t ty e i z ht hi hz ⟨g,0,none⟩ cs.length cap cs.flatten hown.own.1 holds a m c news.flatten hfl hnews (by omega) (by unfold maxLen at h63;omega) (growslice_fits (by omega) hbytes);rw[hr]at hr2;injection hr2 with q1 q2
   rw[q1]at hg';simp[Value.ownBlock]at hg';subst hg';rw[q2];refine⟨_,Ga w.drew _,NoK.of ?_⟩;obtain⟨cur2,q3,q4⟩:=hown.nok g rfl;have e2:cur2=cur:=by
    have:=(show w.heap[g]? = _ from q3).symm.trans hg;injection this with this
    injection this
   subst e2;have hfk:NoKL k cs.flatten:=by rw[<- htake];exact q4.list.take _
   rw[Iv,Iv];exact (hfk.append hnk).append (hzz _)
def c0z {P:Program}(w:World){ops:Array Oper}{rest:List Oper}{o:Oper}{a:Act}{Q:Exit->Act->World->Prop}(k:IntKind)(hgd:o.guard=none)(s x:Operand)(t:TypeId)
 (ho:o.op=.call { callee:=.builtin .append,args:=#[s,x],argTypes:=#[t,t] })
 (base:Nat) (e:TypeId) (i:TypeInfo) (z:Value) (size bytes:Nat) (ht:P.underlying t=some (.slice e)) (hi:P.info? e=some i) (hz:i.zero=some z)
 (hsize:i.size=size) (hby:i.bytes=bytes) (hzs:z.cells.size=size) (hsz:0<size) (hzk:NoKL k z.cells.toList)
 (v:Value) (cs:List (List Value)) (hs:a.eval s=v) (hown:KRow k e size base w v cs)
 (ad:Addr) (m c:Nat) (news:List (List Value)) (hx:a.eval x=.slice (some ad) m c) (hl:news.length=m) (hns:∀ d∈news,d.length=size) (hnews:∀ j u,news.flatten[j]?=some u->w.cell? (ad.add j)=some u) (h1:∀ u∈news.flatten,u.oneCell'=true) (hnk:NoKL k news.flatten)
 (h63:cs.length+m<=maxLen) (hbytes:(cs.length+m)*bytes<=140737488355328) (hbase:base<=w.heap.size)
 (h:∀ v' w',KRow k e size base w' v' (cs++news)->w.grownBy w' v.ownBlock->KeepK k w w'->(v'.ownBlock=v.ownBlock\/v'.ownBlock=some w.heap.size)->wpList P ops Q rest (a.put o.dst v') w'):
 wpList P ops Q (o::rest) a w:=by
 refine wpList_plain hgd fun K hK=>?_
 obtain⟨v',w',hr,h2,h3,h4,h5⟩:=g0F (P:=P) w k base t o.type e i z size bytes ht hi hz hsize hby hzs hsz hzk v cs hown ad m c news hl hns hnews h1 hnk h63 hbytes hbase;unfold Oper.wp execOp;simp only[ho,resolve,invoke,builtin,Sem.run_bind,Sem.run_pure,Result.andThen_ok,Nz,Jr,Oc,hs,hx,hr];exact hK _ _ (h v' w' h2 h3 h4 h5)
structure QC (k:IntKind)(W:World)(c:List Value)(q:Rat):Prop where
 ex:∃ (a:Option Addr) (n p:Nat) (b:Option Addr) (n' p':Nat),c = [.bool (decide (q.num<0)),.slice a n p,.slice b n' p']/\IsQ k W (.agg #[.bool (decide (q.num<0)),.slice a n p,.slice b n' p']) q
theorem QC.keep {k:IntKind}{W W':World}{c:List Value}{q:Rat}(h:QC k W c q)(hk:KeepK k W W'):QC k W' c q:=by
 obtain⟨a,n,p,b,n',p',rfl,h1⟩:=h.ex;exact⟨a,n,p,b,n',p',rfl,hk.isQ h1⟩
structure QL (k:IntKind)(W:World)(cs:List (List Value))(qs:List Rat):Prop where
 len:cs.length=qs.length
 at_:∀ (i:Nat) (q:Rat),qs[i]?=some q->∃ c,cs[i]?=some c/\QC k W c q
theorem QL.nil (k:IntKind)(W:World):QL k W [] []:=⟨rfl,fun i q h=>by simp at h⟩
theorem QL.keep {k:IntKind}{W W':World}{cs:List (List Value)}{qs:List Rat}(h:QL k W cs qs)(hk:KeepK k W W'):QL k W' cs qs:=⟨h.len,fun i q hq=>by
 obtain⟨c,h1,h2⟩:=h.at_ i q hq;exact⟨c,h1,h2.keep hk⟩⟩
theorem QL.call {k:IntKind}{W W':World}{cs:List (List Value)}{qs:List Rat}(h:QL k W cs qs)(hb:Below W.heap.size W W'):QL k W' cs qs:=h.keep (KeepK.below hb)
theorem QL.snoc {k:IntKind}{W:World}{cs:List (List Value)}{qs:List Rat}(h:QL k W cs qs){c:List Value}{q:Rat}(hc:QC k W c q):QL k W (cs ++ [c]) (qs ++ [q]):=by
 refine⟨by simp[h.len],fun i x hx=>?_⟩;by_cases hi:i<qs.length
 .rw[D9 hi]at hx;rw[D9 (by rw[h.len];exact hi)];exact h.at_ i x hx
 .have hl:=(O4.1 hx).1;rw[J4,E8]at hl;obtain rfl:i=qs.length:=by omega
  rw[M6 nr,Bh]at hx;rw[M6 (by rw[h.len];exact Z3 _),h.len,Bh];obtain rfl:q=x:=by simpa using hx
  exact⟨c,rfl,hc⟩
end
section
def rs:List Rat->Rat
 | []=>0
 | a::r=>a+rs r
def ds:List Rat->List Rat->Rat
 | a::r,b::s=>(a-b)*(a-b)+ds r s
 | _,_=>0
def pos (q:Rat):Rat:=if q<0 then 0 else q
def bm (b:Rat×Nat):Rat:=b.1 / (b.2:Rat)
def pv1:Rat×Nat->List (Rat×Nat)->List (Rat×Nat)
 | b,[]=>[b]
 | b,a::r=>if bm b<bm a then pv1 (a.1+b.1,a.2+b.2) r else b::a::r
def pv (v:List Rat):List (Rat×Nat):=v.foldl (fun st x=>pv1 (x,1) st) []
def sg (s:List Rat):Rat×Nat:=(rs s,s.length)
def bx (ss:List (List Rat)):List Rat:=ss.flatMap fun s=>List.replicate s.length (bm (sg s))
open Go.RowKit Go.Shelf
open Go.Lib (decDigits nDigits)
def c1p (m:Bool)(a b:Option Addr)(n p n' p':Nat):∀ u ∈ [[Value.bool m,.slice a n p,.slice b n' p']].flatten,u.oneCell'=true:=by intro u hu;simp at hu;rcases hu with rfl | rfl | rfl<;>rfl
def c1s (x y z:Value):∀ d ∈ [[x,y,z]],d.length=3:=by intro d hd;simp at hd;subst hd;rfl
def b1I {W:World}{g:Nat}{x y z:Value}{t:TypeId}(h:Blk W g #[x,y,z] t):∀ j u,[[x,y,z]].flatten[j]?=some u->W.cell? ((⟨g,0,none⟩:Addr).add j)=some u:=fun j u hj=>by
 rw[Addr.add_lit,U7,h.cell];simpa using hj
def o0A {w W w3:World}{v:Value}{cs:List (List Value)}{k:IntKind}{t:TypeId}{z:Nat}(h:KRow k t z w.heap.size W v cs)(h0:Below w.heap.size w W)(hg:W.grownBy w3 v.ownBlock):Below w.heap.size w w3:=b0V h.own h0 hg
def QB (w:World)(g:Nat)(q:Rat):Prop:=∃ (m:Bool) (a:Option Addr) (n c:Nat) (a':Option Addr) (n' c':Nat),Blk w g #[.bool m,.slice a n c,.slice a' n' c'] 81/\IsQ .i64 w (.agg #[.bool m,.slice a n c,.slice a' n' c']) q
theorem QB.call {w w':World}{g:Nat}{q:Rat}(h:QB w g q)(hb:Below w.heap.size w w'):QB w' g q:=by
 obtain⟨m,a,n,c,a',n',c',h1,h2⟩:=h;exact⟨m,a,n,c,a',n',c',h1.call hb,h2.call hb⟩
theorem QB.new {w:World}{m:Bool}{a a':Option Addr}{n c n' c':Nat}{q:Rat}(h:IsQ .i64 w (.agg #[.bool m,.slice a n c,.slice a' n' c']) q):QB (w.alloc (.cells #[.bool m,.slice a n c,.slice a' n' c'] 81)) w.heap.size q:=
 ⟨m,a,n,c,a',n',c',Blk.new w _ _,h.call (br0.alloc nr _)⟩
def l0F {w:World}{b:Nat}{m0:Bool}{a0 b0:Option Addr}{n0 c0 n1 c1:Nat}{t:TypeId}(hb:Blk w b #[.bool m0,.slice a0 n0 c0,.slice b0 n1 c1] t)(m:Bool)(a a':Option Addr)(n c n' c':Nat){v:Value}{q:Rat}(h:IsQ .i64 w v q):
 IsQ .i64 (((w.setCell ⟨b,0,none⟩ (.bool m)).setCell ⟨b,1,none⟩ (.slice a n c)).setCell ⟨b,2,none⟩ (.slice a' n' c')) v q:=by
 obtain⟨N,D,rfl,h1,h2⟩:=h.ex;have hs:=(d0k hb m a a' n c n' c').1;exact⟨N,D,rfl,hs _ _ _ h1,hs _ _ _ h2⟩
theorem QB.put {w:World}{b:Nat}{m0:Bool}{a0 b0:Option Addr}{n0 c0 n1 c1:Nat}(hb:Blk w b #[.bool m0,.slice a0 n0 c0,.slice b0 n1 c1] 81){m:Bool}{a a':Option Addr}{n c n' c':Nat}{q:Rat}(h:IsQ .i64 w (.agg #[.bool m,.slice a n c,.slice a' n' c']) q):
 QB (((w.setCell ⟨b,0,none⟩ (.bool m)).setCell ⟨b,1,none⟩ (.slice a n c)).setCell ⟨b,2,none⟩ (.slice a' n' c')) b q:=
 ⟨m,a,n,c,a',n',c',(d0k hb m a a' n c n' c').2,l0F hb m a a' n c n' c' h⟩
def x0M:(Tryz.prog.info? 81).map (fun i=>(i.zero,i.size,i.bytes))=some (some (.agg #[.bool false,.slice none 0 0,.slice none 0 0]),3,56):=by kernel_rfl
def z0X:NoKL .i64 (Value.cells (.agg #[.bool false,.slice none 0 0,.slice none 0 0])).toList:=by intro x hx;simp[Value.cells]at hx
def b1G (m:Bool)(a b:Option Addr)(n p n' p':Nat):NoKL .i64 [[Value.bool m,.slice a n p,.slice b n' p']].flatten:=by intro x hx;simp at hx
structure WRow (B:Nat)(W:World)(v:Value)(qs:List Rat):Prop where
 ex:∃ cs,KRow .i64 81 3 B W v cs/\QL .i64 W cs qs
theorem WRow.nil (B:Nat)(W:World):WRow B W (.slice none 0 0) []:=⟨[],KRow.nil _ _ _ _ _,QL.nil _ _⟩
theorem WRow.call {B:Nat}{W W':World}{v:Value}{qs:List Rat}(h:WRow B W v qs)(hb:Below W.heap.size W W'):WRow B W' v qs:=by
 obtain⟨cs,h1,h2⟩:=h.ex;exact⟨cs,h1.call hb,h2.call hb⟩
theorem WRow.slice {B:Nat}{W:World}{v:Value}{qs:List Rat}(h:WRow B W v qs):∃ a c,v=.slice a qs.length c/\qs.length<=c/\c<=9223372036854775807:=by
 obtain⟨cs,h1,h2⟩:=h.ex;rw[<- h2.len];exact h1.ex
theorem WRow.at {B:Nat}{W:World}{a:Option Addr}{n c:Nat}{qs:List Rat}(h:WRow B W (.slice a n c) qs){i:Nat}{q:Rat}(hq:qs[i]?=some q):
 ∃ (g:Nat) (m:Bool) (a1:Option Addr) (n1 c1:Nat) (a2:Option Addr) (n2 c2:Nat),a=some ⟨g,0,none⟩/\B<=g/\g<W.heap.size/\W.cell? ⟨g,i*3,none⟩=some (.bool m)/\W.cell? ⟨g,i*3+1,none⟩=some (.slice a1 n1 c1)/\W.cell? ⟨g,i*3+2,none⟩=some (.slice a2 n2 c2)/\IsQ .i64 W (.agg #[.bool m,.slice a1 n1 c1,.slice a2 n2 c2]) q:=by
 obtain⟨cs,h1,h2⟩:=h.ex;obtain⟨d,hd,hc⟩:=h2.at_ i q hq;obtain⟨a1,n1,c1,a2,n2,c2,rfl,hQ⟩:=hc.ex;obtain⟨g,cap,e,-,-,hB,hg,-⟩:=h1.block hd (by omega);injection e with e1 e2 e3
 subst e1;exact⟨g,_,a1,n1,c1,a2,n2,c2,rfl,hB,hg,h1.cell hd (j:=0) rfl,h1.cell hd (j:=1) rfl,h1.cell hd (j:=2) rfl,hQ⟩
def r0r {W:World}{m:Bool}{x y:Value}{q:Rat}(h:IsQ .i64 W (.agg #[.bool m,x,y]) q):m=decide (q.num<0):=by
 obtain⟨N,D,e,-,-⟩:=h.ex;injection e with e
 have e2:=congrArg Array.toList e;injection e2 with e3 e4
 injection e3 with e3
theorem QC.ofI {W:World}{m:Bool}{a1 a2:Option Addr}{n1 c1 n2 c2:Nat}{q:Rat}(h:IsQ .i64 W (.agg #[.bool m,.slice a1 n1 c1,.slice a2 n2 c2]) q):QC .i64 W [.bool m,.slice a1 n1 c1,.slice a2 n2 c2] q:=by
 have e:=r0r h;subst e;exact⟨a1,n1,c1,a2,n2,c2,rfl,h⟩
theorem WRow.app {B:Nat}{W W':World}{v':Value}{cs:List (List Value)}{qs:List Rat}{c:List Value}{q:Rat}(h:QL .i64 W cs qs)(hk:KRow .i64 81 3 B W' v' (cs ++ [c]))(hkeep:KeepK .i64 W W')(hc:QC .i64 W c q):WRow B W' v' (qs ++ [q]):=
 ⟨cs ++ [c],hk,(h.keep hkeep).snoc (hc.keep hkeep)⟩
structure RRow (W:World)(v:Value)(qs:List Rat):Prop where
 ex:∃ (a:Option Addr) (c:Nat),v=.slice a qs.length c/\qs.length<=c/\c<=9223372036854775807/\∀ (i:Nat) (q:Rat),qs[i]?=some q->∃ (g o:Nat) (m:Bool) (a1:Option Addr) (n1 c1:Nat) (a2:Option Addr) (n2 c2:Nat),a=some ⟨g,o,none⟩/\g<W.heap.size/\W.cell? ⟨g,o+i*3,none⟩=some (.bool m)/\W.cell? ⟨g,o+i*3+1,none⟩=some (.slice a1 n1 c1)/\W.cell? ⟨g,o+i*3+2,none⟩=some (.slice a2 n2 c2)/\IsQ .i64 W (.agg #[.bool m,.slice a1 n1 c1,.slice a2 n2 c2]) q
theorem RRow.call {W W':World}{v:Value}{qs:List Rat}(h:RRow W v qs)(hb:Below W.heap.size W W'):RRow W' v qs:=by
 obtain⟨a,c,e,h1,h2,h3⟩:=h.ex;refine⟨a,c,e,h1,h2,fun i q hq=>?_⟩;obtain⟨g,o,m,a1,n1,c1,a2,n2,c2,e1,hg,k1,k2,k3,hQ⟩:=h3 i q hq;exact⟨g,o,m,a1,n1,c1,a2,n2,c2,e1,H6 hg hb.size,(hb.cell (p:=⟨g,_,none⟩) hg).trans k1,(hb.cell (p:=⟨g,_,none⟩) hg).trans k2,(hb.cell (p:=⟨g,_,none⟩) hg).trans k3,hQ.call hb⟩
theorem WRow.rd {B:Nat}{W:World}{v:Value}{qs:List Rat}(h:WRow B W v qs):RRow W v qs:=by
 obtain⟨a,c,rfl,h1,h2⟩:=h.slice;refine⟨a,c,rfl,h1,h2,fun i q hq=>?_⟩;obtain⟨g,m,a1,n1,c1,a2,n2,c2,e,-,hg,k1,k2,k3,hQ⟩:=h.at hq;exact⟨g,0,m,a1,n1,c1,a2,n2,c2,e,hg,by rw[U7];exact k1,by rw[U7];exact k2,by rw[U7];exact k3,hQ⟩
theorem RRow.slice {W:World}{v:Value}{qs:List Rat}(h:RRow W v qs):∃ a c,v=.slice a qs.length c/\qs.length<=c/\c<=9223372036854775807:=by
 obtain⟨a,c,e,h1,h2,-⟩:=h.ex;exact⟨a,c,e,h1,h2⟩
theorem RRow.at {W:World}{a:Option Addr}{n c:Nat}{qs:List Rat}(h:RRow W (.slice a n c) qs){i:Nat}{q:Rat}(hq:qs[i]?=some q):∃ (g o:Nat) (m:Bool) (a1:Option Addr) (n1 c1:Nat) (a2:Option Addr) (n2 c2:Nat),a=some ⟨g,o,none⟩/\g<W.heap.size/\W.cell? ⟨g,o+i*3,none⟩=some (.bool m)/\W.cell? ⟨g,o+i*3+1,none⟩=some (.slice a1 n1 c1)/\W.cell? ⟨g,o+i*3+2,none⟩=some (.slice a2 n2 c2)/\IsQ .i64 W (.agg #[.bool m,.slice a1 n1 c1,.slice a2 n2 c2]) q:=by
 obtain⟨a',c',e,h1,h2,h3⟩:=h.ex;injection e with e1 e2 e3
 subst e1 e3;exact h3 i q hq
def r0t:(Tryz.prog.info? 9).map (fun i=>(i.zero,i.size,i.bytes))=some (some (.string ⟨#[]⟩),1,16):=by kernel_rfl
def sL (ts:List ByteArray):List (List Value):=ts.map fun s=>[.string s]
theorem p0N:∀ ts:List ByteArray,(sL ts).flatten=e0p ts
 | []=>rfl
 | x::r=>by
  show [Value.string x]++(sL r).flatten=Value.string x::e0p r
  rw[p0N r];rfl
def g0D (ts:List ByteArray):(sL ts).length=ts.length:=Aa _
def w0H (ts:List ByteArray)(t:ByteArray):sL (ts ++ [t])=sL ts ++ [[.string t]]:=by unfold sL;rw[Ak];rfl
def c1q:NoKL .i64 (Value.cells (.string ⟨#[]⟩)).toList:=by intro x hx;simp[Value.cells]at hx
def c1r (s:ByteArray):NoKL .i64 [[Value.string s]].flatten:=by intro x hx;simp at hx
def b1F (s:ByteArray):∀ u ∈ [[Value.string s]].flatten,u.oneCell'=true:=by intro u hu;simp at hu;subst hu;rfl
def c1t (x:Value):∀ d ∈ [[x]],d.length=1:=by intro d hd;simp at hd;subst hd;rfl
def b1J {W:World}{g:Nat}{x:Value}{t:TypeId}(h:Blk W g #[x] t):∀ j u,[[x]].flatten[j]?=some u->W.cell? ((⟨g,0,none⟩:Addr).add j)=some u:=fun j u hj=>by
 rw[Addr.add_lit,U7,h.cell];simpa using hj
def i0b {k k2:IntKind}{t1 t2:TypeId}{s1 s2 B:Nat}{W W' w3:World}{v u:Value}{cs cs':List (List Value)}(ht:t1≠t2)(h:KRow k t1 s1 B W v cs)(h2:KRow k2 t2 s2 B W u cs')(hb:Below W.heap.size W W')(hg:W'.grownBy w3 u.ownBlock):KRow k t1 s1 B w3 v cs:=by
 refine h.keep fun g e=>?_
 have hlt:=(h.own.lt g e).2;refine (hg.block g (H6 hlt hb.size) fun e2=>ht ?_).trans (hb.block g hlt);rcases h.own.2 with ⟨e3,_⟩ | ⟨g1,c1,cur1,e3,_,hb1,_⟩
 .subst e3;cases e
 rcases h2.own.2 with ⟨e4,_⟩ | ⟨g2,c2,cur2,e4,_,hb2,_⟩
 .subst e4;cases e2
 subst e3 e4;obtain rfl:g1=g:=by simpa[Value.ownBlock]using e
 obtain rfl:g1=g2:=by simpa[Value.ownBlock]using e2
 rw[hb1]at hb2;injection hb2 with hb2
 injection hb2
def i0c {k:IntKind}{t:TypeId}{s B:Nat}{w W W' w3:World}{u:Value}{cs:List (List Value)}(h:KRow k t s B W u cs)(hB:w.heap.size=B)(h0:Below w.heap.size w W)(hb:Below W.heap.size W W')(hg:W'.grownBy w3 u.ownBlock):Below w.heap.size w w3:=by
 subst hB;exact o0A (h.call hb) (a0a h0 hb) hg
structure SQ (B:Nat)(W:World)(v u:Value)(ts:List ByteArray)(qs:List Rat):Prop where
 s:KRow .i64 9 1 B W v (sL ts)
 q:WRow B W u qs
theorem SQ.nil (B:Nat)(W:World):SQ B W (.slice none 0 0) (.slice none 0 0) [] []:=⟨KRow.nil _ _ _ _ _,WRow.nil _ _⟩
theorem SQ.call {B:Nat}{W W':World}{v u:Value}{ts:List ByteArray}{qs:List Rat}(h:SQ B W v u ts qs)(hb:Below W.heap.size W W'):SQ B W' v u ts qs:=⟨h.s.call hb,h.q.call hb⟩
theorem SQ.appS {B:Nat}{W W' w3:World}{v v' u:Value}{ts:List ByteArray}{qs:List Rat}(h:SQ B W v u ts qs){t:ByteArray}(hb:Below W.heap.size W W')(hk:KRow .i64 9 1 B w3 v' (sL ts ++ [[.string t]]))(hg:W'.grownBy w3 v.ownBlock)(hkeep:KeepK .i64 W' w3):SQ B w3 v' u (ts ++ [t]) qs:=by
 obtain⟨cs,h1,h2⟩:=h.q.ex;refine⟨by rw[w0H];exact hk,cs,i0b (by decide) h1 h.s hb hg,h2.keep ((KeepK.below hb).trans hkeep)⟩
theorem SQ.appQ {B:Nat}{W W' w3:World}{v u u':Value}{ts:List ByteArray}{qs:List Rat}{cs:List (List Value)}{c:List Value}{q:Rat}(h:SQ B W v u ts qs)(h1:KRow .i64 81 3 B W u cs)(h2:QL .i64 W' cs qs)(hb:Below W.heap.size W W')(hk:KRow .i64 81 3 B w3 u' (cs ++ [c]))(hg:W'.grownBy w3 u.ownBlock)(hkeep:KeepK .i64 W' w3)(hc:QC .i64 W' c q):SQ B w3 v u' ts (qs ++ [q]):=
 ⟨i0b (by decide) h.s h1 hb hg,WRow.app h2 hk hkeep hc⟩
theorem SQ.row {B:Nat}{W:World}{v u:Value}{ts:List ByteArray}{qs:List Rat}(h:SQ B W v u ts qs):Row W v (e0p ts):=by
 have:=h.s.own;rw[g0D,p0N]at this;exact Row.of_owns this
theorem SQ.rd {B:Nat}{W:World}{v u:Value}{ts:List ByteArray}{qs:List Rat}(h:SQ B W v u ts qs):RRow W u qs:=h.q.rd
end
section
open Go.RowKit Go.Shelf
def p0R {w w':World}{row:Option Nat}{v:Value}{xs:List Value}(h:Row w v xs)(hg:w.grownBy w' row)(hne:∀ g,v.ownBlock=some g->row≠some g):Row w' v xs:=by
 obtain⟨a,c,rfl,h1,h2,h3⟩:=h.ex;refine⟨a,c,rfl,h1,h2,fun i x hx=>?_⟩;obtain⟨g,o,rfl,hg',hc⟩:=h3 i x hx;exact⟨g,o,rfl,H6 hg' hg.size,hg.cell hc (fun e=>hne g rfl e.symm)⟩
def z0x {w:World}{v:Value}{xs:List Value}{g:Nat}(h:Row w v xs)(h0:0<xs.length)(hg:v.ownBlock=some g):g<w.heap.size:=by
 obtain⟨a,c,rfl,h1,h2,h3⟩:=h.ex;obtain⟨g',o,rfl,hg',hc⟩:=h3 0 _ (J0 h0);simp only[Value.ownBlock,At]at hg;omega
def NRowX (w:World)(x:Value)(m:Nat)(f:Nat->Nat)(o:Value):Prop:=∃ ys:List Value,ys.length=m/\Row w x ys/\(∀ g,x.ownBlock=some g->o.ownBlock≠some g)/\∀ j y,ys[j]?=some y->IsN .i64 w y (f j)/\Ap y o (f j)
theorem NRowX.row {w:World}{x o:Value}{m:Nat}{f:Nat->Nat}(h:NRowX w x m f o):NRow w x m f:=by
 obtain⟨ys,h1,h2,h3,h4⟩:=h;exact⟨ys,h1,h2,fun j y hy=>(h4 j y hy).1⟩
theorem NRowX.call {w w':World}{x o:Value}{m:Nat}{f:Nat->Nat}(h:NRowX w x m f o)(hb:Below w.heap.size w w'):NRowX w' x m f o:=by
 obtain⟨ys,h1,h2,h3,h4⟩:=h;exact⟨ys,h1,h2.call hb,h3,fun j y hy=>⟨(h4 j y hy).1.call hb,(h4 j y hy).2⟩⟩
theorem NRowX.of {w:World}{B g m c:Nat}{f:Nat->Nat}{o:Value}(h:NTab B w g m c f)(ho:∀ b,o.ownBlock=some b->b<B):NRowX w (.slice (some ⟨g,0,none⟩) m c) m f o:=by
 have hs:=h.slot;obtain⟨vs,h1,h2⟩:=h.ex;refine⟨vs,by have:=h1.1;omega,Row.of_owns h1,fun b hb e=>?_,fun j y hy=>⟨(h2 j y hy).1,(h2 j y hy).2.imp id fun k b hb e=>?_⟩⟩
 .have:=ho b e;simp only[Value.ownBlock,At]at hb;omega
 .have:=ho b e;have:=(k b hb).1;omega
theorem NRowX.grow {w w3:World}{x v v3:Value}{m:Nat}{f:Nat->Nat}(h:NRowX w x m f v)(h0:0<m)(hg:w.grownBy w3 v.ownBlock)(hat:v3.ownBlock=v.ownBlock\/v3.ownBlock=some w.heap.size):NRowX w3 x m f v3:=by
 obtain⟨ys,h1,h2,h3,h4⟩:=h;refine⟨ys,h1,p0R h2 hg h3,fun g hx=>?_,fun j y hy=>⟨e0L (h4 j y hy).1 hg (h4 j y hy).2,?_⟩⟩
 .rcases hat with e | e
  .rw[e];exact h3 g hx
  .rw[e];intro e';injection e' with e'
   have:=z0x h2 (by omega) hx;omega
 .obtain⟨q1,q2⟩:=h4 j y hy;by_cases hz:f j=0
  .exact .inl hz
  .refine .inr fun g hx=>?_
   rcases q2 with e | q2
   .exact absurd e hz
   .rcases hat with e | e
    .rw[e];exact q2 g hx
    .rw[e];intro e';injection e' with e'
     have:=r0s q1 hz hx;omega
def NSeg (B:Nat)(w:World)(v:Value)(r m:Nat)(f:Nat->Nat->Nat):Prop:=∃ vs:List Value,w.ownsRow B 204 1 v r vs/\∀ k x,vs[k]?=some x->NRowX w x m (f k) v
theorem NSeg.nil (B:Nat)(w:World)(m:Nat)(f:Nat->Nat->Nat):NSeg B w (.slice none 0 0) 0 m f:=⟨[],Ba _ _ _ _,fun j x hx=>by simp at hx⟩
theorem NSeg.call {B:Nat}{w w':World}{v:Value}{r m:Nat}{f:Nat->Nat->Nat}(h:NSeg B w v r m f)(hb:Below w.heap.size w w'):NSeg B w' v r m f:=by
 obtain⟨vs,h1,h2⟩:=h;exact⟨vs,h1.kept (b0W hb none) (by cases hv:v.ownBlock<;>simp),fun j x hx=>(h2 j x hx).call hb⟩
theorem NSeg.mono {B B':Nat}{w:World}{v:Value}{r m:Nat}{f:Nat->Nat->Nat}(h:NSeg B w v r m f)(hB:B'<=B):NSeg B' w v r m f:=by
 obtain⟨vs,h1,h2⟩:=h;refine⟨vs,⟨h1.1,?_⟩,h2⟩;rcases h1.2 with h0 | ⟨g',cap,cur,e,k1,k2,k3⟩
 .exact .inl h0
 .exact .inr ⟨g',cap,cur,e,by omega,k2,k3⟩
theorem NSeg.next {B:Nat}{w w1 w3:World}{v v3:Value}{r m g c:Nat}{f:Nat->Nat->Nat}{o:Obj}{vs:List Value}(h0:0<m)(k1:w.ownsRow B 204 1 v r vs)(k2:∀ k x,vs[k]?=some x->NRowX w x m (f k) v)(hb:Below w.heap.size w w1)(hx:NTab w.heap.size w1 g m c (f r))
 (h3:w3.ownsRow B 204 1 v3 (r+1) (vs ++ [.slice (some ⟨g,0,none⟩) m c])) (hg:(w1.alloc o).grownBy w3 v.ownBlock) (hat:v3.ownBlock=v.ownBlock\/v3.ownBlock=some (w1.alloc o).heap.size):NSeg B w3 v3 (r+1) m f:=by
 have hal:Below w1.heap.size w1 (w1.alloc o):=br0.alloc nr o;have hl:vs.length=r:=by have:=k1.1;omega
 refine⟨vs ++ [.slice (some ⟨g,0,none⟩) m c],h3,fun k x hk=>?_⟩;have key:NRowX w1 x m (f k) v:=by
  by_cases hj:k<vs.length
  .rw[D9 hj]at hk;exact (k2 k x hk).call hb
  .rw[M6 (by omega)]at hk;have hj':k-vs.length=0:=by
    rcases H7 (k-vs.length) with h | h
    .exact h
    .rw[U6 (by simp;omega)]at hk;cases hk
   rw[hj']at hk;obtain rfl:k=r:=by omega
   simp at hk;subst hk;exact NRowX.of hx fun b hb'=>(k1.lt b hb').2
 exact (key.call hal).grow h0 hg hat
theorem NSeg.open {B:Nat}{w:World}{v:Value}{r m:Nat}{f:Nat->Nat->Nat}(h:NSeg B w v (r+1) m f):∃ g c,v=.slice (some ⟨g,0,none⟩) (r+1) c/\r+1<=c/\c<=9223372036854775807/\g<w.heap.size/\∀ k,k<=r->∃ x,w.cell? ⟨g,k,none⟩=some x/\NRow w x m (f k):=by
 obtain⟨vs,h1,h2⟩:=h;obtain⟨g,c,rfl,-,-⟩:=h1.form (Ew r);have hs:=g0d h1;have hl:vs.length=r+1:=by have:=h1.1;omega
 refine⟨g,c,rfl,hs.2.2.2.2.2.1,hs.2.2.2.2.1,hs.2.1,fun k hk=>?_⟩;obtain⟨x,hx⟩:∃ x,vs[k]?=some x:=⟨_,J0 (by omega)⟩;exact⟨x,hs.2.2.2.1 k x hx,(h2 k x hx).row⟩
def chC (y:Int×Bool×Value×Value):List Value:=[.int .i64 y.1,.bool y.2.1,y.2.2.1,y.2.2.2]
def chF (L:List (Int×Bool×Value×Value)):List Value:=L.flatMap chC
def u0U (L:List (Int×Bool×Value×Value))(y:Int×Bool×Value×Value):chF (L ++ [y])=chF L++chC y:=by simp[chF]
def y0D {L:List (Int×Bool×Value×Value)}:∀ {i:Nat} {y:Int×Bool×Value×Value},L[i]?=some y->(chF L)[i*4]?=some (.int .i64 y.1)/\(chF L)[i*4+1]?=some (.bool y.2.1)/\(chF L)[i*4+2]?=some y.2.2.1/\(chF L)[i*4+3]?=some y.2.2.2:=by
 induction L with
 | nil=>intro i p h;simp at h
 | cons q r ih=>
  intro i p h;have hl:(chC q).length=4:=rfl;cases i with
  | zero=>simp at h;subst h;exact⟨rfl,rfl,rfl,rfl⟩
  | succ i=>
   rw[Jy]at h;obtain⟨h1,h2,h3,h4⟩:=ih h;have e:chF (q::r)=chC q++chF r:=rfl;rw[e];refine⟨?_,?_,?_,?_⟩
   .rw[M6 (by omega),hl,show (i+1)*4-4=i*4 by omega];exact h1
   .rw[M6 (by omega),hl,show (i+1)*4+1-4=i*4+1 by omega];exact h2
   .rw[M6 (by omega),hl,show (i+1)*4+2-4=i*4+2 by omega];exact h3
   .rw[M6 (by omega),hl,show (i+1)*4+3-4=i*4+3 by omega];exact h4
structure CRow (w:World)(v:Value)(l:List (Int×Rat)):Prop where
 ex:∃ a c,v=.slice a l.length c/\l.length<=c/\c<=9223372036854775807/\∀ (i:Nat) (x:Int×Rat),l[i]?=some x->∃ g o N D,a=some ⟨g,o,none⟩/\g<w.heap.size/\w.cell? ⟨g,o+i*4,none⟩=some (.int .i64 x.1)/\w.cell? ⟨g,o+i*4+1,none⟩=some (.bool (decide (x.2.num<0)))/\w.cell? ⟨g,o+i*4+2,none⟩=some N/\w.cell? ⟨g,o+i*4+3,none⟩=some D/\IsN .i64 w N x.2.num.natAbs/\IsN .i64 w D x.2.den
theorem CRow.call {w w':World}{v:Value}{l:List (Int×Rat)}(h:CRow w v l)(hb:Below w.heap.size w w'):CRow w' v l:=by
 obtain⟨a,c,rfl,h1,h2,h3⟩:=h.ex;refine⟨a,c,rfl,h1,h2,fun i x hx=>?_⟩;obtain⟨g,o,N,D,rfl,hg,k1,k2,k3,k4,k5,k6⟩:=h3 i x hx;exact⟨g,o,N,D,rfl,H6 hg hb.size,(hb.cell (p:=⟨g,o+i*4,none⟩) hg).trans k1,(hb.cell (p:=⟨g,o+i*4+1,none⟩) hg).trans k2,(hb.cell (p:=⟨g,o+i*4+2,none⟩) hg).trans k3,(hb.cell (p:=⟨g,o+i*4+3,none⟩) hg).trans k4,k5.call hb,k6.call hb⟩
structure COwn (B:Nat)(w:World)(v:Value)(l:List (Int×Rat))(vs:List (Int×Bool×Value×Value)):Prop where
 own:w.ownsRow B 89 4 v l.length (chF vs)
 len:vs.length=l.length
 at_:∀ (i:Nat) (y:Int×Bool×Value×Value) (x:Int×Rat),vs[i]?=some y->l[i]?=some x->y.1=x.1/\y.2.1=decide (x.2.num<0)/\IsN .i64 w y.2.2.1 x.2.num.natAbs/\Ap y.2.2.1 v x.2.num.natAbs/\IsN .i64 w y.2.2.2 x.2.den/\Ap y.2.2.2 v x.2.den
theorem COwn.nil (B:Nat)(w:World):COwn B w (.slice none 0 0) [] []:=⟨Ba _ _ _ _,rfl,fun i y x h=>by simp at h⟩
theorem COwn.call {B:Nat}{w w':World}{v:Value}{l:List (Int×Rat)}{vs:List (Int×Bool×Value×Value)}(h:COwn B w v l vs)(hb:Below w.heap.size w w'):COwn B w' v l vs:=by
 refine⟨h.own.kept (b0W hb none) (by cases hv:v.ownBlock<;>simp),h.len,fun i y x hy hx=>?_⟩;obtain⟨k1,k2,k3,k4,k5,k6⟩:=h.at_ i y x hy hx;exact⟨k1,k2,k3.call hb,k4,k5.call hb,k6⟩
def n0G {w:World}{v v3 y:Value}{n:Nat}(hn:IsN .i64 w y n)(h:Ap y v n)(hat:v3.ownBlock=v.ownBlock\/v3.ownBlock=some w.heap.size):Ap y v3 n:=by
 by_cases hz:n=0
 .exact .inl hz
 .refine .inr fun g hx=>?_
  rcases h with e | q2
  .exact absurd e hz
  .rcases hat with e | e
   .rw[e];exact q2 g hx
   .rw[e];intro e';injection e' with e'
    have:=r0s hn hz hx;omega
theorem COwn.next {B:Nat}{w w3:World}{v v3:Value}{l:List (Int×Rat)}{vs:List (Int×Bool×Value×Value)}(h:COwn B w v l vs)(x:Int)(q:Rat){N D:Value}(hN:IsN .i64 w N q.num.natAbs)(aN:Ap N v q.num.natAbs)(hD:IsN .i64 w D q.den)(aD:Ap D v q.den)
 (h3:w3.ownsRow B 89 4 v3 (l.length+1) (chF vs ++ [.int .i64 x,.bool (decide (q.num<0)),N,D])) (hg:w.grownBy w3 v.ownBlock) (hat:v3.ownBlock=v.ownBlock\/v3.ownBlock=some w.heap.size):COwn B w3 v3 (l ++ [(x,q)]) (vs ++ [(x,decide (q.num<0),N,D)]):=by
 refine⟨by rw[u0U,J4];exact h3,by simp[h.len],fun i y z hy hz=>?_⟩;have key:y.1=z.1/\y.2.1=decide (z.2.num<0)/\IsN .i64 w y.2.2.1 z.2.num.natAbs/\Ap y.2.2.1 v z.2.num.natAbs/\IsN .i64 w y.2.2.2 z.2.den/\Ap y.2.2.2 v z.2.den:=by
  by_cases hj:i<vs.length
  .rw[D9 hj]at hy;rw[D9 (by rw[<- h.len];exact hj)]at hz;exact h.at_ i y z hy hz
  .rw[M6 (by omega)]at hy;rw[M6 (by rw[<- h.len];omega)]at hz;have hl:=h.len;have hj':i-vs.length=0:=by
    rcases H7 (i-vs.length) with h | h
    .exact h
    .rw[U6 (by simp;omega)]at hy;cases hy
   rw[hj']at hy;rw[show i-l.length=0 by omega]at hz;simp at hy hz;subst hy hz;exact⟨rfl,rfl,hN,aN,hD,aD⟩
 obtain⟨k1,k2,k3,k4,k5,k6⟩:=key;exact⟨k1,k2,e0L k3 hg k4,n0G k3 k4 hat,e0L k5 hg k6,n0G k5 k6 hat⟩
def n0H {B:Nat}{w w1:World}{v y:Value}{l:List (Int×Rat)}{vs:List (Int×Bool×Value×Value)}{n:Nat}(h:COwn B w v l vs)(hf:∀ g,y.ownBlock=some g->w.heap.size<=g):Ap y v n:=.inr fun g hg e=>by
 have:=(h.own.lt g e).2;have:=hf g hg;omega
theorem COwn.row {B:Nat}{w:World}{v:Value}{l:List (Int×Rat)}{vs:List (Int×Bool×Value×Value)}(h:COwn B w v l vs):CRow w v l:=by
 rcases h.own.2 with ⟨rfl,h0⟩ | ⟨g,cap,cur,rfl,hb,hg,k1,k2,k3,k4⟩
 .have h1:=h.own.1;have hl:l = []:=Ct.1 (by omega);subst hl;exact⟨none,0,rfl,Z3 _,by omega,fun i x hx=>by simp at hx⟩
 .obtain⟨o1,o2,o3,o4,o5,o6⟩:=k0n h.own;refine⟨some ⟨g,0,none⟩,cap,rfl,o6,o5,fun i x hx=>?_⟩;have hi:i<vs.length:=by rw[h.len];exact (O4.1 hx).1
  obtain⟨y,hy⟩:∃ y,vs[i]?=some y:=⟨_,J0 hi⟩;obtain⟨q1,q2,q3,q4,q5,q6⟩:=h.at_ i y x hy hx;obtain⟨f1,f2,f3,f4⟩:=y0D hy;refine⟨g,0,y.2.2.1,y.2.2.2,rfl,o2,?_,?_,?_,?_,q3,q5⟩
  .rw[U7,<- q1];exact o4 _ _ f1
  .rw[U7,<- q2];exact o4 _ _ f2
  .rw[U7];exact o4 _ _ f3
  .rw[U7];exact o4 _ _ f4
end
section
open Go.RowKit
open Go.Lib (decDigits nDigits)
def n0T (d:List (ByteArray×ByteArray))(k:Int):List (Int×Rat):=(d.filter fun p=>decide (p.1=zB k)).map fun p=>(k,vQ p.2)
def p0K {d:List (ByteArray×ByteArray)}{i:Nat}{p:ByteArray×ByteArray}{k:Int}(h:d[i]?=some p):n0T (d.take (i+1)) k=n0T (d.take i) k++if p.1=zB k then [(k,vQ p.2)] else []:=by
 unfold n0T;rw[Dr,h,Ju,Ak]
 congr 1
 by_cases e:p.1=zB k
 .simp[e]
 .simp[e]
def g0B (d:List (ByteArray×ByteArray))(k:Int):(n0T d k).length<=d.length:=by
 unfold n0T;rw[Aa];exact Kz _ _
def chL (d:List (ByteArray×ByteArray))(n:Nat):Nat->List (Int×Rat)
 | 0=>[]
 | j+1=>chL d n j++n0T d ((j:Int)-n)
theorem i0n (d:List (ByteArray×ByteArray))(n:Nat):∀ j,(chL d n j).length<=j*d.length
 | 0=>by simp[chL]
 | j+1=>by
  have h1:=i0n d n j;have h2:=g0B d ((j:Int)-n);rw[chL,J4,He];omega
theorem o0I {L:List (ByteArray×ByteArray)}(hnd:(L.map b0C).Nodup){p:ByteArray×ByteArray}(hp:p∈L):L.filter (fun x=>decide (x.1=p.1)) = [p]:=by
 induction L with
 | nil=>simp at hp
 | cons q r ih=>
  rw[Jr,List.nodup_cons]at hnd;by_cases h:q.1=p.1
  .have hq:∀ x∈r,x.1≠p.1:=fun x hx e=>hnd.1 (by rw[show b0C q=b0C x by unfold b0C;rw[h,e]];exact List.mem_map_of_mem hx)
   have hpq:p=q:=by
    rcases Az.1 hp with e | e
    .exact e
    .exact absurd rfl (hq p e)
   subst hpq;rw[List.filter_cons_of_pos (by simp)]
   congr 1
   rw[List.filter_eq_nil_iff];intro x hx;simpa using hq x hx
  .have hpr:p∈r:=by
    rcases Az.1 hp with e | e
    .exact absurd (by rw[e]) h
    .exact e
   rw[List.filter_cons_of_neg (by simpa using h)];exact ih hnd.2 hpr
def t0f {g:Int->Nat}{n r:Nat}(hn:n<=1000)(hg:∀ v,g v<=2 ^ n){k:Int}(h1 : -(n:Int)<=k)(h2:k<=n):n0T (a0B (glP g (2 ^ n) n r)) k=if g k=0 then [] else [(k,dyQ (g k) n)]:=by
 have nd:=s0W (r0z g (2 ^ n) n r);unfold n0T;by_cases h:g k=0
 .rw[U0 h];have e:(a0B (glP g (2 ^ n) n r)).filter (fun p=>decide (p.1=zB k)) = []:=by
   rw[List.filter_eq_nil_iff];intro p hp;rw[c0e,f0m]at hp;rcases hp with ⟨v,-,-,h3,rfl⟩ | ⟨-,rfl⟩
   .intro e;rw[S5]at e;have:=g0s e;subst this;exact h3 h
   .intro e;rw[S5]at e;exact g0r k (congrArg (fun b:ByteArray=>b.data.toList) e.symm)
  rw[e];rfl
 .rw[Q0 h];have hm:(zB k,shB (g k) (2 ^ n))∈a0B (glP g (2 ^ n) n r):=by
   rw[c0e,f0m];exact .inl ⟨k,h1,h2,h,rfl⟩
  have e:=o0I nd hm;dsimp only at e;rw[e];have e2:shB (g k) (2 ^ n)=txQ (dyQ (g k) n):=k0I (hg k) hn;rw[List.map_singleton,e2,f0v]
theorem s0p {g:Int->Nat}{n r:Nat}(hn:n<=1000)(hg:∀ v,g v<=2 ^ n):∀ j,j<=2*n+1->chL (a0B (glP g (2 ^ n) n r)) n j=(chV g n j).map fun v=>(v,dyQ (g v) n)
 | 0,_=>rfl
 | j+1,h=>by
  rw[chL,s0p hn hg j (by omega),n0v,Ak,t0f hn hg (by omega) (by omega)]
  congr 1
  by_cases e:g ((j:Int)-n)=0
  .rw[U0 e,U0 e];rfl
  .rw[Q0 e,Q0 e];rfl
def x0Q {g:Int->Nat}{n r:Nat}(hn:n<=1000)(hg:∀ v,g v<=2 ^ n)(hr:r<=2 ^ n):∀ p∈a0B (glP g (2 ^ n) n r),qE p.2=0/\p.2.size<=10000:=fun p hp=>by
 rw[c0e,f0m]at hp;have key:∀ x,x<=2 ^ n->qE (shB x (2 ^ n))=0/\(shB x (2 ^ n)).size<=10000:=fun x hx=>by
  refine⟨?_,e0E _⟩;have e2:shB x (2 ^ n)=txQ (dyQ x n):=k0I hx hn;have hf:¬ ovQ (dyQ x n):=(g0k (K:=4000) (d0V n) (by rw[Jw];exact h0E hx hn) (h0E nr hn)).fits (by omega) (by omega);rw[e2];exact m0O hf
 rcases hp with ⟨v,-,-,-,rfl⟩ | ⟨-,rfl⟩
 .exact key _ (hg v)
 .exact key _ hr
theorem m0K (w:World)(s:ByteArray)(hs:s.size<=1000000)(hq0:qE s=0):
 Calls Tryz.prog 71 #[.string s] w fun e w'=>(∃ v,e=.returned (.tuple #[v,.int .i64 0])/\IsQF w.heap.size w' v (vQ s))/\Below w.heap.size w w':=by
 have HC:=s0i s (by omega);have hq:qB s=true:=by
  cases h:qB s
  .have:qE s=3:=by simp[qE,h]
   omega
  .rfl
 have hl':qL s=false:=by
  cases h:qL s
  .rfl
  .have:qE s=5:=by simp[qE,hq,h]
   omega
 have hi:=c0p hq;rw[hi]at HC;have hdD:=e0P (d0e hi);have hcS:cS s=false\/(cS s=true/\¬ iD (cW s)=⟨#[48]⟩/\¬ cB s=⟨#[48]⟩/\¬ cB s=⟨#[49]⟩/\fB (cB s)=true):=by
  have hq':=hq;unfold qB at hq';simp only[I9,M9,Au,S5]at hq';rcases hq'.2 with h | h
  .exact .inl h
  .cases hc:cS s
   .exact .inl rfl
   .exact .inr ⟨rfl,h.1.1.1,h.1.2,h.2,h.1.1.2⟩
 have hl1:¬ 4000<(iD (cW s)).size/\¬ 4000<(qD s).size:=by
  unfold qL at hl';simpa using hl'
 obtain⟨e1,e2,e3⟩:=i0t hq0;have key:Calls Tryz.prog 71 #[.string s] w fun e w'=>RetRF w.heap.size 0 (iM (cW s)) (bN (iD (cW s))) (bN (qD s)) e w'/\Below w.heap.size w w':=by
  rcases hcS with hc | ⟨hc,h1,h2,h3,h4⟩
  .rw[hc]at HC;rw[d0I hc];exact p0U w s _ _ _ _ _ _ hs HC hl1.1 hdD
  .rw[hc,h4]at HC;have hl2:=hl1.2;rw[c0i hc]at hl2;have e:qE s=if Nat.gcd (bN (iD (cW s))) (bN (cB s))=1 then 0 else 3:=by
    simp only[qE,hq,hl',qG,hc,c0i hc];by_cases hg:Nat.gcd (bN (iD (cW s))) (bN (cB s))=1<;>simp[hg]
   rw[hq0]at e;rw[c0i hc];have:=m0C w s _ _ _ _ _ hs HC h1 h2 h3 hl1.1 hl2 hdD (e0P h4);rw[<- e]at this;exact this
 refine key.mono ?_;rintro e w' ⟨⟨v,rfl,h1,-⟩,hb⟩;obtain⟨N,D,rfl,hN,hD,f1,f2⟩:=h1 rfl;exact⟨⟨_,rfl,N,D,by rw[e1],by rw[e2];exact hN,by rw[e3];exact hD,f1,f2⟩,hb⟩
end
section
open Go.RowKit
def m0H (w:World)(n:Nat)(h:n<=9223372036854775807):Calls Tryz.prog 152 #[.int .i64 n] w fun e w'=>e=.returned (s0K n)/\w=w':=by
 go_enter Tryz.func152,Tryz.ntmps152;go_wp2_with fail;refine zv (h0T _ n h) ?_;go_wp2_with fail;go_ret
 exact⟨rfl,rfl⟩
open Go.Lib (decDigits nDigits)
def v0h (m:Nat):(⟨#[45]⟩:ByteArray)++a0g (m+1)=zB (-((m:Int)+1)):=by
 apply a0M
 rw[ByteArray.data_append,Iv,a0x,c0Z,show -((m:Int)+1) = -((m+1:Nat):Int) by omega,Lib.itoa_neg _ (by omega)]
 rfl
def g0f {n:Nat}(h:n<=9223372036854775807):nDigits n<=9000:=E0 (a0j (k:=19) (by omega) (by omega)) (by omega)
def f0j {n:Nat}(h:n<=9223372036854775807):(limbs n).length<=1000000:=E0 (c0F (K:=3) (E0 (a0j (k:=19) (by omega) (by omega)) (by omega))) (by omega)
def p0Z (w:World)(m:Nat)(h:m<=1000000000):Calls Tryz.prog 55 #[.int .i64 (-((m:Int)+1))] w fun e w'=>e=.returned (.string (zB (-((m:Int)+1))))/\Below w.heap.size w w':=by
 have q0:decide ((0:Int) <= -((m:Int)+1))=false:=by simp<;>omega
 have q1:IntKind.i64.wrap (-((m:Int)+1)+1) = -(m:Int):=by rw[O0 _ ⟨by omega,by omega⟩];omega
 have q2:IntKind.i64.wrap (-(-(m:Int)))=(m:Int):=by rw[O0 _ ⟨by omega,by omega⟩];omega
 have q3:IntKind.i64.wrap (-(-((m:Int)+1)+1))=(m:Int):=by rw[O0 _ ⟨by omega,by omega⟩];omega
 have q4:IntKind.i64.wrap (m:Int)=(m:Int):=by rw[O0 _ ⟨by omega,by omega⟩]
 have hz:=v0h m;obtain⟨Z,hZ⟩:=gn (zB (-((m:Int)+1)));rw[hZ]at hz |-;have HS:=fun V=>hid (m0H V m (by omega))
 have HR:=fun V=>hid (b0U V m (g0f (by omega)))
 have HO:=fun V=>hid (m0I V)
 have HP:=fun V v u hv hu=>hid (d0a V v u m 1 hv hu (f0j (by omega)) (f0j (by omega)))
 have HW:=fun V v hv=>hid (a0P V v (m+1) hv (f0j (by omega)))
 obtain⟨M,hM⟩:=gn (a0g m);have hsz:=a0t (m+1);have hnd:=g0f (n:=m+1) (by omega);obtain⟨M1,hM1⟩:=gn (a0g (m+1));rw[hM1]at hsz;have hcat:¬ 9223372036854775807<1+M1.size:=by omega
 simp only[b0o]at HS HW;rw[hM]at HS HR;rw[hM1]at HW hz;clear hM hM1 hZ h hsz hnd;go_enter Tryz.func55,Tryz.ntmps55;go_wp2_with fail;refine zx (HS _) ?_;go_wp2_with fail;refine (HR _).out.mono ?_;rintro e w2 ⟨⟨v2,rfl,h2⟩,hb2⟩;obtain⟨B2,V2⟩:=zg hb2 h2;clear hb2 h2;go_wp2_with fail;refine (HO _).out.mono ?_;rintro e w3 ⟨⟨v3,rfl,h3⟩,hb3⟩;obtain⟨B3,V3,U3⟩:=zc (a0a B2.out hb3) (V2.out.call hb3) h3;clear hb3 h3;go_wp2_with fail;refine (HP _ _ _ V3.out U3.out).out.mono ?_;rintro e w4 ⟨⟨v4,rfl,h4⟩,hb4⟩;obtain⟨B4,V4⟩:=zg (a0a B3.out hb4) h4;clear hb4 h4;go_wp2_with fail;refine (HW _ _ V4.out).out.mono ?_;rintro e w5 ⟨rfl,hb5⟩;have B5:=hid (a0a B4.out hb5);clear hb5;go_wp2_with fail;go_ret
 exact⟨rfl,B5.out⟩
def p0Y (w:World)(k:Int)(h1 : -1000000000<=k)(h2:k<=1000000000):Calls Tryz.prog 55 #[.int .i64 k] w fun e w'=>e=.returned (.string (zB k))/\Below w.heap.size w w':=by
 by_cases hk:0<=k
 .obtain⟨n,rfl⟩:∃ n:Nat,k=(n:Nat):=⟨k.toNat,by omega⟩;refine zv (k0h w n (by omega)) ?_;exact⟨by rw[p0h],J3 _ _⟩
 .obtain⟨m,rfl⟩:∃ m:Nat,k = -((m:Int)+1):=⟨(-k-1).toNat,by omega⟩;exact p0Z w m (by omega)
open Go.Shelf
def x0N:(Tryz.prog.info? 89).map (fun i=>(i.zero,i.size,i.bytes))=some (some (.agg #[.int .i64 0,.bool false,.slice none 0 0,.slice none 0 0]),4,64):=by kernel_rfl
def ltV (d:List (ByteArray×ByteArray)):Nat->Rat
 | 0=>0
 | i+1=>match d[i]? with
  | some p=>if p.1=b0h then vQ p.2 else ltV d i
  | none=>ltV d i
theorem u0g {d:List (ByteArray×ByteArray)}{i:Nat}{p:ByteArray×ByteArray}(h:d[i]?=some p)(hp:p.1=b0h):ltV d (i+1)=vQ p.2:=by
 rw[ltV,h];exact U0 hp
theorem x0D {d:List (ByteArray×ByteArray)}{i:Nat}{p:ByteArray×ByteArray}(h:d[i]?=some p)(hp:¬ p.1=b0h):ltV d (i+1)=ltV d i:=by
 rw[ltV,h];exact Q0 hp
def t0X {W:World}{g:Nat}{cs:Array Value}{t:TypeId}(h:Blk W g cs t):∀ j u,cs.toList[j]?=some u->W.cell? ((⟨g,0,none⟩:Addr).add j)=some u:=fun j u hj=>by
 rw[Addr.add_lit,U7,h.cell];simpa using hj
def n0t {w:World}{b:Nat}{m0:Bool}{a0 b0:Option Addr}{n0 c0 n1 c1:Nat}{t:TypeId}(hb:Blk w b #[.bool m0,.slice a0 n0 c0,.slice b0 n1 c1] t)(m:Bool)(a a':Option Addr)(n c n' c':Nat){v:Value}{l:List (Int×Rat)}(h:CRow w v l):
 CRow (((w.setCell ⟨b,0,none⟩ (.bool m)).setCell ⟨b,1,none⟩ (.slice a n c)).setCell ⟨b,2,none⟩ (.slice a' n' c')) v l:=by
 obtain⟨s,k,rfl,h1,h2,h3⟩:=h.ex;refine⟨s,k,rfl,h1,h2,fun i x hx=>?_⟩;obtain⟨g,o,N,D,rfl,hg,k1,k2,k3,k4,k5,k6⟩:=h3 i x hx;have hne:g≠b:=by
  rintro rfl;rw[hb.cell]at k1;exact NoInt.three _ _ _ _ _ _ _ _ _ _ k1
 have hc:∀ j,(((w.setCell ⟨b,0,none⟩ (.bool m)).setCell ⟨b,1,none⟩ (.slice a n c)).setCell ⟨b,2,none⟩ (.slice a' n' c')).cell? ⟨g,j,none⟩=w.cell? ⟨g,j,none⟩:=fun j=>by
  unfold World.cell?;rw[Ac _ _ _ _ (by simpa using hne),Ac _ _ _ _ (by simpa using hne),Ac _ _ _ _ (by simpa using hne)]
 have hs:=(d0k hb m a a' n c n' c').1;exact⟨g,o,N,D,rfl,by simpa using hg,(hc _).trans k1,(hc _).trans k2,(hc _).trans k3,(hc _).trans k4,hs _ _ _ k5,hs _ _ _ k6⟩
def l0p (w:World)(v:Value)(d:List (ByteArray×ByteArray))(n:Nat)(hn:n<=32)(hv:MRow w v d)(hd:∀ p∈d,qE p.2=0/\p.2.size<=10000)(hl:d.length<=100):
 Calls Tryz.prog 70 #[v,.int .i64 (n:Nat)] w fun e w'=>(∃ u q,e=.returned (.tuple #[u,q])/\CRow w' u (chL d n (2*n+1))/\IsQ .i64 w' q (ltV d d.length))/\Below w.heap.size w w':=by
 obtain⟨i0,hi,hz0,hz1,hz2⟩:=Cl x0N;obtain⟨a,c,rfl,c1,c2,c3⟩:=hv.ex;have P1:=fun V=>hid (b0U V 1 (by decide +kernel))
 rw[show a0g 1=(⟨#[49]⟩:ByteArray) from by decide +kernel]at P1;obtain⟨HV,H3,HD,HN,HLn⟩:=zf hv c3 hd hn hl;obtain⟨L,hL⟩:=gn (d.length);have HL:=hid hL;rw[hL]at c1 hl HV |-;have wn:IntKind.i64.wrap (-(n:Int)) = -(n:Int):=by rw[O0 _ ⟨by omega,by omega⟩]
 clear hv c3 hd hn hL;go_enter Tryz.func70,Tryz.ntmps70;go_wp2_with fail;refine (P1 _).out.mono ?_;rintro e w1 ⟨⟨v1,rfl,hv1⟩,hb1⟩;obtain⟨a1,k1,rfl,-⟩:=hv1.openI;obtain⟨l1,hl1⟩:=gn ((limbs 1).length);rw[hl1]at hv1 |-;obtain⟨A0,X5⟩:=zg ((J3 w.heap.size w).alloc nr (.cells #[.bool false,.slice none 0 0,.slice none 0 0] 81)) ((Blk.new w #[.bool false,.slice none 0 0,.slice none 0 0] 81).call hb1);obtain⟨y1,V1⟩:=zg (a0a A0.out hb1) hv1;clear hb1 hv1 hl1;obtain⟨X7,A7,Q7⟩:=zc (Blk.new w1 #[.bool false,.slice none 0 0,.slice a1 l1 k1] 81) ((J3 w1.heap.size w1).alloc nr (.cells #[.bool false,.slice none 0 0,.slice a1 l1 k1] 81)) (show QB (w1.alloc (.cells #[.bool false,.slice none 0 0,.slice a1 l1 k1] 81)) w1.heap.size 0 from QB.new (IsQ.zero_ (IsN.zero .i64 w1) V1.out));go_wp2_with fail;obtain⟨Y5,Y1⟩:=zg (X5.out.call A7.out) (a0a y1.out A7.out)
 have GL:=hid (show w.heap.size<(w1.alloc (.cells #[.bool false,.slice none 0 0,.slice a1 l1 k1] 81)).heap.size/\w1.heap.size<(w1.alloc (.cells #[.bool false,.slice none 0 0,.slice a1 l1 k1] 81)).heap.size/\w.heap.size<w1.heap.size by
  have h1:=X5.out.lt;simp;omega)
 obtain⟨g5,hg5⟩:=gn (w.heap.size);obtain⟨g7,hg7⟩:=gn (w1.heap.size);obtain⟨W1,hW1⟩:=gn (w1.alloc (.cells #[.bool false,.slice none 0 0,.slice a1 l1 k1] 81));rw[hW1]at X7 Y5 Y1 GL Q7 |-;rw[hg7]at X7 GL Q7 |-;rw[hg5]at Y5 GL |-;obtain⟨HG5,HG7⟩:=zg hg5 hg7;clear hW1 hg5 hg7 X5 A7 A0 y1
 go_loopw [6,8,9,10,11] (fun s6 s8 s9 s10 s11 wr=>∃ (j:Nat) (vs:List (Int×Bool×Value×Value)),s8=.int .i64 ((j:Int)-n)/\j<=2*n+1/\Hid (COwn W1.heap.size wr s6 (chL d n j) vs)/\Hid (Below W1.heap.size W1 wr)) (fun s6 s8 s9 s10 s11 wr=>2*n+1-(intOf s8+n).toNat)
 case atStart=>exact⟨0,[],by congr 1;omega,J5 _,COwn.nil _ _,J3 _ _⟩
 case round=>
  obtain⟨j,vs,rfl,hj,hO,hB⟩:=hrel;have hn:=HN.out;by_cases hlt:j<2*n+1
  .have t0:decide ((j:Int)-n<=n)=true:=I8 (by omega);have wk:IntKind.i64.wrap ((j:Int)-n+1)=((j+1:Nat):Int)-n:=by rw[O0 _ ⟨by omega,by omega⟩];omega
   have PZ:=fun V=>hid (p0Y V ((j:Int)-n) (by omega) (by omega))
   obtain⟨K,hK⟩:∃ K:Int,(j:Int)-n=K:=⟨_,rfl⟩;rw[hK]at t0 wk PZ |-;obtain⟨HK,HJ⟩:=zg hK hlt;clear hK hlt hj hn;go_wp2_with fail
   go_loopw [6,9,10,11] (fun s6 s9 s10 s11 wx=>∃ (i:Nat) (vs:List (Int×Bool×Value×Value)),s9=.int .i64 (i:Nat)/\i<=L/\Hid (COwn W1.heap.size wx s6 (chL d n j++n0T (d.take i) K) vs)/\Hid (Below W1.heap.size W1 wx)) (fun s6 s9 s10 s11 wx=>L-(intOf s9).toNat)
   case atStart=>exact⟨0,vs,rfl,J5 _,by simpa[n0T]using hO,hB⟩
   case round=>
    obtain⟨i,us,rfl,hi,hO',hB'⟩:=hrel;by_cases hlt:i<L
    .obtain⟨p,hp⟩:∃ p,d[i]?=some p:=⟨_,J0 (by rw[HL.out];exact hlt)⟩;obtain⟨g,o,rfl,hg,m1,m2⟩:=H3.out i p hp;have BW:=hid (a0a Y1.out hB'.out);have KA:Hid (∀ W,Below w.heap.size w W->W.cell? ⟨g,o+i*2,none⟩=some (.string p.1)/\W.cell? ⟨g,o+i*2+1,none⟩=some (.string p.2)):=fun W hW=>by
      rw[E9 2]at m1 m2;exact⟨(hW.cell (p:=⟨g,o+i*2,none⟩) hg).trans m1,(hW.cell (p:=⟨g,o+i*2+1,none⟩) hg).trans m2⟩
     have f1:(0:Int)<=(i:Int):=by omega
     have f2:(i:Int)<(L:Int):=by omega
     have wi:IntKind.i64.wrap ((i:Int)+1)=((i+1:Nat):Int):=by have:=HLn.out;rw[O0 _ ⟨by omega,by omega⟩];omega
     obtain⟨HSL,HDP,HLT⟩:=zc (p0K (k:=K) hp) (HD.out p (E7 hp)) hlt;by_cases he:p.1=zB K
     .rw[if_pos he]at HSL;obtain⟨pk,pv⟩:=p;dsimp only at he KA HSL HDP;subst he;obtain⟨zk,hzk⟩:=gn (zB K);rw[hzk]at PZ KA;have r1:=(KA.out _ BW.out).1;have q5:(zk.toList==zk.toList)=true:=by simp
      have PR:=fun V=>hid (m0K V pv (by have:=HDP.out.2;omega) HDP.out.1)
      clear hp hg m1 m2 hzk hlt hi;go_wp2_with fail;refine a0k [0,1,2,3,4,5] 2 (fun w'=>w'.cell? ⟨g,o+i*2,none⟩=some (.string zk)) (by kernel_rfl) (by kernel_rfl) (by kernel_rfl) (by kernel_rfl) r1 ?_
      iterate 6
       refine⟨_,rfl,?_⟩;apply Exists.intro
       refine⟨.inl ⟨by rfl,?_⟩,?_⟩
       ·(intro W' hW';obtain q9:=hW';go_simp;try (with_reducible rfl))
       go_frame
      refine a0c (i:=6) (by kernel_rfl) rfl rfl ?_;go_wp2_with fail;refine (PZ _).out.mono ?_;rintro e w7 ⟨rfl,hb7⟩;have x7:=hid (show Below wr.heap.size wr w7 from (br0.drew).trans hb7);have B7:=hid (a0a BW.out x7.out);have r7:=(KA.out _ B7.out).1;clear hb7 r1;go_wp2_with fail;refine⟨r7,?_⟩;refine b0d (is:=[7]) (g:=0) (by kernel_rfl) rfl r7 (by kernel_rfl) ?_
      iterate 1
       refine⟨_,rfl,?_⟩;apply Exists.intro
       refine⟨.inl ⟨by rfl,?_⟩,?_⟩
       ·(intro W' hW';obtain q9:=hW';go_simp;try (with_reducible rfl))
       go_frame
      refine Z7 (by kernel_rfl) ?_ _;simp only[a0Z];have r8:=(KA.out _ B7.out).2;clear r7;go_wp2_with fail;refine (PR _).out.mono ?_;rintro e w8 ⟨⟨v8,rfl,hv8⟩,hb8⟩;have x8:=hid (a0a x7.out hb8);obtain⟨N,D,rfl,hN,hD,fN,fD⟩:=hv8;obtain⟨aN,cN,rfl,-⟩:=hN.openI;obtain⟨aD,cD,rfl,-⟩:=hD.openI;obtain⟨lN,hlN⟩:=gn ((limbs (vQ pv).num.natAbs).length);obtain⟨lD,hlD⟩:=gn ((limbs (vQ pv).den).length);obtain⟨mq,hmq⟩:=gn (decide ((vQ pv).num<0));rw[hlN]at hN fN |-;rw[hlD]at hD fD |-;rw[hmq];obtain⟨Nw,Dw,FN,FD,HMQ⟩:=zf hN hD fN fD hmq;have g0:=(Blk.new w8 #[.bool mq,.slice aN lN cN,.slice aD lD cD] 81).cell 0;have g1:=(Blk.new w8 #[.bool mq,.slice aN lN cN,.slice aD lD cD] 81).cell 1;have g2:=(Blk.new w8 #[.bool mq,.slice aN lN cN,.slice aD lD cD] 81).cell 2;simp at g0 g1 g2;clear hb8 hN hD fN fD hlN hlD hmq r8;obtain⟨XA,SA⟩:=zg ((x8.out.alloc x8.out.size (.cells #[.bool mq,.slice aN lN cN,.slice aD lD cD] 81)).alloc (by have:=x8.out.size;simp;omega) (.cells #[.int .i64 K,.bool mq,.slice aN lN cN,.slice aD lD cD] 89)) (((J3 w8.heap.size w8).alloc nr (.cells #[.bool mq,.slice aN lN cN,.slice aD lD cD] 81)).alloc (by simp) (.cells #[.int .i64 K,.bool mq,.slice aN lN cN,.slice aD lD cD] 89));obtain⟨OA,CA,WB⟩:=zc (hO'.out.call XA.out) (Blk.made (w8.alloc (.cells #[.bool mq,.slice aN lN cN,.slice aD lD cD] 81)) #[.int .i64 K,.bool mq,.slice aN lN cN,.slice aD lD cD] 89 (n:=w8.heap.size+1) (by simp)) (hB'.out.trans (XA.out.mono hB'.out.size))
      have HLB:=hid (show (chL d n j++n0T (d.take i) K).length<=6700 from by
       have h1:=i0n d n j;have h2:=g0B (d.take i) K;rw[Cg]at h2;rw[HL.out]at h1 h2;have h3:j*L<=65*100:=Aw (by have:=HJ.out;have:=HN.out;omega) (by have:=HLn.out;rw[HL.out]at this;exact this);rw[J4];have:=HLn.out;omega)
      obtain⟨NA,DA,pN,pD⟩:=zd (Nw.out.call SA.out) (Dw.out.call SA.out) (n0H (w1:=wr) (n:=(vQ pv).num.natAbs) hO'.out (fun g hg=>E0 x7.out.size (FN.out g hg))) (n0H (w1:=wr) (n:=(vQ pv).den) hO'.out (fun g hg=>E0 x7.out.size (FD.out g hg)));go_wp2_with (at_builtin;refine Ft _ rfl _ _ 78 rfl W1.heap.size 89 i0 (.agg #[.int .i64 0,.bool false,.slice none 0 0,.slice none 0 0]) 4 64 Tryz.underlying78 hi hz0 hz1 hz2 rfl (by decide) _ _ (chF us) rfl OA.out.own ⟨w8.heap.size+1,0,none⟩ 1 1 [.int .i64 K,.bool mq,.slice aN lN cN,.slice aD lD cD] rfl rfl (t0X CA.out) (by simp[Value.oneCell']) (by have:=HLB.out;unfold maxLen;omega) (by have:=HLB.out;omega) WB.out.size ?_;intro v9 w9 hown hgrow _ hat;have O9:=hid hown;have G9:=hid hgrow;have T9:=hid hat;clear hown hgrow hat)
      obtain⟨B9,N9,HS9⟩:=zc (b0V OA.out.own WB.out G9.out) (COwn.next OA.out K (vQ pv) NA.out pN.out DA.out pD.out (by rw[HMQ.out];exact O9.out) G9.out T9.out) (show chL d n j++n0T (d.take (i+1)) K=chL d n j++n0T (d.take i) K ++ [(K,vQ pv)] from by rw[HSL.out,Ai]);clear g0 g1 g2;go_roundw
      case rel=>exact⟨i+1,_,by go_num,by have:=HLT.out;omega,by rw[HS9.out];exact N9,B9⟩
      case measure=>simp[intOf]<;>(have:=HLT.out;omega)
     .rw[if_neg he,List.append_nil]at HSL;obtain⟨pk,pv⟩:=p;dsimp only at he KA HSL HDP;obtain⟨zk,hzk⟩:=gn (zB K);rw[hzk]at PZ he;have r1:=(KA.out _ BW.out).1;have q5:(pk.toList==zk.toList)=false:=by
       rw[U4];exact x0z he
      clear hp hg m1 m2 hzk hlt hi he;go_wp2_with fail;refine a0k [0,1,2,3,4,5] 2 (fun w'=>w'.cell? ⟨g,o+i*2,none⟩=some (.string pk)) (by kernel_rfl) (by kernel_rfl) (by kernel_rfl) (by kernel_rfl) r1 ?_
      iterate 6
       refine⟨_,rfl,?_⟩;apply Exists.intro
       refine⟨.inl ⟨by rfl,?_⟩,?_⟩
       ·(intro W' hW';obtain q9:=hW';go_simp;try (with_reducible rfl))
       go_frame
      refine a0c (i:=6) (by kernel_rfl) rfl rfl ?_;go_wp2_with fail;refine (PZ _).out.mono ?_;rintro e w7 ⟨rfl,hb7⟩;have x7:=hid (show Below wr.heap.size wr w7 from (br0.drew).trans hb7);have B7:=hid (a0a BW.out x7.out);have r7:=(KA.out _ B7.out).1;clear hb7 r1;go_wp2_with fail;refine⟨r7,?_⟩;refine b0d (is:=[7]) (g:=0) (by kernel_rfl) rfl r7 (by kernel_rfl) ?_
      iterate 1
       refine⟨_,rfl,?_⟩;apply Exists.intro
       refine⟨.inl ⟨by rfl,?_⟩,?_⟩
       ·(intro W' hW';obtain q9:=hW';go_simp;try (with_reducible rfl))
       go_frame
      refine Z7 (by kernel_rfl) ?_ _;simp only[a0Z];clear r7;go_wp2_with fail;go_roundw
      case rel=>exact⟨i+1,us,by go_num,by have:=HLT.out;omega,by rw[HSL.out];exact hO'.out.call x7.out,hB'.out.trans (x7.out.mono hB'.out.size)⟩
      case measure=>simp[intOf]<;>(have:=HLT.out;omega)
    .obtain rfl:i=L:=by omega
     have q5:decide ((i:Int)<(i:Int))=false:=by simp
     clear hlt hi;go_wp2_with fail;go_roundw
     case rel=>exact⟨j+1,us,by congr 1<;>omega,by have:=HJ.out;omega,by
      have h:=hO'.out;rw[Z6 (by rw[HL.out];exact Z3 _)]at h;rw[chL,HK.out];exact h,hB'⟩
     case measure=>
      simp[intOf];have:=HJ.out;have:=HK.out;omega
  .obtain rfl:j=2*n+1:=by omega
   have t0:decide (((2*n+1:Nat):Int)-n<=n)=false:=I7 (by omega);clear hlt hj;go_wp2_with fail;obtain⟨wL,hwL⟩:∃ x:World,x=wr:=⟨_,rfl⟩;subst hwL;obtain⟨CL,QL7,XL5,BL⟩:=zd hO.out.row (Q7.out.call hB.out) (Y5.out.call hB.out) (a0a Y1.out hB.out);clear hO hB
   go_loopw [12] (fun s12 wx=>∃ i:Nat,s12=.int .i64 (i:Nat)/\i<=L/\Hid (CRow wx u6 (chL d n (2*n+1)))/\Hid (QB wx g7 (ltV d i))/\Hid (Blk wx g5 #[.bool false,.slice none 0 0,.slice none 0 0] 81)/\Hid (Below w.heap.size w wx)) (fun s12 wx=>L-(intOf s12).toNat)
   case atStart=>exact⟨0,rfl,J5 _,CL,QL7,XL5,BL⟩
   case round=>
    obtain⟨i,rfl,hi,hC,hQ,h5,hB⟩:=hrel;by_cases hlt:i<L
    .obtain⟨p,hp⟩:∃ p,d[i]?=some p:=⟨_,J0 (by rw[HL.out];exact hlt)⟩;obtain⟨g,o,rfl,hg,m1,m2⟩:=H3.out i p hp;have r1:=(hB.out.cell (p:=⟨g,o+2*i,none⟩) hg).trans m1;have r2:=(hB.out.cell (p:=⟨g,o+2*i+1,none⟩) hg).trans m2;rw[E9 2]at r1 r2;have f1:(0:Int)<=(i:Int):=by omega
     have f2:(i:Int)<(L:Int):=by omega
     have wi:IntKind.i64.wrap ((i:Int)+1)=((i+1:Nat):Int):=by rw[O0 _ ⟨by omega,by omega⟩];omega
     obtain⟨HDP,HLT⟩:=zg (HD.out p (E7 hp)) hlt;by_cases he:p.1=b0h
     .have HLV:=hid (u0g hp he);obtain⟨pk,pv⟩:=p;dsimp only at he r1 r2 HLV HDP;subst he;unfold b0h at r1;have PR:=fun V=>hid (m0K V pv (by have:=HDP.out.2;omega) HDP.out.1)
      clear hp hg m1 m2 hlt hi;go_wp2_with fail;refine (PR _).out.mono ?_;rintro e w8 ⟨⟨v8,rfl,hv8⟩,hb8⟩;obtain⟨m8,a8,n8,c8,b8,d8,e8,rfl⟩:=hv8.q.qv;obtain⟨m7,a7,n7,c7,b7,d7,e7,hb7,-⟩:=hQ.out;obtain⟨X8,V8,C8,Z8,B8⟩:=zf (hb7.call hb8) hv8.q (hC.out.call hb8) (h5.out.call hb8) (a0a hB.out hb8);have t0:=X8.out.cell 0;have t1:=X8.out.cell 1;have t2:=X8.out.cell 2;have t3:=X8.out.free 0;have t4:=X8.out.free 1;have t5:=X8.out.free 2;simp at t0 t1 t2;clear hb8 hv8 hb7 hQ hC h5 hB r1 r2;go_wp2_with fail;have ne:g7≠g5:=by have:=GL.out;have:=HG5.out;have:=HG7.out;omega
      have le:w.heap.size<=g7:=by have:=GL.out;have:=HG5.out;have:=HG7.out;omega
      have Y8:=hid (((Z8.out.other (a:=⟨g7,0,none⟩) ne (.bool m8)).other (a:=⟨g7,1,none⟩) ne (.slice a8 n8 c8)).other (a:=⟨g7,2,none⟩) ne (.slice b8 d8 e8));refine⟨?_,?measure⟩
      (repeat apply Exists.intro)
      refine⟨?rel,rfl⟩
      case rel=>exact⟨i+1,by go_num,by have:=HLT.out;omega,n0t X8.out _ _ _ _ _ _ _ C8.out,by rw[HLV.out];exact QB.put X8.out V8.out,Y8,((B8.out.setCell le _).setCell le _).setCell le _⟩
      case measure=>simp[intOf]<;>(have:=HLT.out;omega)
     .have HLV:=hid (x0D hp he);obtain⟨pk,pv⟩:=p;dsimp only at he r1 r2 HLV HDP;have q5:=a0I (d:=pk) (l:=[108,97,116,101]) (by unfold b0h at he;exact he);clear hp hg m1 m2 hlt hi he;go_wp2_with fail;go_roundw
      case rel=>exact⟨i+1,by go_num,by have:=HLT.out;omega,hC,by rw[HLV.out];exact hQ,h5,hB⟩
      case measure=>simp[intOf]<;>(have:=HLT.out;omega)
    .obtain rfl:i=L:=by omega
     have q5:decide ((i:Int)<(i:Int))=false:=by simp
     obtain⟨m7,a7,n7,c7,b7,d7,e7,hb7,hq7⟩:=hQ.out;obtain⟨X7',V7⟩:=zg hb7 hq7;clear hlt hi hb7 hq7 hQ;have ne:g5≠g7:=by have:=GL.out;have:=HG5.out;have:=HG7.out;omega
     have KS:Hid (∀ (m:Bool) (a a':Option Addr) (n c n' c':Nat),Blk (((wr.drew.setCell ⟨g5,0,none⟩ (.bool m)).setCell ⟨g5,1,none⟩ (.slice a n c)).setCell ⟨g5,2,none⟩ (.slice a' n' c')) g7 #[.bool m7,.slice a7 n7 c7,.slice b7 d7 e7] 81):=fun m a a' n c n' c'=>
      ((X7'.out.drew.other (a:=⟨g5,0,none⟩) ne (.bool m)).other (a:=⟨g5,1,none⟩) ne (.slice a n c)).other (a:=⟨g5,2,none⟩) ne (.slice a' n' c')
     have t0:=h5.out.cell 0;have t1:=h5.out.cell 1;have t2:=h5.out.cell 2;have t3:=h5.out.free 0;have t4:=h5.out.free 1;have t5:=h5.out.free 2;simp at t0 t1 t2;clear ne;go_wp2_with fail;refine a0k [0,1,2] 1 (fun w'=>w'.cell? ⟨g7,0,none⟩=some (.bool m7)/\w'.cell? ⟨g7,1,none⟩=some (.slice a7 n7 c7)/\w'.cell? ⟨g7,2,none⟩=some (.slice b7 d7 e7)) (by kernel_rfl) (by kernel_rfl) (by kernel_rfl) (by kernel_rfl) ⟨X7'.out.drew.cell 0,X7'.out.drew.cell 1,X7'.out.drew.cell 2⟩ ?_
     iterate 3
      refine⟨_,rfl,?_⟩;apply Exists.intro
      refine⟨.inl ⟨by rfl,?_⟩,?_⟩
      .rintro W' ⟨q9,q8,q7⟩;go_simp;try with_reducible rfl
      go_frame
     refine a0c (i:=3) (by kernel_rfl) rfl rfl ?_;go_wp2_with fail;refine⟨⟨(KS.out _ _ _ _ _ _ _).cell 0,(KS.out _ _ _ _ _ _ _).cell 1,(KS.out _ _ _ _ _ _ _).cell 2⟩,?_⟩;refine Z7 (by kernel_rfl) ?_ _;simp only[a0Z];obtain⟨s1,s2⟩:=d0k h5.out m7 a7 b7 n7 c7 d7 e7;have f0:=s2.cell 0;have f1:=s2.cell 1;have f2:=s2.cell 2;simp at f0 f1 f2;clear t0 t1 t2 t3 t4 t5;go_wp2_with fail;refine J6 (v:=.tuple #[u6,.agg #[.bool m7,.slice a7 n7 c7,.slice b7 d7 e7]]) (by simp[results,Tryz.results70,go_sem,f0,f1,f2]) rfl ⟨⟨_,_,rfl,n0t h5.out.drew _ _ _ _ _ _ _ (hC.out.call br0.drew),l0F h5.out.drew m7 a7 b7 n7 c7 d7 e7 (V7.out.call br0.drew)⟩,?_⟩;have le:w.heap.size<=g5:=by have:=HG5.out;omega
     exact ((hB.out.drew.setCell le _).setCell le _).setCell le _
def u0p:(Tryz.prog.info? 204).map (fun i=>(i.zero,i.size,i.bytes))=some (some (.slice none 0 0),1,24):=by kernel_rfl
def u0H (w:World)(m:Bool)(vN vD:Value)(N D n:Nat)(hn:n<=32)(h0:0<N)(hND:N<D)(hN:IsN .i64 w vN N)(hD:IsN .i64 w vD D)(hd:∀ j,j<=n->nDigits (N*2 ^ j)<=4000):
 Calls Tryz.prog 241 #[.agg #[.bool m,vN,vD],.int .i64 (n:Nat)] w fun e w'=>(∃ v,e=.returned v/\NSeg w.heap.size w' v (n+1) (n+1) (edn N D))/\Below w.heap.size w w':=by
 obtain⟨i0,hi,hz0,hz1,hz2⟩:=Cl u0p;obtain⟨aN,cN,rfl,-,-,-⟩:=hN.openI;obtain⟨aD,cD,rfl,-,-,-⟩:=hD.openI;obtain⟨lN,hlN⟩:=gn ((limbs N).length);obtain⟨lD,hlD⟩:=gn ((limbs D).length);rw[hlN]at hN |-;rw[hlD]at hD |-;have HT:=fun V hV1 hV2=>hid (k0G V m (.slice aN lN cN) (.slice aD lD cD) N D n (by omega) h0 hND hV1 hV2 hd)
 obtain⟨NN,ND,HN⟩:=zc hN hD hn;clear hN hD hd;go_enter Tryz.func241,Tryz.ntmps241;go_wp2_with fail;have C0:=hid ((J3 w.heap.size w).alloc nr (.cells #[.bool m,.slice aN lN cN,.slice aD lD cD] 81));refine (HT _ (NN.out.call C0.out) (ND.out.call C0.out)).out.mono ?_;rintro e w1 ⟨⟨u1,u2,rfl,hu1,hu2⟩,hb1⟩;obtain⟨a1,c1,rfl,p1,p2,-⟩:=hu1.ex;obtain⟨a2,c2,rfl,p3,p4,-⟩:=hu2.ex;simp only[s0w]at p1 p3 hu1 hu2 |-;have HZ:=fun V=>hid (e0R V n (by omega))
 have HR:=fun V=>hid (i0C V)
 have Z1:Hid (a0C N D 0=false/\a0i N D 0=false):=⟨rfl,by simp[a0i];omega⟩;obtain⟨WA,hWA⟩:=gn ((w1.alloc (.cells #[.slice a1 (n+1) c1,.slice a2 (n+1) c2] 268)));have BA:Hid (Below w.heap.size w WA):=by
  show Below w.heap.size w WA
  rw[<- hWA];have h1:=(C0.out.trans (hb1.mono C0.out.size));exact h1.alloc h1.size _
 have BB:Hid (Below w1.heap.size w1 WA):=by
  show Below w1.heap.size w1 WA
  rw[<- hWA];exact br0.alloc nr _
 have KA:Hid (Blk WA w1.heap.size #[.slice a1 (n+1) c1,.slice a2 (n+1) c2] 268):=by
  show Blk _ _ _ _
  rw[<- hWA];exact Blk.new w1 _ _
 obtain⟨U1,U2⟩:=zg (hu1.call BB.out) (hu2.call BB.out);obtain⟨gc,hgc⟩:=gn (w1.heap.size);rw[hgc]at KA;clear hu1 hu2 hb1 BB;go_wp2_with fail
 try rw[hWA]
 try rw[hgc]
 clear hWA hgc;refine (HZ _).out.mono ?_;rintro e w2 ⟨⟨g,c,rfl,ht⟩,hb2⟩;obtain⟨T0,B2⟩:=zg ht hb2;clear ht hb2;go_wp2_with fail;refine (HR _).out.mono ?_;rintro e w3 ⟨⟨v1,rfl,hv1,hf1⟩,hb3⟩;obtain⟨av,cv,rfl,-,-,-⟩:=hv1.openI;obtain⟨lv,hlv⟩:=gn ((limbs 1).length);rw[hlv]at hv1 hf1 |-;obtain⟨B3,T1⟩:=zg (a0a B2.out hb3) (T0.out.call hb3);have F1:Hid (∀ g',(Value.slice av lv cv).ownBlock=some g'->WA.heap.size<=g'/\g'≠g):=fun g' hg=>by
  have h1:w2.heap.size<=g':=hf1 g' hg;have h2:=T0.out.slot;have h3:=B2.out.size;exact⟨by omega,by omega⟩
 have V1:=hid hv1;have fr:=T1.out.slot.2.2.2.2 0;obtain⟨x0,cx0,-,-⟩:=T1.out.at (i:=0) (by omega);have e0':(0:Int)<(n:Int)+1:=by omega
 have T2:Hid (NTab WA.heap.size (w3.setCell ⟨g,0,none⟩ (.slice av lv cv)) g (n+1) c (opn N D 0)):=(T1.out.put 0 V1.out (.inr F1.out)).fn fun k hk=>rfl
 have B4:=hid (B3.out.setCell (p:=⟨g,0,none⟩) (by have:=T1.out.slot.1;exact this) (.slice av lv cv));clear hlv hv1 hf1 hb3;go_wp2_with fail;have X0:Hid (NRowX (w3.setCell ⟨g,0,none⟩ (.slice av lv cv)) (.slice (some ⟨g,0,none⟩) (n+1) c) (n+1) (opn N D 0) (.slice none 0 0)):=NRowX.of T2.out fun b hb=>by simp[Value.ownBlock]at hb
 clear cx0 T0 T1 T2 fr e0' F1 V1 B2 B3 HR HT HZ;have SZ:Hid (gc<WA.heap.size):=KA.out.lt;obtain⟨CC,CC2⟩:=zg (KA.out.cell 0) (KA.out.cell 1)
 go_loopw [6,7,8] (fun s6 s7 s8 wr=>∃ (k G C:Nat),s6=.slice (some ⟨G,0,none⟩) (n+1) C/\s8=.int .i64 (k:Nat)/\k<=n+1/\Hid (NRowX wr s6 (n+1) (opn N D k) s7)/\Hid (NSeg WA.heap.size wr s7 k (n+1) (edn N D))/\Hid (Below WA.heap.size WA wr)) (fun s6 s7 s8 wr=>n+1-(intOf s8).toNat)
 case atStart=>exact⟨0,g,c,rfl,rfl,J5 _,X0,NSeg.nil _ _ _ _,B4⟩
 case round=>
  clear X0 B4;obtain⟨k,G,C,rfl,rfl,hk,hX,hO,hB⟩:=hrel;by_cases hlt:k<=n
  .have d0:decide (k<=n)=true:=by simp;omega
   have wi:IntKind.i64.wrap ((k:Int)+1)=((k+1:Nat):Int):=by have:=HN.out;rw[O0 _ ⟨by omega,by omega⟩];omega
   have cc2:wr.cell? ⟨gc,1,none⟩=some (.slice a2 (n+1) c2):=(hB.out.cell (p:=⟨gc,1,none⟩) SZ.out).trans CC2.out;obtain⟨U3,XR,KL⟩:=zc (U2.out.call hB.out) hX.out.row hlt;clear hk hlt;go_wp2_with fail;refine (j0p _ _ _ n (opn N D k) (a0i N D) (by have:=HN.out;omega) XR.out U3.out Z1.out.2 (fun s hs=>⟨a0b (n0p HN.out k s hs) (by have:=HN.out;have:=KL.out;omega),a0b (g0V HN.out k s hs) (by have:=HN.out;have:=KL.out;omega)⟩)).mono ?_;rintro e wz ⟨⟨gz,cz,rfl,htz⟩,hbz⟩;obtain⟨BZ,TZ⟩:=zg hbz htz;clear hbz htz;obtain⟨vs,HO0,HO1⟩:=id hO.out;obtain⟨HOO,HO9⟩:=zg HO0 HO1;obtain⟨ar,cr,rfl⟩:=b0k HO0;clear HO0 HO1;have hk9:=KL.out;go_wp2_with (at_builtin;refine Ft _ rfl _ _ 226 rfl WA.heap.size 204 i0 (.slice none 0 0) 1 24 Tryz.underlying226 hi hz0 hz1 hz2 rfl (by decide) _ k vs rfl ((HOO.out.kept (b0W BZ.out none) (by cases ar<;>simp[Value.ownBlock])).alloc _) ⟨wz.heap.size,0,none⟩ 1 1 [.slice (some ⟨gz,0,none⟩) (n+1) cz] rfl rfl (Eh wz (.slice (some ⟨gz,0,none⟩) (n+1) cz) 204) (by simp[Value.oneCell']) (by unfold maxLen;omega) (by omega) (by have:=hB.out.size;have:=BZ.out.size;simp;omega) ?_;intro v' w5 hown hgrow _ hat;have HO5:=hid hown;have HG5:=hid hgrow;have HA5:=hid hat;clear hown hgrow hat;have B5:=hid (k0o HOO.out hB.out BZ.out HG5.out);have cc5:w5.cell? ⟨gc,0,none⟩=some (.slice a1 (n+1) c1):=(B5.out.cell (p:=⟨gc,0,none⟩) SZ.out).trans CC.out)
   obtain⟨N5,X5⟩:=zg (NSeg.next (f:=edn N D) (Ew n) HOO.out HO9.out BZ.out TZ.out HO5.out HG5.out HA5.out) (((hX.out.call BZ.out).call (br0.alloc nr _)).grow (Ew n) HG5.out HA5.out);obtain⟨XR5,U5⟩:=zg X5.out.row (U1.out.call B5.out);have OL5:Hid (∀ b,v'.ownBlock=some b->b<w5.heap.size):=fun b hb=>(HO5.out.lt b hb).2
   clear HO5 HG5 HA5 hk9 cc2;refine (j0p _ _ _ n (opn N D k) (a0C N D) (by have:=HN.out;omega) XR5.out U5.out Z1.out.1 (fun s hs=>⟨a0b (g0V HN.out (k+1) s hs) (by have:=HN.out;have:=KL.out;omega),a0b (g0V HN.out k s hs) (by have:=HN.out;have:=KL.out;omega)⟩)).mono ?_;rintro e w6 ⟨⟨g6,c6,rfl,ht6⟩,hb6⟩;have X6:Hid (NRowX w6 (.slice (some ⟨g6,0,none⟩) (n+1) c6) (n+1) (opn N D (k+1)) v'):=NRowX.of ht6 OL5.out;obtain⟨N6,B6⟩:=zg (N5.out.call hb6) (a0a B5.out hb6);clear ht6 hb6;go_wp2_with fail;go_roundw
   case rel=>exact⟨k+1,_,_,rfl,by go_num,by have:=KL.out;omega,X6,N6,B6⟩
   case measure=>simp[intOf]<;>(have:=KL.out;omega)
  .have e1:k=n+1:=by omega
   subst e1;have d0:decide ((n:Int)+1<=(n:Int))=false:=by simp;omega
   obtain⟨BF,NF⟩:=zg (BA.out.trans (hB.out.mono BA.out.size)) (hO.out.mono BA.out.size);clear hk hlt;go_wp2_with fail;go_ret
   exact⟨⟨_,rfl,NF.out⟩,BF.out⟩
def p0V (w:World)(n:Nat)(h:n<=9223372036854775807):Calls Tryz.prog 286 #[.int .i64 n] w fun e w'=>RetFr w.heap.size .i64 n e w'/\Below w.heap.size w w':=by
 have hd:=hid (show nDigits n<=9000 from E0 (a0j (k:=19) (by omega) (by omega)) (by omega));go_enter Tryz.func286,Tryz.ntmps286;go_wp2_with fail;refine (k0h _ n h).mono ?_;rintro e w1 ⟨rfl,rfl⟩;go_wp2_with fail;refine (c0B _ n hd.out).mono ?_;rintro e w1 ⟨⟨v,rfl,hv,hf⟩,hb⟩;go_wp2_with fail;go_ret
 exact⟨⟨_,rfl,hv,hf⟩,hb⟩
def w0R (w:World)(n:Nat)(hn:n<=100000):Calls Tryz.prog 221 #[.int .i64 n] w fun e w'=>RetFr w.heap.size .i64 (2 ^ n) e w'/\Below w.heap.size w w':=by
 go_enter Tryz.func221,Tryz.ntmps221;go_wp2_with fail;refine (p0V _ 1 (by omega)).mono ?_;rintro e w1 ⟨⟨v,rfl,hv,hf⟩,hb⟩;obtain⟨V,B,F⟩:=zc hv hb hf;clear hv hb hf;go_wp2_with fail
 go_loopw [0,3] (fun nn o wr=>∃ j:Nat,nn=.int .i64 j/\j<=n/\Hid (IsN .i64 wr o (2 ^ (n-j)))/\Hid (∀ g,o.ownBlock=some g->w.heap.size<=g)/\Hid (Below w.heap.size w wr)) (fun nn o wr=>(intOf nn).toNat)
 case atStart=>exact⟨n,rfl,Z3 _,by rw[Bh,Db];exact V,F,B⟩
 case round=>
  obtain⟨j,rfl,hj,hO,hF,hB⟩:=hrel;by_cases h0:0<j
  .have ll:Hid ((limbs (2 ^ (n-j))).length<=1000000):=E0 (c0Q (k:=n-j+1) (Hb (by omega) (by omega))) (by omega);have hs:Hid (2 ^ (n-j)+2 ^ (n-j)=2 ^ (n-(j-1))):=by
    show _=_
    rw[show n-(j-1)=n-j+1 by omega,M7];omega
   go_wp2_with fail;refine (c0C _ _ _ _ _ hO.out hO.out ll.out ll.out).mono ?_;rintro e w2 ⟨⟨v2,rfl,hv2,hf2⟩,hb2⟩;obtain⟨V2,B2⟩:=zg hv2 (a0a hB.out hb2);have F2:Hid (∀ g,v2.ownBlock=some g->w.heap.size<=g):=fun g hg=>E0 hB.out.size (hf2 g hg)
   clear hv2 hb2 hf2;go_wp2_with fail;go_roundw
   case rel=>exact⟨j-1,by go_num,by omega,V2.out.cast hs.out,F2,B2⟩
   case measure=>simp[intOf]<;>omega
  .obtain rfl:j=0:=by omega
   go_wp2_with fail;go_ret
   exact⟨⟨_,rfl,hO.out,hF.out⟩,hB.out⟩
end
end Go.Proofs.YtfkpfpobmobnbaaGreatDoor
