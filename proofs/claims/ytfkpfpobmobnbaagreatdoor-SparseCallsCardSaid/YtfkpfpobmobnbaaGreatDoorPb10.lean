import Derived.Test.YtfkpfpobmobnbaaGreatDoorPb9
import Derived.Shelf.SlSortCmp.WholeK
import Derived.Shelf.Small.Bits
import Derived.Ground.SlsfProg
import Derived.Sort.OwnSortedInts
set_option linter.all false
set_option maxRecDepth 100000
set_option maxHeartbeats 8000000
namespace Go.Proofs.YtfkpfpobmobnbaaGreatDoor
open Go.Proofs.Tryz Go.RowKit
open Go.Lib (decDigits nDigits)
section
open Go.Shelf
def u0v {a:ByteArray}(h:gPE a=0):bN (cW a)=(vQ a).num.natAbs/\bN (qD a)=(vQ a).den:=by
 obtain⟨h1,h2,-,-⟩:=f0d h;obtain⟨g1,g2,g3⟩:=i0W h1;have hm:iM (cW a)=false:=by
  rw[<- g1,Ac];omega
 rw[b0Z hm]at g2;exact⟨g2.symm,g3.symm⟩
def d0Y {a:ByteArray}(h:gPE a=0):(limbs (vQ a).num.natAbs).length<=100000/\(limbs (vQ a).den).length<=100000:=(f0d h).2.2.2.limbs (L:=100000) (by omega) (by omega)
def p0c (w:World)(a b:ByteArray)(ha:a.size<=1000000)(hb:b.size<=1000000)(he:gE a b≠0):
 qb 48 #[.string a,.string b] w (.tuple #[.agg #[.bool false,.int .i64 0,.int .i64 0],.int .i64 (gE a b)]):=by
 have R0:=fun V=>hid (m0f V a b ha hb)
 obtain⟨x,hx⟩:=gn (gE a b);rw[hx]at R0 he |-;have q0:(x != 0)=true:=by simpa using he
 obtain⟨x0,b0⟩:=zu (Blk.new w #[.bool false,.int .i64 0,.int .i64 0] 62) ((J4 w.heap.size w).alloc nr (.cells #[.bool false,.int .i64 0,.int .i64 0] 62));clear ha hb he hx;go_enter func48,ntmps48;go_wp2_with fail;refine ny (R0 _) fun w1 hb1=>?_;have x1:=hid (x0.out.call hb1);have b1:=qx b0 hb1;obtain⟨d0,d1,d2⟩:=qz x1.out;obtain⟨e0,e1,e2⟩:=qq x1.out;clear hb1;go_wp2_with fail;refine C7 (v:=.tuple #[.agg #[.bool false,.int .i64 0,.int .i64 0],.int .i64 x]) (by simp[results,results48,go_sem,d0,d1,d2]) rfl ⟨rfl,?_⟩
 first | exact b1.out | exact ((b1.out.setCell nr _).setCell nr _).setCell nr _
def m0g (w:World)(a b:ByteArray)(ha:a.size<=100000)(hb:b.size<=100000)(he:gE a b=0)(hS:s1 (vQ a).num.natAbs (vQ a).den b.data.toList 0 0=none):
 qb 48 #[.string a,.string b] w (.tuple #[.agg #[.bool false,.int .i64 0,.int .i64 (b.size:Nat)],.int .i64 0]):=by
 have R0:=fun V=>hid (m0f V a b (by omega) (by omega))
 rw[he]at R0;have R1:=fun V=>hid (d0k V a (by omega))
 have hg:=(d0A he).1;obtain⟨hq,hnum,hlt,hdig⟩:=f0d hg;have RS:=fun V v (hV:IsQ .i64 V v (vQ a))=>hid (h0o V v (vQ a) b (by omega) hV (d0Y hg).1 (d0Y hg).2 hlt)
 rw[hS]at RS;have HQ:=hid hq;have RS':∀ V v,IsQ .i64 V v (vQ a)->Hid (Calls prog 141 #[v,.string b] V fun e w'=>e=.returned (.tuple #[.int .i64 0,.int .i64 0,.bool false])/\Below V.heap.size V w'):=RS;clear RS;have RS:=RS';clear RS' ha hb he hg hq hnum hlt hdig hS;obtain⟨x0,b0⟩:=zu (Blk.new w #[.bool false,.int .i64 0,.int .i64 0] 62) ((J4 w.heap.size w).alloc nr (.cells #[.bool false,.int .i64 0,.int .i64 0] 62));go_enter func48,ntmps48;go_wp2_with fail;refine ny (R0 _) fun w1 hb1=>?_;have x1:=hid (x0.out.call hb1);have b1:=qx b0 hb1;clear hb1;go_wp2_with fail;refine (R1 _).out.mono ?_;rintro e w2 ⟨hr,hb2⟩;obtain⟨pm,pa,pn,pc,pa',pn',pc',rfl,h1,-⟩:=hr.open;have hqA:=h1 HQ.out;rw[HQ.out];have ba:=(J4 w2.heap.size w2).alloc nr (.cells #[.bool pm,.slice pa pn pc,.slice pa' pn' pc'] 81);obtain⟨x2,b2,q2,y2⟩:=zc ((x1.out.call hb2).call ba) (a0a (a0a b1.out hb2) ba) (hqA.call ba) (Blk.new w2 #[.bool pm,.slice pa pn pc,.slice pa' pn' pc'] 81);obtain⟨g0,g1,g2⟩:=qz y2.out;clear hr hb2 h1 hqA ba;go_wp2_with fail;refine ny (RS _ _ q2.out) fun w3 hb3=>?_;have x3:=hid (x2.out.call hb3);have b3:=qx b2 hb3;clear hb3 g0 g1 g2;obtain⟨d0,d1,d2⟩:=qz x3.out;obtain⟨e0,e1,e2⟩:=qq x3.out;go_wp2_with fail;have s3:=((x3.out.set 0 (.bool false)).set 1 (.int .i64 0)).set 2 (.int .i64 (b.size:Nat));obtain⟨f0,f1,f2⟩:=qz s3;refine C7 (v:=.tuple #[.agg #[.bool false,.int .i64 0,.int .i64 (b.size:Nat)],.int .i64 0]) (by simp[results,results48,go_sem,f0,f1,f2]) rfl ⟨rfl,?_⟩;exact ((b3.out.setCell nr _).setCell nr _).setCell nr _
def h0n (w:World)(a b:ByteArray)(n p:Nat)(o:Option (Nat×Nat))(z1:Bool)(z2 z3:Int)(ha:a.size<=100000)(hb:b.size<=256)(he:gE a b=0)(hn:n<=256)(hp:p<=b.size)(hS:s1 (vQ a).num.natAbs (vQ a).den b.data.toList 0 0=some (n,p))
 (ho:s1 (vQ a).num.natAbs (vQ a).den (b.data.toList.drop p) 0 0=o) (hz:(o=none/\z1=false/\z2=0/\z3=(b.size:Nat))\/(∃ k q:Nat,o=some (k,q)/\k<=256/\p+q<=b.size/\z1=true/\z2=(n:Int)-k/\z3=(p+q:Nat))):
 qb 48 #[.string a,.string b] w (.tuple #[.agg #[.bool z1,.int .i64 z2,.int .i64 z3],.int .i64 0]):=by
 have R0:=fun V=>hid (m0f V a b (by omega) (by omega))
 rw[he]at R0;have R1:=fun V=>hid (d0k V a (by omega))
 have hg:=(d0A he).1;obtain⟨hq,hnum,hlt,hdig⟩:=f0d hg;have RS:=fun V v (hV:IsQ .i64 V v (vQ a))=>hid (h0o V v (vQ a) b (by omega) hV (d0Y hg).1 (d0Y hg).2 hlt)
 rw[hS]at RS;have HQ:=hid hq;have RS':∀ V v,IsQ .i64 V v (vQ a)->Hid (Calls prog 141 #[v,.string b] V fun e w'=>e=.returned (.tuple #[.int .i64 (n:Nat),.int .i64 (p:Nat),.bool true])/\Below V.heap.size V w'):=RS;clear RS;have RS:=RS';have hx:(b.extract p b.size).data.toList=b.data.toList.drop p:=by
  rw[a0J];refine E7 ?_;rw[Af];simp
 have RS2:=fun V v (hV:IsQ .i64 V v (vQ a))=>hid (h0o V v (vQ a) (b.extract p b.size) (by simp;omega) hV (d0Y hg).1 (d0Y hg).2 hlt)
 obtain⟨x1v,x2v,x3v,hv⟩:∃ (y1 y2:Int) (y3:Bool),c1x o=.tuple #[.int .i64 y1,.int .i64 y2,.bool y3]:=by cases o<;>exact⟨_,_,_,rfl⟩
 rw[hx,ho,hv]at RS2;have HVV:=hid hv;clear hv;obtain⟨HZ,HB,HNN⟩:=zg hz hb hn;clear RS' ha hb he hg hq hnum hlt hdig hS ho hx hz hn;obtain⟨x0,b0⟩:=zu (Blk.new w #[.bool false,.int .i64 0,.int .i64 0] 62) ((J4 w.heap.size w).alloc nr (.cells #[.bool false,.int .i64 0,.int .i64 0] 62));go_enter func48,ntmps48;go_wp2_with fail;refine ny (R0 _) fun w1 hb1=>?_;have x1:=hid (x0.out.call hb1);have b1:=qx b0 hb1;clear hb1;go_wp2_with fail;refine (R1 _).out.mono ?_;rintro e w2 ⟨hr,hb2⟩;obtain⟨pm,pa,pn,pc,pa',pn',pc',rfl,h1,-⟩:=hr.open;have hqA:=h1 HQ.out;rw[HQ.out];have ba:=(J4 w2.heap.size w2).alloc nr (.cells #[.bool pm,.slice pa pn pc,.slice pa' pn' pc'] 81);obtain⟨x2,b2,q2,y2⟩:=zc ((x1.out.call hb2).call ba) (a0a (a0a b1.out hb2) ba) (hqA.call ba) (Blk.new w2 #[.bool pm,.slice pa pn pc,.slice pa' pn' pc'] 81);obtain⟨g0,g1,g2⟩:=qz y2.out;clear hr hb2 h1 hqA ba;go_wp2_with fail;refine ny (RS _ _ q2.out) fun w3 hb3=>?_;have x3:=hid (x2.out.call hb3);have b3:=qx b2 hb3;obtain⟨y3,q3⟩:=zu (y2.out.call hb3) (q2.out.call hb3);clear hb3 g0 g1 g2;obtain⟨g0,g1,g2⟩:=qz y3.out;have i0:=qw p
 have i1:(p:Int)<=(b.size:Int):=by omega
 go_wp2_with fail;obtain⟨gA,hgA⟩:=gn (w2.heap.size);rw[hgA]at g0 g1 g2 y3 |-;clear hgA;have KK:Hid (∀ w',Below w3.heap.size w3 w'->w'.cell? ⟨gA,0,none⟩=some (.bool pm)/\w'.cell? ⟨gA,1,none⟩=some (.slice pa pn pc)/\w'.cell? ⟨gA,2,none⟩=some (.slice pa' pn' pc')):=fun w' hb=>by
  have y:=y3.out.call hb;exact⟨y.cell 0,y.cell 1,y.cell 2⟩
 go_region_held3 (fun w'=>w'.cell? ⟨gA,0,none⟩=some (.bool pm)/\w'.cell? ⟨gA,1,none⟩=some (.slice pa pn pc)/\w'.cell? ⟨gA,2,none⟩=some (.slice pa' pn' pc'))
  (first
   | exact KK.out _ br0.drew
   | exact KK.out _ cc.out)
  (first
   | (go_at_call 141;refine ny (RS2 _ _ (q3.out.call br0.drew)) fun w4 hb4=>?_;have cc:=hid (a0a br0.drew hb4)))
 have x4:=hid (x3.out.call cc.out);have b4:=qx b3 cc.out;clear hb4 cc KK g0 g1 g2;rcases HZ.out with ⟨rfl,rfl,rfl,rfl⟩ | ⟨k,q,rfl,hk,hpq,rfl,rfl,rfl⟩
 .have hv:=HVV.out;simp[c1x]at hv;obtain⟨rfl,rfl,rfl⟩:=hv;clear HVV;obtain⟨d0,d1,d2⟩:=qz x4.out;obtain⟨e0,e1,e2⟩:=qq x4.out;go_wp2_with fail;have s3:=((x4.out.set 0 (.bool false)).set 1 (.int .i64 0)).set 2 (.int .i64 (b.size:Nat));obtain⟨f0,f1,f2⟩:=qz s3;refine C7 (v:=.tuple #[.agg #[.bool false,.int .i64 0,.int .i64 (b.size:Nat)],.int .i64 0]) (by simp[results,results48,go_sem,f0,f1,f2]) rfl ⟨rfl,?_⟩;exact ((b4.out.setCell nr _).setCell nr _).setCell nr _
 .have hv:=HVV.out;simp[c1x]at hv;obtain⟨rfl,rfl,rfl⟩:=hv;clear HVV;have w1:IntKind.i64.wrap ((n:Int)-(k:Nat))=(n:Int)-k:=by have:=HNN.out;rw[U0 _ ⟨by omega,by omega⟩]
  have w2:IntKind.i64.wrap ((p:Int)+(q:Nat))=((p+q:Nat):Int):=by have:=HB.out;rw[U0 _ ⟨by omega,by omega⟩];omega
  obtain⟨d0,d1,d2⟩:=qz x4.out;obtain⟨e0,e1,e2⟩:=qq x4.out;go_wp2_with fail;have s3:=((x4.out.set 0 (.bool true)).set 1 (.int .i64 ((n:Int)-(k:Nat)))).set 2 (.int .i64 ((p+q:Nat):Int));obtain⟨f0,f1,f2⟩:=qz s3;simp at f0 f1 f2;refine C7 (v:=.tuple #[.agg #[.bool true,.int .i64 ((n:Int)-(k:Nat)),.int .i64 ((p+q:Nat):Int)],.int .i64 0]) (by simp[results,results48,go_sem,f0,f1,f2]) rfl ⟨rfl,?_⟩;exact ((b4.out.setCell nr _).setCell nr _).setCell nr _
def w0t (w:World)(a b:ByteArray)(ha:a.size<=100000)(hb:b.size<=100000):
 qb 48 #[.string a,.string b] w (.tuple #[d3 (wT a b),.int .i64 (gE a b)]):=by
 by_cases he:gE a b=0
 .obtain⟨e1,e2⟩:=u0v (d0A he).1;have hlt:=(f0d (d0A he).1).2.2.1;have hs:=c0N (d0A he).2;have hl:b.data.toList.length=b.size:=a0A b;unfold wT;rw[J3 he,he,e1,e2];unfold z0T;cases hS:s1 (vQ a).num.natAbs (vQ a).den b.data.toList 0 0 with
  | none=>
   have h:=m0g w a b ha hb he hS;rw[<- hl]at h;exact h
  | some y=>
   obtain⟨n,p⟩:=y;have h2:=o0Z hlt b.data.toList.length 0 0 n p (Nat.zero_le _) (by omega) hS;have hd:=m0c hlt (l:=b.data.toList) (a:=p) (by omega) b.data.toList.length 0 0 (by omega) (by omega);rw[Nat.add_zero]at hd;dsimp only;rw[hd];cases hT:s1 (vQ a).num.natAbs (vQ a).den (b.data.toList.drop p) 0 0 with
   | none=>
    have h:=h0n w a b n p none false 0 (b.size:Nat) ha hs he (by omega) (by omega) hS hT (.inl ⟨rfl,rfl,rfl,rfl⟩);rw[<- hl]at h;exact h
   | some z=>
    obtain⟨k,q⟩:=z;have h3:=o0Z hlt (b.data.toList.drop p).length 0 0 k q (K5 _) (by omega) hT;rw[Af]at h3;exact h0n w a b n p (some (k,q)) true ((n:Int)-k) ((p+q:Nat):Int) ha hs he (by omega) (by omega) hS hT (.inr ⟨k,q,rfl,by omega,by omega,rfl,rfl,rfl⟩)
 .unfold wT;rw[J2 he];exact p0c w a b (by omega) (by omega) he
end
section
variable {g : Int -> Nat} {n : Nat} (hg : ∀ v : Int, v < 0 -> g v = 0) (hz : zS n g <= 2 ^ n)
include hg hz
omit hg hz in
omit hg hz in
end
def f0O (p:ByteArray×ByteArray):Bool:=decide (p.2≠⟨#[48]⟩)
section
def blw (g:Int->Nat)(n:Nat)(j:Int):Nat:=zS n fun y=>if decide (y<j)=true then g y else 0
def l0F (g:Int->Nat)(n:Nat)(j:Int):blw g n j<=zS n g:=z0X fun v _ _=>by split<;>omega
def t0w (g:Int->Nat)(n:Nat)(j:Int):zS n (fun y=>if (!decide (y<j))=true then g y else 0)=zS n g-blw g n j:=by
 have:zS n (fun y=>if (!decide (y<j))=true then g y else 0)+blw g n j=zS n g:=by
  unfold blw;rw[<- w0c];refine b0T fun y _ _=>?_
  by_cases h:y<j
  .rw[Z7 h];simp
  .rw[Z6 h];simp
 omega
def y0N (t:Int)(i k:Nat)(ck:Int):Int->Bool:=fun y=>if k<i then decide (y<t-ck) else if k=i then !decide (y<t-ck) else true
def ps2 (t:Int)(i:Nat):Nat->List Int->List (Int->Bool)
 | _,[]=>[]
 | k,ck::r=>y0N t i k ck::ps2 t i (k+1) r
theorem i0t (t:Int)(i:Nat):∀ (l:List Int) k,(ps2 t i k l).length=l.length
 | [],_=>rfl
 | c::r,k=>by rw[ps2,E8,i0t t i r,E8]
def sq1 (g:Int->Nat)(n:Nat)(t:Int)(i k:Nat)(ck:Int):Nat:=if k<i then blw g n (t-ck) else if k=i then zS n g-blw g n (t-ck) else zS n g
def sqF (g:Int->Nat)(n:Nat)(t:Int)(i:Nat):Nat->List Int->Nat
 | _,[]=>1
 | k,ck::r=>sq1 g n t i k ck*sqF g n t i (k+1) r
def a1u (g:Int->Nat)(n:Nat)(t:Int)(i k:Nat)(ck:Int):zS n (fun y=>if y0N t i k ck y=true then g y else 0)=sq1 g n t i k ck:=by
 unfold y0N sq1;by_cases h1:k<i
 .rw[J3 h1];exact b0T fun y _ _=>by rw[J3 h1]
 .rw[J2 h1];by_cases h2:k=i
  .rw[J3 h2,<- t0w];exact b0T fun y _ _=>by rw[J2 h1,J3 h2]
  .rw[J2 h2];exact b0T fun y _ _=>by rw[J2 h1,J2 h2];rfl
theorem w0h (g:Int->Nat)(n:Nat)(t:Int)(i:Nat):∀ (l:List Int) (k:Nat),pPr n (List.replicate l.length g) (ps2 t i k l)=sqF g n t i k l
 | [],_=>rfl
 | c::r,k=>by rw[E8,Jj,ps2,pPr,sqF,w0h g n t i r,a1u]
def sqT (gA gC:Int->Nat)(n:Nat)(thr:Int)(c:List Int)(i:Nat):Nat:=zS n fun x=>gA x*sqF gC n (thr+x) i 0 c
def f0T (t:Int)(l:List Int):Nat:=l.findIdx fun z=>decide (t<=z)
theorem o0H {t:Int}{i:Nat}:∀ (l xs:List Int) (k:Nat),xs.length=l.length->(v0W (ps2 t i k l) xs=true ↔ ∀ j x ck,l[j]?=some ck->xs[j]?=some x->y0N t i (k+j) ck x=true)
 | [],[],k,_=>by simp[ps2,v0W]
 | c::r,x::xs,k,h=>by
  rw[ps2,v0W,Aa,o0H r xs (k+1) (by simpa using h)]
  constructor
  .rintro⟨h1,h2⟩ j y cy hc hy;cases j with
   | zero=>simp at hc hy;subst hc hy;exact h1
   | succ j=>simp at hc hy;have:=h2 j y cy hc hy;rwa[Nat.add_right_comm]at this
  .intro h1;refine⟨h1 0 x c rfl rfl,fun j y cy hc hy=>?_⟩;have:=h1 (j+1) y cy (by simpa using hc) (by simpa using hy);rwa[Nat.add_right_comm]
def i0v {c xs:List Int}(h:xs.length=c.length):(nzV c xs).length=c.length:=by
 unfold nzV;rw[List.length_zipWith,h,Nat.min_self]
def y0I {c xs:List Int}(h:xs.length=c.length){t:Int}{i:Nat}(hi:i<=c.length):v0W (ps2 t i 0 c) xs=true↔f0T t (nzV c xs)=i:=by
 rw[o0H c xs 0 h];simp only[F9];have hlen:=i0v h;have get:∀ k (hk:k<c.length),(nzV c xs)[k]'(by omega)=c[k]+xs[k]'(by omega):=fun k hk=>by simp[nzV]
 unfold f0T
 constructor
 .intro ha;have hlt:∀ k (hk:k<c.length),k<i->¬ t<=(nzV c xs)[k]'(by omega):=fun k hk hki=>by
   have:=ha k (xs[k]'(by omega)) c[k] (Q0 hk) (Q0 (by omega));unfold y0N at this;rw[J3 hki,Fc]at this;rw[get k hk];omega
  by_cases hc:i=c.length
  .have:(nzV c xs).findIdx (fun z=>decide (t<=z))=(nzV c xs).length:=List.findIdx_eq_length.2 fun z hz=>by
    obtain⟨k,hk,rfl⟩:=Hp hz;exact Z6 (hlt k (by omega) (by omega))
   omega
  .have hic:i<c.length:=by omega
   rw[Mx (by omega)];refine⟨?_,fun j hj=>Z6 (hlt j (by omega) hj)⟩;have:=ha i (xs[i]'(by omega)) c[i] (Q0 hic) (Q0 (by omega));unfold y0N at this;rw[J2 (Hq _),J3 rfl,By,Ac]at this;rw[get i hic];exact Z7 (by omega)
 .intro hf k x ck h1 h2;obtain⟨hk,rfl⟩:=U4.1 h1;obtain⟨hk2,rfl⟩:=U4.1 h2;unfold y0N;by_cases hki:k<i
  .rw[J3 hki];have:=List.not_of_lt_findIdx (p:=fun z=>decide (t<=z)) (xs:=nzV c xs) (i:=k) (by omega);rw[get k hk]at this;have:=Fz (by simpa using this:decide (t<=c[k]+xs[k])=false);exact Z7 (by omega)
  .rw[J2 hki];by_cases he:k=i
   .rw[J3 he];subst he;have hlt:(nzV c xs).findIdx (fun z=>decide (t<=z))<(nzV c xs).length:=by omega
    have:=List.findIdx_getElem (w:=hlt);simp only[hf]at this;rw[get k hk]at this;have:=Am this;simp;omega
   .rw[J2 he]
def sqA (thr:Int)(c:List Int):List Int->Nat
 | x::ys=>f0T (thr+x) (nzV c ys)
 | []=>0
def a1s (gA gC:Int->Nat)(n:Nat)(thr:Int)(c:List Int){i:Nat}(hi:i<=c.length):sqT gA gC n thr c i=vw n (gA::List.replicate c.length gC) (fun xs=>b1 (decide (sqA thr c xs=i))):=by
 unfold sqT;rw[vw];refine b0T fun x _ _=>?_
 rw[<- w0h,<- q0i n _ _ (by rw[Er,i0t])]
 congr 1
 refine e0O fun ys hl _=>?_
 rw[Er]at hl
 congr 1
 rw[Bk,y0I hl hi,Fc];rfl
def s0s (t:Int)(l:List Int):f0T t l<=l.length:=List.findIdx_le_length
def l0V (gA gC:Int->Nat)(n:Nat)(thr:Int)(c:List Int):a0m (sqT gA gC n thr c) (c.length+1)=zS n gA*zS n gC ^ c.length:=by
 rw[a0d (fun i hi=>a1s gA gC n thr c (Oe hi)),<- w0d];have:∀ L,c1z n (List.replicate L gC)=zS n gC ^ L:=fun L=>by
  induction L with
  | zero=>rfl
  | succ L ih=>rw[Jj,k0V,ih,E9,M9]
 rw[<- this,<- k0V];refine e0O fun xs hl _=>?_
 cases xs with
 | nil=>simp at hl
 | cons x ys=>
  simp at hl;have hle:=s0s (thr+x) (nzV c ys);rw[i0v hl]at hle;have hA:sqA thr c (x::ys)=f0T (thr+x) (nzV c ys):=rfl
  rw[hA,a0d (d:=fun i=>if f0T (thr+x) (nzV c ys)=i then 1 else 0) (fun i _=>by
   by_cases e:f0T (thr+x) (nzV c ys)=i
   .rw[J3 e,b1,J3 (Z7 e)]
   .rw[J2 e,b1,J2 (by simpa using e)]),e0T,J3 (by omega)]
def sqO (a r:ByteArray)(thr:Int)(c:List Int):List ByteArray->Option Nat
 | []=>none
 | b::bs=>(nz1 true a thr b).bind fun t=>(nzO true r c bs).map fun l=>f0T t l
def g0p (c:List Int)(thr:Int)(a r:ByteArray):Int:=if ctE c≠0 then ctE c else if d0z thr=true then 2 else if gPE a≠0 then gPE a else gPE r
def fsE (c:List Int)(thr:Int)(a r:ByteArray)(b:List ByteArray):Int:=if g0p c thr a r≠0 then g0p c thr a r else wdE b ((c.length+1:Nat):Int)
def fsV (n:Nat):Option Nat->Int×Bool
 | none=>(0,false)
 | some i=>(if i=n then -1 else (i:Int),true)
def fsA (c:List Int)(thr:Int)(a r:ByteArray)(b:List ByteArray):Int×Bool:=if fsE c thr a r b=0 then fsV c.length (sqO a r thr c b) else (0,false)
def h0d {c:List Int}{thr:Int}{a r:ByteArray}(h:g0p c thr a r=0):ctE c=0/\d0z thr=false/\gPE a=0/\gPE r=0:=by
 unfold g0p at h
 split at h
 .rename_i h1;exact absurd h h1
 .rename_i h1
  split at h
  .cases h
  .rename_i h2
   split at h
   .rename_i h3;exact absurd h h3
   .rename_i h3
    exact⟨Ak h1,by simpa using h2,Ak h3,h⟩
theorem e0N (a b:ByteArray)(hb:b.size<=256) : -256<=(wT a b).2.1/\(wT a b).2.1<=256:=by
 unfold wT
 split
 .rename_i h
  have he:gPE a=0:=by
   unfold gE at h
   split at h
   .rename_i h2;exact absurd h h2
   .rename_i h2;exact Ak h2
  have hl:b.data.toList.length=b.size:=a0A b;obtain⟨u,_,h2⟩:=b1V (b0R he).2 true b.data.toList;have e:z0T (bN (cW a)) (bN (qD a)) b.data.toList=drT (bN (cW a)) (bN (qD a)) true b.data.toList:=rfl;rw[e];rcases h2 with ⟨-,h2⟩ | ⟨v,h3,h4,-,h2⟩
  .rw[h2];simp
  .rw[h2];simp;omega
 .simp
def nzL (r:ByteArray)(c:List Int)(bs:List ByteArray):List Int:=List.zipWith (fun n b=>n+(wT r b).2.1) c bs
def dnL (r:ByteArray)(bs:List ByteArray):Bool:=bs.all fun b=>(wT r b).1
theorem c0X {r:ByteArray}{c:List Int}{bs:List ByteArray}(h:bs.length=c.length):(nzL r c bs).length=c.length:=by unfold nzL;rw[List.length_zipWith,h,Nat.min_self]
def r0M {r:ByteArray}{c:List Int}{bs:List ByteArray}{i:Nat}{n:Int}{b:ByteArray}(h1:c[i]?=some n)(h2:bs[i]?=some b):(nzL r c bs)[i]?=some (n+(wT r b).2.1):=by
 unfold nzL;rw[List.getElem?_zipWith,h1,h2]
theorem m0s {r:ByteArray}:∀ {c:List Int} {bs:List ByteArray},bs.length=c.length->nzO true r c bs=if dnL r bs=true then some (nzL r c bs) else none
 | [],[],_=>rfl
 | n::cs,b::bs,h=>by
  have ih:=m0s (r:=r) (c:=cs) (bs:=bs) (by simpa using h);rw[nzO,ih];unfold nz1;simp only[Ew];unfold dnL nzL;rw[List.all_cons,List.zipWith_cons_cons];by_cases h1:(wT r b).1=true
  .rw[J3 h1,h1,Dn];by_cases h2:(bs.all fun b=>(wT r b).1)=true
   .rw[J3 h2,J3 h2];rfl
   .rw[J2 h2,J2 h2];rfl
  .rw[J2 h1];have h3:(wT r b).1=false:=Gm.2 h1;have h4:((wT r b).1 && bs.all fun b=>(wT r b).1)=false:=by rw[h3,Jd]
   rw[h4];rfl
 | n::cs,[],h=>by simp at h
 | [],b::bs,h=>by simp at h
def nzP (r:ByteArray)(c:List Int)(bs:List ByteArray)(i:Nat):List Int:=(nzL r c bs).take i++c.drop i
def u0T (r:ByteArray)(c:List Int)(bs:List ByteArray):nzP r c bs 0=c:=by unfold nzP;rw[Du,K9,Dq]
def y0p {r:ByteArray}{c:List Int}{bs:List ByteArray}(h:bs.length=c.length):nzP r c bs c.length=nzL r c bs:=by
 unfold nzP;rw[Ou,Cz,E7 (by rw[c0X h];exact O4 _)]
theorem b1d {r:ByteArray}{c:List Int}{bs:List ByteArray}(h:bs.length=c.length){i:Nat}{n:Int}(h1:c[i]?=some n):(nzP r c bs i)[i]?=some n:=by
 have hi:=(U4.1 h1).1;unfold nzP;have hl:((nzL r c bs).take i).length=i:=by rw[Ba,c0X h];omega
 rw[G8 (by omega),hl,Bq,Bm,At,h1]
def Kn:=@Option.toList_some
theorem u0U {r:ByteArray}{c:List Int}{bs:List ByteArray}(h:bs.length=c.length){i:Nat}{n:Int}{b:ByteArray}(h1:c[i]?=some n)(h2:bs[i]?=some b):(nzP r c bs i).set i (n+(wT r b).2.1)=nzP r c bs (i+1):=by
 have hi:=(U4.1 h1).1;unfold nzP;have hl:((nzL r c bs).take i).length=i:=by rw[Ba,c0X h];omega
 rw[List.set_append_right _ _ (by omega),hl,Bq,Cr,r0M h1 h2,Kn,Au,S9 hi,Kg]
 rfl
theorem o0o {r:ByteArray}{bs:List ByteArray}{i:Nat}{b:ByteArray}(h:bs[i]?=some b):dnL r (bs.take (i+1))=(dnL r (bs.take i) && (wT r b).1):=by
 unfold dnL;rw[Cr,h,Kn,List.all_append];simp
def y0q {r:ByteArray}{c:List Int}{bs:List ByteArray}(hc:∀ x∈c,-1125899906842624<=x/\x<=1125899906842624)(hb:∀ b∈bs,b.size<=256):∀ x∈nzL r c bs,-1125899906842880<=x/\x<=1125899906842880:=fun x hx=>by
 obtain⟨i,hi⟩:=Bi hx;unfold nzL at hi;rw[List.getElem?_zipWith]at hi;cases h1:c[i]? with
 | none=>rw[h1]at hi;cases hi
 | some n=>
  cases h2:bs[i]? with
  | none=>rw[h1,h2]at hi;cases hi
  | some b=>
   rw[h1,h2]at hi;cases hi
   have:=hc n (U7 h1);have:=e0N r b (hb b (U7 h2));omega
structure FsOk (c:List Int)(thr:Int)(a r:ByteArray)(b:List ByteArray):Prop where
 pos:1<=c.length
 le:c.length<=256
 rng:∀ x∈c,-1125899906842624<=x/\x<=1125899906842624
 thr : -1125899906842624<=thr/\thr<=1125899906842624
 len:b.length=c.length+1
 b:∀ x∈b,c0D x=0
def n0b {x:Int}(h:d0z x=false) : -1125899906842624<=x/\x<=1125899906842624:=by
 unfold d0z at h;simp at h;omega
def i0k {c:List Int}{thr:Int}{a r:ByteArray}(h:g0p c thr a r=0):1<=c.length/\c.length<=256/\(∀ x∈c,-1125899906842624<=x/\x<=1125899906842624) /\ -1125899906842624<=thr/\thr<=1125899906842624:=by
 obtain⟨h1,h2,-,-⟩:=h0d h;unfold ctE zE at h1
 split at h1
 .cases h1
 rename_i k0
 split at h1
 .cases h1
 rename_i k1
 split at h1
 .cases h1
 rename_i k2
 refine⟨by omega,by omega,fun x hx=>n0b ?_,n0b h2⟩;have k3:c.any d0z=false:=by simpa using k2
 rw[List.any_eq_false]at k3;simpa using k3 x hx
def o0g {c:List Int}{thr:Int}{a r:ByteArray}{b:List ByteArray}(h:fsE c thr a r b=0):FsOk c thr a r b:=by
 have hq:g0p c thr a r=0:=by
  unfold fsE at h
  split at h
  .rename_i h1;exact absurd h h1
  .rename_i h1;exact Ak h1
 have hw:wdE b ((c.length+1:Nat):Int)=0:=by
  unfold fsE at h;rw[J2 (by simpa using hq)]at h;exact h
 obtain⟨q1,q2,q3,q4⟩:=i0k hq;unfold wdE at hw
 split at hw
 .rename_i hl
  exact⟨q1,q2,q3,q4,by omega,o0A.1 hw⟩
 .cases hw
def b1H {c:List Int}{thr:Int}{a r b0:ByteArray}{bs:List ByteArray}(h:fsE c thr a r (b0::bs)=0):
 fsA c thr a r (b0::bs)=if ((wT a b0).1 && dnL r bs)=true then fsV c.length (some (f0T (thr+(wT a b0).2.1) (nzL r c bs))) else (0,false):=by
 have OK:=o0g h;have hl:bs.length=c.length:=by have:=OK.len;rw[E8]at this;omega
 unfold fsA;rw[J3 h,sqO,m0s hl];unfold nz1;simp only[Ew];cases (wT a b0).1
 .simp only[Jd,Bn,Eh];rfl
 .simp only[Dn,Ew];cases dnL r bs
  .simp only[Bn,Eh];rfl
  .simp only[Ew];rfl
def y0J {t:Int}{l:List Int}{i:Nat}{x:Int}(h:l[i]?=some x)(hx:t<=x)(hb:∀ (j:Nat) (y:Int),j<i->l[j]?=some y->¬ t<=y):f0T t l=i:=by
 obtain⟨hi,e⟩:=U4.1 h;unfold f0T;rw[Mx hi];refine⟨by rw[e];exact Z7 hx,fun j hj=>Z6 (hb j _ hj (Q0 (No hj hi)))⟩
def s0r {t:Int}{l:List Int}(hb:∀ (j:Nat) (y:Int),j<l.length->l[j]?=some y->¬ t<=y):f0T t l=l.length:=by
 unfold f0T;rw[List.findIdx_eq_length];intro x hx;obtain⟨j,hj⟩:=Bi hx;exact Z6 (hb j x (U4.1 hj).1 hj)
open Go.Shelf
def d0D (w:World)(v:Value)(c:List Int)(thr:Int)(a r:ByteArray)(hv:Row w v (zs c))(ha:a.size<=1000000)(hr:r.size<=1000000):
 qb 106 #[v,.int .i64 thr,.string a,.string r] w (.int .i64 (g0p c thr a r)):=by
 have HC:=hid (p0h w v c hv);have HA:=fun V=>hid (b0K V a ha)
 have HR:=fun V=>hid (b0K V r hr)
 obtain⟨s,cp,rfl,q1,q2,q3⟩:=hv.openZ;unfold g0p;have hwd:d0z thr=(decide (thr < -1125899906842624) || decide (1125899906842624<thr)):=rfl;obtain⟨z,hz⟩:=gn (ctE c);obtain⟨g,hg⟩:=gn (gPE a);obtain⟨k,hk⟩:=gn (gPE r);obtain⟨p,hp⟩:=gn (decide (thr < -1125899906842624));obtain⟨q,hq⟩:=gn (decide (1125899906842624<thr));rw[hp,hq]at hwd;rw[hwd];rw[hz]at HC |-;rw[hg]at HA |-;rw[hk]at HR |-;clear hv q1 q2 q3 hz hg hk ha hr hwd;by_cases h0:z=0
 focus
  subst h0;rw[J2 (by simp)];cases p
  focus
   cases q
   .rw[J2 (by simp)];by_cases h1:g=0
    .subst h1;rw[J2 (by simp)];go_enter func106,ntmps106;go_wp2_with fail;refine nz HC fun w1 y1=>?_;go_wp2_with fail;refine nw (HA _) y1 fun w2 y2=>?_;go_wp2_with fail;refine nw (HR _) y2 fun w3 y3=>?_;go_wp2_with fail;go_ret
     exact⟨rfl,y3.out⟩
    .have t0:(g==0)=false:=by rw[M5];exact h1
     rw[J3 h1];clear h1;go_enter func106,ntmps106;go_wp2_with fail;refine nz HC fun w1 y1=>?_;go_wp2_with fail;refine nw (HA _) y1 fun w2 y2=>?_;go_wp2_with fail;go_ret
     exact⟨rfl,y2.out⟩
   focus
    rw[J3 (by simp)]
  rotate_left
  focus
   rw[J3 (by simp)];clear hq
 rotate_left 2
 focus
  have t0:(z==0)=false:=by rw[M5];exact h0
  rw[J3 h0];clear h0 hp hq
 all_goals
  go_enter func106,ntmps106;go_wp2_with fail;refine ny HC fun w1 hb1=>?_;go_wp2_with fail;go_ret
  exact⟨rfl,hb1⟩
def d1c {c:List Int}(h:ctE c=0):c.length<=256:=by
 unfold ctE zE at h
 split at h
 .cases h
 split at h
 .cases h
 omega
def fhI (t:Int)(l:List Int):Int:=if f0T t l=l.length then -1 else (f0T t l:Nat)
def h0J (t:Int)(l:List Int)(z:Int):f0T t (l ++ [z])=if f0T t l=l.length then (if t<=z then l.length else l.length+1) else f0T t l:=by
 unfold f0T;rw[List.findIdx_append];by_cases h:l.findIdx (fun z=>decide (t<=z))<l.length
 .rw[J3 h,J2 (by omega)]
 .have:=List.findIdx_le_length (p:=fun z=>decide (t<=z)) (xs:=l);rw[J2 h,J3 (by omega)];by_cases hz:t<=z
  .rw[J3 hz];simp[List.findIdx_cons,hz]
  .rw[J2 hz];simp[List.findIdx_cons,hz];omega
def l0n {t:Int}{l:List Int}{z:Int}(h:¬ fhI t l<0):fhI t (l ++ [z])=fhI t l:=by
 have h1:=s0s t l;unfold fhI at *;rw[h0J,J5,U8]
 split at h
 .omega
 .rename_i h2
  rw[J2 h2,J2 h2,J2 (by omega)]
def l0o {t:Int}{l:List Int}{z:Int}(h:fhI t l<0)(hz:t<=z):fhI t (l ++ [z])=(l.length:Nat):=by
 unfold fhI at *;rw[h0J,J5,U8]
 split at h
 .rename_i h2
  rw[J3 h2,J3 hz,J2 (by omega)]
 .omega
def j0P {t:Int}{l:List Int}{z:Int}(h:fhI t l<0)(hz:¬ t<=z):fhI t (l ++ [z])=fhI t l:=by
 unfold fhI at *;rw[h0J,J5,U8]
 split at h
 .rename_i h2
  rw[J3 h2,J2 hz,J3 rfl,J3 h2]
 .omega
def Ko:=@Option.map_some
def r0k (w:World)(v u:Value)(c:List Int)(thr:Int)(a r:ByteArray)(b:List ByteArray)(hv:Row w v (zs c))(hu:Row w u (i0i b))(ha:a.size<=100000)(hr:r.size<=100000)(hb:∀ x∈b,x.size<=100000000):
 qb 30 #[v,.int .i64 thr,.string a,.string r,u] w (.tuple #[.int .i64 (fsA c thr a r b).1,.bool (fsA c thr a r b).2,.int .i64 (fsE c thr a r b)]):=by
 have HQ:=hid (d0D w v c thr a r hv (by omega) (by omega));have HS:=fun V h=>hid (m0j V u b ((c.length+1:Nat):Int) h hb)
 obtain⟨HV,HU⟩:=zu hv hu;obtain⟨s,cp,rfl,q1,q2,q3⟩:=hv.openZ;obtain⟨t,cq,rfl,p1,p2,p3⟩:=hu.openS;obtain⟨n,hn⟩:=gn (c.length);obtain⟨n2,hn2⟩:=gn (b.length);by_cases h0:g0p c thr a r=0
 case neg=>
  have e1:fsE c thr a r b=g0p c thr a r:=by unfold fsE;rw[J3 h0]
  have e2:fsA c thr a r b=(0,false):=by unfold fsA;rw[J2 (by rw[e1];exact h0)]
  rw[e1,e2];obtain⟨z,hz⟩:=gn (g0p c thr a r);rw[hz]at HQ h0 |-;rw[hn]at HQ |-;rw[hn2];have t0:(z==0)=false:=by rw[M5];exact h0
  clear hv hu q3 p3 HS HV HU e1 e2 hz hn hn2 h0;go_enter func30,ntmps30;go_wp2_with fail;refine ny HQ fun w1 hb1=>?_;go_wp2_with fail
  go_ret3
  exact⟨rfl,hb1⟩
 have hcl:=d1c (h0d h0).1;have wi1:=qy n (by omega)
 by_cases h1:wdE b ((c.length+1:Nat):Int)=0
 case neg=>
  have e1:fsE c thr a r b=wdE b ((c.length+1:Nat):Int):=by unfold fsE;rw[J2 (by rw[h0];simp)]
  have e2:fsA c thr a r b=(0,false):=by unfold fsA;rw[J2 (by rw[e1];exact h1)]
  rw[e1,e2];rw[h0]at HQ;obtain⟨z,hz⟩:=gn (wdE b ((c.length+1:Nat):Int));rw[hz]at HS h1 |-;rw[hn]at HQ HS |-;rw[hn2]at HU |-;simp only[hn2]at HS;have t0:(z==0)=false:=by rw[M5];exact h1
  clear hv hu q3 p3 HV e1 e2 hz hn hn2 h0 h1 hcl;go_enter func30,ntmps30;go_wp2_with fail;refine nz HQ fun w1 y1=>?_;go_wp2_with fail;refine nw (HS _ (HU.out.call y1.out)) y1 fun w2 y2=>?_;go_wp2_with fail
  go_ret3
  exact⟨rfl,y2.out⟩
 have e1:fsE c thr a r b=0:=by unfold fsE;rw[J2 (by rw[h0];simp)];exact h1
 have OK:=o0g e1;obtain⟨b0,bs,rfl⟩:∃ b0 bs,b=b0::bs:=by
  cases b with
  | nil=>exact absurd OK.len (by simp)
  | cons b0 bs=>exact⟨b0,bs,rfl⟩
 have hbl:bs.length=c.length:=by have:=OK.len;simpa using this
 have c0:=OK.b b0 (by simp);have s0:=c0N c0;have hvx:=e0N a b0 s0;have hthr:=OK.thr;have NL:=hid (y0q (r:=r) OK.rng (fun x hx=>c0N (OK.b x (Br _ hx))));have e2:fsA c thr a r (b0::bs)=fsV c.length ((nz1 true a thr b0).bind fun t=>(nzO true r c bs).map fun l=>f0T t l):=by unfold fsA;rw[J3 e1];rfl
 rw[m0s hbl]at e2;have hz1:nz1 true a thr b0=if (wT a b0).1=true then some (thr+(wT a b0).2.1) else none:=by unfold nz1;simp only[Ew]
 rw[hz1]at e2;have PX:=fun V=>hid (w0t V a b0 ha (by omega))
 obtain⟨tt,ht⟩:=gn (wT a b0);obtain⟨ge,hge⟩:=gn (gE a b0);rw[ht]at PX hvx e2;rw[hge]at PX;obtain⟨d,xv,xu⟩:=tt;simp only[d3]at PX;dsimp only at hvx e2;obtain⟨L,hLL⟩:=gn (nzL r c bs);obtain⟨R,hR⟩:=gn (fsA c thr a r (b0::bs));have hLn:L.length=n:=by rw[<- hLL,c0X hbl,hn]
 obtain⟨T,hT⟩:=gn (thr+xv);rw[hT,hLL]at e2;rw[hR]at e2 |-;rw[e1];rw[h0]at HQ;rw[h1]at HS;obtain⟨g2,o2,rfl,hg2,hc2⟩:=p3 0 b0 rfl;have wT':IntKind.i64.wrap (thr+xv)=T:=by rw[<- hT,U0 _ ⟨by omega,by omega⟩]
 obtain⟨HOK,HR,Q3,P3,HN,HRR,HBL,HLL,HLN⟩:=kw OK e2 q3 p3 hn hr hbl hLL hLn;have HNL:=NL;have H0:w.cell? ⟨g2,o2,none⟩=some (.string b0):=by simpa using hc2
 obtain rfl:n2=n+1:=by rw[<- hn2,E8,hbl,hn]
 rw[hn]at HQ HS HV |-;rw[hn2]at HU p1 |-;simp only[hn2]at HS;have C0:=hid H0;clear hv hu q3 p3 hn hn2 h0 h1 e1 e2 hR hT OK ha hb hbl hLL hLn NL hz1 ht hge c0 s0 hcl hr hc2 H0 hthr;go_enter func30,ntmps30;go_wp2_with fail;refine nz HQ fun w1 y1=>?_;go_wp2_with fail;refine nw (HS _ (HU.out.call y1.out)) y1 fun w2 y2=>?_;have k0:=(y2.out.cell (a0e C0.out)).trans C0.out;have bz':(0:Int)<(n:Int)+1:=by omega
 go_wp2_with fail;refine nw (PX _) y2 fun w3 y3=>?_;clear k0 bz';obtain⟨X3,y4⟩:=zu (Blk.new w3 #[.bool d,.int .i64 xv,.int .i64 xu] 62) (y3.out.alloc y3.out.size (.cells #[.bool d,.int .i64 xv,.int .i64 xu] 62));have r0:=X3.out.cell 0;simp at r0;go_wp2_with fail;go_quiet (fail)
 obtain⟨W4,hW4⟩:=gn (w3.alloc (.cells #[.bool d,.int .i64 xv,.int .i64 xu] 62));rw[hW4]at X3 y4 |-;clear hW4 r0;have HF0:Hid (fhI T (L.take 0) = -1):=by show _=_;unfold fhI f0T;simp
 have HD0:Hid ((d && dnL r (bs.take 0))=d):=by show _=_;unfold dnL;simp
 go_wp2_with fail
 go_loopw [17,18,19,20,21] (fun s17 s18 s19 s20 s21 wr=>∃ (i:Nat),s17=.int .i64 (fhI T (L.take i))/\s18=.bool (d && dnL r (bs.take i))/\s19=.int .i64 (i:Nat)/\i<=n/\Hid (Below W4.heap.size W4 wr)) (fun s17 s18 s19 s20 s21 wr=>n-(intOf s19).toNat)
 case atStart=>exact⟨0,by rw[HF0.out],by rw[HD0.out],rfl,K5 _,by first | exact hid br0.drew | exact hid (a0k br0 _) | exact hid br0⟩
 case round=>
  clear HF0 HD0;obtain⟨i,rfl,rfl,rfl,hi,hB⟩:=hrel;have Y:=hid (y4.out.trans (hB.out.mono y4.out.size));by_cases hlt:i<n
  .obtain⟨x,hx⟩:∃ x,c[i]?=some x:=⟨_,Q0 (by rw[HN.out];exact hlt)⟩;obtain⟨y,hy⟩:∃ y,bs[i]?=some y:=⟨_,Q0 (by rw[HBL.out,HN.out];exact hlt)⟩;obtain⟨g,o,rfl,hg,hc⟩:=Q3.out i x hx;obtain⟨g',o',e,hg',hc2⟩:=P3.out (i+1) y hy;simp only[Az,Hs]at e;obtain⟨rfl,rfl,-⟩:=e;have c1:=(Y.out.cell (p:=⟨g,o+i,none⟩) hg).trans hc;have c2:=(Y.out.cell (p:=⟨g2,o2+(i+1),none⟩) hg').trans hc2;have hch:=HOK.out.b y (Br _ (U7 hy));have hsz:=c0N hch;have hLi:L[i]?=some (x+(wT r y).2.1):=by rw[<- HLL.out];exact r0M hx hy
   have hrng:=HNL.out _ (U7 (by rw[HLL.out];exact hLi));have PO:=fun V=>hid (w0t V r y HRR.out (by omega))
   have hvb:=e0N r y hsz;have hdn:=o0o (r:=r) hy;have hL1:L.take (i+1)=L.take i ++ [x+(wT r y).2.1]:=by rw[Cr,hLi];rfl
   have hLt:(L.take i).length=i:=by rw[Ba,HLN.out];omega
   obtain⟨tt,ht⟩:=gn (wT r y);obtain⟨gf,hgf⟩:=gn (gE r y);rw[ht]at PO hvb hdn hL1 hrng;rw[hgf]at PO;obtain⟨dy,vv,uu⟩:=tt;simp only[d3]at PO;dsimp only at hvb hdn hL1 hrng;obtain⟨F,hF⟩:=gn (fhI T (L.take i));obtain⟨ok,hok⟩:=gn ((d && dnL r (bs.take i)));have HON:Hid ((d && dnL r (bs.take (i+1)))=(ok && dy)):=by show _=_;rw[hdn,<- hok,Bool.and_assoc]
   have HFN:Hid (fhI T (L.take (i+1))=fhI T (L.take i ++ [x+vv])):=by show _=_;rw[hL1]
   obtain⟨HFF,HLT⟩:=zu hF hLt;rw[hF,hok];have b1:=qw i
   have b2:(i:Int)<(n:Int):=by omega
   have b3:(i:Int)+1<(n:Int)+1:=by omega
   have b4:(0:Int)<=(i:Int)+1:=by omega
   have et:((i:Int)+1).toNat=i+1:=by omega
   have hn256:n<=1000:=by have:=HOK.out.le;rw[HN.out]at this;omega
   have wi:IntKind.i64.wrap ((i:Int)+1)=(i:Int)+1:=by rw[U0 _ ⟨by omega,by omega⟩]
   have ew:IntKind.i64.wrap (x+vv)=x+vv:=by rw[U0 _ ⟨by omega,by omega⟩]
   have C1:=hid c1;clear hx hy hc hc2 hch hsz hvb hdn hL1 hLt hLi hrng ht hgf c1 hg hg' hF hok hn256;go_wp2_with fail;refine ny (PO _) fun w5 hb5=>?_;have y5:=qx hB hb5;have D1:=hid ((hb5.cell (a0e C1.out)).trans C1.out);clear hb5 c2;have S5:=hid ((J4 w5.heap.size w5).alloc nr (.cells #[.bool dy,.int .i64 vv,.int .i64 uu] 62));have y6:=qx y5 S5.out;have x1:=(X3.out.call y6.out).cell 1;have c1:=(S5.out.cell (a0e D1.out)).trans D1.out;simp at x1;cases ok
   all_goals
    by_cases hF0:F<0
    focus
     have q1:decide (F<0)=true:=Z7 hF0;by_cases hh:T<=x+vv
     focus
      have q2:decide (T<=x+vv)=true:=Z7 hh;have E1:Hid (fhI T (L.take i ++ [x+vv])=(i:Nat)):=by show _=_;rw[l0o (by rw[HFF.out];exact hF0) hh,HLT.out]
      clear hF0 hh
     rotate_left
     focus
      have q2:decide (T<=x+vv)=false:=Z6 hh;have E1:Hid (fhI T (L.take i ++ [x+vv])=F):=by show _=_;rw[j0P (by rw[HFF.out];exact hF0) hh,HFF.out]
      clear hF0 hh
    rotate_left 2
    focus
     have q1:decide (F<0)=false:=Z6 hF0;have E1:Hid (fhI T (L.take i ++ [x+vv])=F):=by show _=_;rw[l0n (by rw[HFF.out];exact hF0),HFF.out]
     clear hF0
    all_goals
     go_wp2_with fail;go_quiet (fail)
     go_wp2_with fail;go_roundw
     case rel=>exact⟨i+1,by rw[HFN.out,E1.out],by rw[HON.out];rfl,by go_num,by omega,hid (a0k y6.out _)⟩
     case measure=>simp[intOf]<;>omega
  .obtain rfl:i=n:=by omega
   have HE:Hid ((d && dnL r (bs.take i))=true->R=(fhI T (L.take i),true)):=fun h=>by
    rw[HR.out,E7 (by rw[HLN.out];exact O4 _)];rw[E7 (by rw[HBL.out,HN.out];exact O4 _)]at h;simp only[Aa]at h;rw[J3 h.1,Ht,J3 h.2,Ko,HN.out];unfold fsV fhI;rw[HLN.out]
   have HE2:Hid ((d && dnL r (bs.take i))=false->R=(0,false)):=fun h=>by
    rw[HR.out];rw[E7 (by rw[HBL.out,HN.out];exact O4 _)]at h;cases d
    .rfl
    .have h2:dnL r bs=false:=by simpa using h
     rw[J3 rfl,Ht,h2]
     rfl
   obtain⟨ok,hok⟩:=gn ((d && dnL r (bs.take i)));obtain⟨F,hF⟩:=gn (fhI T (L.take i));rw[hok]at HE HE2 |-;rw[hF]at HE |-;clear hlt hok hF;cases ok
   .have e9:=hid (HE2.out rfl);go_wp2_with fail
    go_ret3
    exact⟨by rw[e9.out];rfl,Y.out⟩
   .have e9:=hid (HE.out rfl);go_wp2_with fail
    go_ret3
    exact⟨by rw[e9.out];rfl,Y.out⟩
end
def sqB (g:Int->Nat)(n:Nat)(t:Int)(c:List Int):Nat->Nat
 | 0=>1
 | i+1=>sqB g n t c i*blw g n (t-c.getD i 0)
theorem n0n (g:Int->Nat)(n:Nat)(t:Int)(i:Nat):∀ (l:List Int) (k:Nat),i<k->sqF g n t i k l=zS n g ^ l.length
 | [],_,_=>rfl
 | c::r,k,h=>by
  rw[sqF,n0n g n t i r (k+1) (by omega),sq1,J2 (by omega),J2 (by omega),E8,E9,M9]
theorem q0D (g:Int->Nat)(n:Nat)(t:Int)(i:Nat)(c:List Int):∀ m k,k+m=i->i<=c.length->sqB g n t c k*sqF g n t i k (c.drop k)=sqB g n t c i*sqF g n t i i (c.drop i)
 | 0,k,h,_=>by
  obtain rfl:k=i:=by omega
  rfl
 | m+1,k,h,hi=>by
  have hk:k<c.length:=by omega
  have hd:c.getD k 0=c[k]:=by rw[Z3,Q0 hk];rfl
  rw[<- q0D g n t i c m (k+1) (by omega) hi,S9 hk,sqF,sq1,J3 (by omega),sqB,<- hd,A9]
def x0r (g:Int->Nat)(n:Nat)(t:Int)(c:List Int):sqF g n t c.length 0 c=sqB g n t c c.length:=by
 have h:=q0D g n t c.length c c.length 0 (by omega) nr;rw[Ou,sqF,Dr]at h;rw[<- h,sqB,Hn];rfl
def q0C (g:Int->Nat)(n:Nat)(t:Int){c:List Int}{i:Nat}(hi:i<c.length):sqF g n t i 0 c=sqB g n t c i*(zS n g-blw g n (t-c.getD i 0))*zS n g ^ (c.length-1-i):=by
 have h:=q0D g n t i c i 0 (by omega) (by omega);have hd:c.getD i 0=c[i]:=by rw[Z3,Q0 hi];rfl
 rw[S9 hi,sqF,sq1,J2 (by omega),J3 rfl,n0n g n t i (c.drop (i+1)) (i+1) (by omega),Af,sqB,Hn]at h;rw[A9,hd,show c.length-1-i=c.length-(i+1) by omega,<- h];rfl
def Fu:=@Nat.mul_succ
theorem q0E {g:Int->Nat}{n:Nat}(hz:zS n g<=2 ^ n)(t:Int)(c:List Int):∀ i,sqB g n t c i<=2 ^ (n*i)
 | 0=>by rw[Gf];exact O4 _
 | i+1=>by
  rw[sqB,Fu,Be];exact Ar (q0E hz t c i) (J0 (l0F g n _) hz)
def g0T {g:Int->Nat}{n:Nat}(hz:zS n g<=2 ^ n)(i:Nat):zS n g ^ i<=2 ^ (n*i):=by
 rw[Mr];exact Jm hz i
def sV (f:Int->Nat)(l:List Int):Nat:=(l.map f).sum
def w0q (f:Int->Nat):sV f []=0:=rfl
def Kq:=@List.sum_append
def j0e {f:Int->Nat}{l:List Int}{i:Nat}{v:Int}(h:l[i]?=some v):sV f (l.take (i+1))=sV f (l.take i)+f v:=by
 unfold sV;rw[Cr,h,Kn,Ay,Kq];simp
def a1C {f:Int->Nat}{l:List Int}(i:Nat):sV f (l.take i)<=sV f l:=by
 have e:sV f l=sV f (l.take i)+sV f (l.drop i):=by
  conv=>lhs;rw[<- Ej i l]
  unfold sV;rw[Ay,Kq]
 omega
def x0D {f:Int->Nat}{l m:List Int}(h:l.Perm m):sV f l=sV f m:=(h.map f).sum_nat
def q0c (g:Int->Nat)(n:Nat)(l:List Int):Prop:=∀ f:Int->Nat,(∀ v,g v=0->f v=0)->sV f l=zS n f
section
variable {gA gC : Int -> Nat} {n : Nat} {kA kC : List Int} (hA : zS n gA <= 2 ^ n) (hC : zS n gC <= 2 ^ n) (rA : q0c gA n kA) (rC : q0c gC n kC)
def buV (g:Int->Nat)(most:Int)(v:Int):Nat:=if v<most then g v else 0
def k0f (g:Int->Nat)(k:List Int)(most:Int)(j:Nat):Nat:=sV (buV g most) (k.take j)
theorem w0Y {g:Int->Nat}{k:List Int}(r:q0c g n k)(most:Int):k0f g k most k.length=blw g n most:=by
 unfold k0f;rw[Ei,r (buV g most) (fun v h=>by unfold buV;rw[h];split<;>rfl)];unfold blw;refine b0T fun y _ _=>?_
 unfold buV;by_cases h:y<most
 .rw[J3 h,J3 (Z7 h)]
 .rw[J2 h,J2 (by simpa using h)]
theorem d1g {g:Int->Nat}{k:List Int}(hz:zS n g<=2 ^ n)(r:q0c g n k)(most:Int)(j:Nat):k0f g k most j<=2 ^ n:=by
 have h:=w0Y r most;unfold k0f at h;rw[Ei]at h;have h1:=a1C (f:=buV g most) (l:=k) j;have h2:=l0F g n most;unfold k0f;omega
theorem z0J {g:Int->Nat}{k:List Int}(hz:zS n g<=2 ^ n)(r:q0c g n k){j:Nat}{v most:Int}(h:k[j]?=some v)(hv:v<most)(hn:n<=1000):b0D (· + ·) (dyB (k0f g k most j) n) (dyB (g v) n)=dyB (k0f g k most (j+1)) n:=by
 have e:k0f g k most (j+1)=k0f g k most j+g v:=by
  have:=j0e (f:=buV g most) h;unfold k0f;rw[this];unfold buV;rw[J3 hv]
 have:=d1g hz r most (j+1);rw[e,s0R (by omega) hn]
theorem z0I {g:Int->Nat}{k:List Int}{j:Nat}{v most:Int}(h:k[j]?=some v)(hv:¬ v<most):k0f g k most (j+1)=k0f g k most j:=by
 have:=j0e (f:=buV g most) h;unfold k0f;rw[this];unfold buV;rw[J2 hv];rfl
theorem u0a {i:Nat}(hC:zS n gC<=2 ^ n)(hm:n*(i+1)<=1000):b0D (· * ·) (dyB (zS n gC ^ i) (n*i)) (dyB (zS n gC) n)=dyB (zS n gC ^ (i+1)) (n*(i+1)):=by
 rw[l0u (g0T hC i) hC (by rw[Fu]at hm;exact hm),E9,Fu]
def sqP (gA gC:Int->Nat)(n:Nat)(thr x:Int)(c:List Int)(i:Nat):Nat:=gA x*sqB gC n (thr+x) c i
theorem q0A (hA:zS n gA<=2 ^ n)(hC:zS n gC<=2 ^ n)(hx:∀ x,gA x<=2 ^ n)(thr x:Int)(c:List Int)(i:Nat):sqP gA gC n thr x c i<=2 ^ (n*(i+1)):=by
 unfold sqP;rw[Fu,Ha,Be];exact Ar (hx x) (q0E hC _ _ _)
theorem t0Y (hA:zS n gA<=2 ^ n)(hC:zS n gC<=2 ^ n)(hx:∀ x,gA x<=2 ^ n)(thr x:Int)(c:List Int){i:Nat}(hm:n*(i+2)<=1000):
 b0D (· * ·) (dyB (sqP gA gC n thr x c i) (n*(i+1))) (dyB (blw gC n (thr+x-c.getD i 0)) n)=dyB (sqP gA gC n thr x c (i+1)) (n*(i+2)):=by
 rw[l0u (q0A hA hC hx thr x c i) (J0 (l0F gC n _) hC) (by rw[Fu]at hm;exact hm)];unfold sqP;rw[sqB,A9,show n*(i+1)+n=n*(i+2) from (Fu n (i+1)).symm]
theorem a1r (hA:zS n gA<=2 ^ n)(hC:zS n gC<=2 ^ n)(hx:∀ x,gA x<=2 ^ n)(thr x:Int){c:List Int}{i:Nat}(hi:i<c.length)(hm:n*(c.length+1)<=1000):
 b0D (· * ·) (b0D (· * ·) (dyB (sqP gA gC n thr x c i) (n*(i+1))) (b0D (· - ·) (dyB (zS n gC) n) (dyB (blw gC n (thr+x-c.getD i 0)) n))) (dyB (zS n gC ^ (c.length-1-i)) (n*(c.length-1-i)))=dyB (gA x*sqF gC n (thr+x) i 0 c) (n*(c.length+1)):=by
 have b1:=l0F gC n (thr+x-c.getD i 0);have e0:n*(i+1)+n+n*(c.length-1-i)=n*(c.length+1):=by
  rw[<- Fu,<- Al];congr 1;omega
 have m1:n*(i+1)+n<=1000:=by omega
 have l1:sqP gA gC n thr x c i*(zS n gC-blw gC n (thr+x-c.getD i 0))<=2 ^ (n*(i+1)+n):=by
  rw[Be];exact Ar (q0A hA hC hx thr x c i) (J0 (Hv _ _) hC)
 rw[w0R hC b1 (by omega),l0u (q0A hA hC hx thr x c i) (J0 (Hv _ _) hC) m1,l0u l1 (g0T hC _) (by omega),e0,q0C gC n _ hi];unfold sqP
 congr 1
 rw[A9,A9,A9]
def sqS (gA gC:Int->Nat)(n:Nat)(thr:Int)(c:List Int)(k:List Int)(i j:Nat):Nat:=sV (fun x=>gA x*sqF gC n (thr+x) i 0 c) (k.take j)
theorem l0W (rA:q0c gA n kA)(thr:Int)(c:List Int)(i:Nat):sqS gA gC n thr c kA i kA.length=sqT gA gC n thr c i:=by
 unfold sqS sqT;rw[Ei];exact rA _ fun v h=>by rw[h,Hi]
theorem a1t (hA:zS n gA<=2 ^ n)(hC:zS n gC<=2 ^ n)(thr:Int)(c:List Int){i:Nat}(hi:i<=c.length):sqT gA gC n thr c i<=2 ^ (n*(c.length+1)):=by
 have h1:=l0V gA gC n thr c;have h2:=q0v (f:=sqT gA gC n thr c) (i:=i) (n:=c.length+1) (by omega);have h3:zS n gA*zS n gC ^ c.length<=2 ^ n*2 ^ (n*c.length):=Ar hA (g0T hC _);rw[Fu,Ha,Be];omega
theorem w0g (hA:zS n gA<=2 ^ n)(hC:zS n gC<=2 ^ n)(rA:q0c gA n kA)(thr:Int)(c:List Int){i:Nat}(hi:i<=c.length)(j:Nat):sqS gA gC n thr c kA i j<=2 ^ (n*(c.length+1)):=by
 have h:=l0W (gC:=gC) rA thr c i;unfold sqS at h;rw[Ei]at h;have h1:=a1C (f:=fun x=>gA x*sqF gC n (thr+x) i 0 c) (l:=kA) j;have h2:=a1t hA hC thr c hi;unfold sqS;omega
theorem q0x (hA:zS n gA<=2 ^ n)(hC:zS n gC<=2 ^ n)(rA:q0c gA n kA)(thr:Int){c:List Int}{i j:Nat}{x:Int}(hi:i<=c.length)(h:kA[j]?=some x)(hm:n*(c.length+1)<=1000):
 b0D (· + ·) (dyB (sqS gA gC n thr c kA i j) (n*(c.length+1))) (dyB (gA x*sqF gC n (thr+x) i 0 c) (n*(c.length+1)))=dyB (sqS gA gC n thr c kA i (j+1)) (n*(c.length+1)):=by
 have e:sqS gA gC n thr c kA i (j+1)=sqS gA gC n thr c kA i j+gA x*sqF gC n (thr+x) i 0 c:=j0e h;have:=w0g (gC:=gC) hA hC rA thr c hi (j+1);rw[e,s0R (by omega) hm]
theorem q0B (thr x:Int)(c:List Int):sqP gA gC n thr x c c.length=gA x*sqF gC n (thr+x) c.length 0 c:=by
 unfold sqP;rw[x0r]
def sqL (gA gC:Int->Nat)(n L:Nat):Nat:=2 ^ (n*(L+1))-zS n gA*zS n gC ^ L
theorem x0q (hA:zS n gA<=2 ^ n)(hC:zS n gC<=2 ^ n){L:Nat}(hm:n*(L+1)<=1000):b0D (· - ·) ⟨#[49]⟩ (b0D (· * ·) (dyB (zS n gA) n) (dyB (zS n gC ^ L) (n*L)))=dyB (sqL gA gC n L) (n*(L+1)):=by
 have e:n+n*L=n*(L+1):=by rw[Fu,Ha]
 have h:zS n gA*zS n gC ^ L<=2 ^ (n*(L+1)):=by
  rw[<- e,Be];exact Ar hA (g0T hC L)
 rw[l0u hA (g0T hC L) (by omega),e,<- s0Q (n*(L+1)),w0R nr h hm];rfl
end
def m1B:ByteArray:=⟨#[45,49]⟩
def c0v (gA gC:Int->Nat)(n:Nat)(thr:Int)(c:List Int)(i:Nat):List (ByteArray×ByteArray):=(List.range i).map fun k=>(a0f k,dyB (sqT gA gC n thr c k) (n*(c.length+1)))
def f0I (gA gC:Int->Nat)(n:Nat)(thr:Int)(c:List Int)(i:Nat):c0v gA gC n thr c (i+1)=c0v gA gC n thr c i ++ [(a0f i,dyB (sqT gA gC n thr c i) (n*(c.length+1)))]:=by
 unfold c0v;rw[My,Ay];rfl
def g0c (gA gC:Int->Nat)(n:Nat)(thr:Int)(c:List Int)(i:Nat):(c0v gA gC n thr c i).length=i:=by simp[c0v]
def sqW (gA gC:Int->Nat)(n:Nat)(thr:Int)(c:List Int)(i:Nat):List (ByteArray×ByteArray):=
 [(m1B,dyB (sqT gA gC n thr c c.length) (n*(c.length+1))),(b0d,dyB (sqL gA gC n c.length) (n*(c.length+1)))]++c0v gA gC n thr c i
def u0b (gA gC:Int->Nat)(n:Nat)(thr:Int)(c:List Int)(i:Nat):sqW gA gC n thr c (i+1)=sqW gA gC n thr c i ++ [(a0f i,dyB (sqT gA gC n thr c i) (n*(c.length+1)))]:=by
 unfold sqW;rw[f0I,Au]
def sqD (gA gC:Int->Nat)(n:Nat)(thr:Int)(c:List Int):List (ByteArray×ByteArray):=(sqW gA gC n thr c c.length).filter f0O
def q0z (gA gC:Int->Nat)(n:Nat)(thr:Int)(c:List Int):((sqW gA gC n thr c c.length).map b0t).Nodup:=by
 unfold sqW c0v;rw[Ay,List.map_map];have hm:∀ k:Nat,∀ r:ByteArray,b0t (m1B,r)≠b0t (a0f k,r):=fun k r e=>by
  have e1:zB (-1)=a0f k:=Kc (Array.ext' (by
   have:b0t (m1B,r)=(zB (-1)).data.toList:=show m1B.data.toList=(zB (-1)).data.toList from by decide +kernel
   rw[<- this];exact e))
  rw[<- n0a]at e1;have:=g0U e1;omega
 have hl:∀ k:Nat,(a0f k).data.toList≠b0d.data.toList:=fun k=>by
  have:=e0t (k:Int);rw[n0a]at this;exact this
 refine Gn.2 ⟨show [m1B.data.toList,b0d.data.toList].Nodup from by decide +kernel,?_,?_⟩
 .rw[List.Nodup,List.pairwise_map];refine List.nodup_range.imp fun {a b} hab e=>hab ?_
  simp only[Function.comp,b0t,a0t]at e;exact d0t e
 .intro a ha b hb e;subst e;simp only[Gi,Function.comp]at hb;obtain⟨k,_,rfl⟩:=hb;simp only[Kj,List.map_nil,Ck,List.not_mem_nil,or_false]at ha;rcases ha with h | h
  .exact hm k ⟨#[]⟩ h.symm
  .exact hl k h
def w0i (gA gC:Int->Nat)(n:Nat)(thr:Int)(c:List Int):((sqD gA gC n thr c).map b0t).Nodup:=(List.filter_sublist.map b0t).nodup (q0z gA gC n thr c)
end Go.Proofs.YtfkpfpobmobnbaaGreatDoor
namespace Go.Proofs
open Go.Shelf
def Tryz.sortMW_ren:Go.Shelf.Ren:=⟨fun | 14=>167 | 20=>231 | 21=>232 | 22=>233 | 23=>234 | 24=>235 | 25=>236 | 26=>237 | 27=>238 | 46=>299 | 47=>300 | 48=>301 | 49=>302 | 50=>303 | 15=>168 | 57=>335 | 28=>239 | 29=>240 | n=>n,fun | 24=>42 | 22=>36 | 3=>3 | 25=>77 | 4=>4 | 0=>0 | 46=>217 | 45=>216 | 50=>221 | 66=>288 | 39=>174 | 55=>161 | 70=>292 | 76=>321 | 77=>95 | 53=>224 | 5=>5 | 9=>9 | n=>n,fun | n=>n⟩
theorem Tryz.sortMW:Go.Proofs.SlLaysF0.n14 Tryz.prog Tryz.sortMW_ren:={
 mixed:=by kernel_rfl
 f14:=⟨Tryz.f167.name,by decide,Tryz.func167.trans (congrArg some (by kernel_rfl))⟩
 f15:=qj Tryz.func168 (by kernel_rfl)
 f20:=⟨Tryz.f231.name,by decide,Tryz.func231.trans (congrArg some (by kernel_rfl))⟩
 f21:=⟨Tryz.f232.name,by decide,Tryz.func232.trans (congrArg some (by kernel_rfl))⟩
 f22:=⟨Tryz.f233.name,by decide,Tryz.func233.trans (congrArg some (by kernel_rfl))⟩
 f23:=⟨Tryz.f234.name,by decide,Tryz.func234.trans (congrArg some (by kernel_rfl))⟩
 f24:=⟨Tryz.f235.name,by decide,Tryz.func235.trans (congrArg some (by kernel_rfl))⟩
 f25:=⟨Tryz.f236.name,by decide,Tryz.func236.trans (congrArg some (by kernel_rfl))⟩
 f26:=⟨Tryz.f237.name,by decide,Tryz.func237.trans (congrArg some (by kernel_rfl))⟩
 f27:=⟨Tryz.f238.name,by decide,Tryz.func238.trans (congrArg some (by kernel_rfl))⟩
 f28:=qj Tryz.func239 (by kernel_rfl)
 f29:=qj Jq (by kernel_rfl)
 f46:=⟨Tryz.f299.name,by decide,Tryz.func299.trans (congrArg some (by kernel_rfl))⟩
 f47:=qj Tryz.func300 (by kernel_rfl)
 f48:=qj Tryz.func301 (by kernel_rfl)
 f49:=⟨Tryz.f302.name,by decide,Tryz.func302.trans (congrArg some (by kernel_rfl))⟩
 f50:=⟨Tryz.f303.name,by decide,Tryz.func303.trans (congrArg some (by kernel_rfl))⟩
 f57:=⟨Tryz.f335.name,by decide,Tryz.func335.trans (congrArg some (by kernel_rfl))⟩
 t0:=Eg
 a0:=Hl
 z0:=Gv
 v0:=Ez
 t3:=H9
 a3:=Ff
 z3:=Ec
 v3:=Cn
 t4:=Bf
 a4:=Fg
 z4:=El
 v4:=Co
 t5:=Bx
 a5:=Gq
 z5:=Fr
 v5:=Do
 t9:=Ax
 a9:=Fh
 z9:=Em
 v9:=Cp
 t22:=Tryz.underlying36
 a22:=Tryz.isAgg36
 z22:=Tryz.sizeOf36
 v22:=Tryz.zeroValue36
 t25:=Tryz.underlying77
 a25:=Tryz.isAgg77
 z25:=Tryz.sizeOf77
 v25:=Tryz.zeroValue77
 t39:=Dj
 a39:=Gd
 z39:=Fp
 v39:=Dv
 t45:=Tryz.underlying216
 a45:=Tryz.isAgg216
 z45:=Tryz.sizeOf216
 v45:=Tryz.zeroValue216
 t46:=Tryz.underlying217
 a46:=Tryz.isAgg217
 z46:=Tryz.sizeOf217
 v46:=Tryz.zeroValue217
 t50:=Tryz.underlying221
 a50:=Tryz.isAgg221
 z50:=Tryz.sizeOf221
 v50:=Tryz.zeroValue221
 t53:=Ed
 a53:=Gz
 z53:=Gh
 v53:=Ep
 t55:=Dk
 a55:=Gw
 z55:=Gg
 v55:=Eo
 t66:=Tryz.underlying288
 a66:=Tryz.isAgg288
 z66:=Tryz.sizeOf288
 v66:=Tryz.zeroValue288
 t70:=Tryz.underlying292
 a70:=Tryz.isAgg292
 z70:=Tryz.sizeOf292
 v70:=Tryz.zeroValue292
 t76:=Tryz.underlying321
 a76:=Tryz.isAgg321
 z76:=Tryz.sizeOf321
 v76:=Tryz.zeroValue321
 t77:=Tryz.underlying95
 a77:=Tryz.isAgg95
 z77:=Tryz.sizeOf95
 v77:=Tryz.zeroValue95 }
def Tryz.lenW_ren:Go.Shelf.Ren:=⟨fun | 125=>168 | 128=>239 | 129=>240 | n=>n,fun | 46=>174 | 3=>3 | 51=>224 | 53=>161 | 4=>4 | 5=>5 | 9=>9 | n=>n,fun | n=>n⟩
theorem Tryz.lenW:Go.Proofs.Lays.n125 Tryz.prog Tryz.lenW_ren:={
 mixed:=by kernel_rfl
 f125:=qj Tryz.func168 (by kernel_rfl)
 f128:=qj Tryz.func239 (by kernel_rfl)
 f129:=qj Jq (by kernel_rfl)
 t3:=H9
 a3:=Ff
 z3:=Ec
 v3:=Cn
 t4:=Bf
 a4:=Fg
 z4:=El
 v4:=Co
 t5:=Bx
 a5:=Gq
 z5:=Fr
 v5:=Do
 t9:=Ax
 a9:=Fh
 z9:=Em
 v9:=Cp
 t46:=Dj
 a46:=Gd
 z46:=Fp
 v46:=Dv
 t51:=Ed
 a51:=Gz
 z51:=Gh
 v51:=Ep
 t53:=Dk
 a53:=Gw
 z53:=Gg
 v53:=Eo }
end Go.Proofs
namespace Go.Proofs.YtfkpfpobmobnbaaGreatDoor
open Go.Proofs.Tryz Go.RowKit
open Go.Lib (decDigits nDigits)
section
open Go.Sort Go.Shelf Go.Lib
def p0T (p q:ByteArray×ByteArray):Int:=if b0t p<b0t q then -1 else if b0t q<b0t p then 1 else 0
def g0Q (p q:ByteArray×ByteArray):p0T p q<0↔b0t p<b0t q:=by
 unfold p0T
 split
 .rename_i h;simp[h]
 .rename_i h
  split<;>simp[h]
def s0N (p:ByteArray×ByteArray):List Value:=[.string p.1,.string p.2]
def d1n:SWO (ltOf p0T) where
 irrefl x:=by
  simp only[ltOf,Ac,g0Q];exact List.lt_irrefl _
 trans x y z h1 h2:=by
  simp only[ltOf,H7,g0Q]at *;exact List.lt_trans h1 h2
 ntrans x y z h1 h2:=by
  simp only[ltOf,Ac,g0Q,List.not_lt]at *;exact List.le_trans h2 h1
def f0o {L:List (ByteArray×ByteArray)}(i:Nat):(a0N L)[i]? = (L[i / 2]?).map (fun p=>if i%2=0 then Value.string p.1 else Value.string p.2):=by
 cases h:L[i / 2]? with
 | none=>
  rw[Iy]at h;rw[Option.map_none,Iy,b0a];omega
 | some p=>
  obtain⟨h1,h2⟩:=c0Z h;rw[Ko];by_cases hm:i%2=0
  .rw[J3 hm,show i=2*(i / 2) by omega];exact h1
  .rw[J2 hm,show i=2*(i / 2)+1 by omega];exact h2
def Nz:=@getElem!_pos
def i0G (d:Array (ByteArray×ByteArray)):(flatK s0N 2 d).toList=a0N d.toList:=by
 apply Aq
 intro i;rw[f0o];by_cases hi:i<d.size*2
 .have e1:=get_flatK s0N 2 d i (by omega);rw[Nz _ _ (by simp;omega)]at e1;have hi2:i / 2<d.size:=by omega
  rw[Es,D9 (by simp;omega),e1,Es,D9 hi2,Ko,Nz d (i / 2) hi2];by_cases hm:i%2=0
  .rw[J3 hm,hm];rfl
  .rw[J2 hm,show i%2=1 by omega];rfl
 .rw[U6 (by simp;omega),Es,Hy (by omega)];rfl
def l0j {w:World}{g n:Nat}{os:Array Obj}{cur:Array Value}{e:TypeId}{fr:Nat×Nat}(d:Array Value)(hb:w.heap[g]?=some (.cells cur e fr)):
 (grow (putRow id (Sort.ahead w n) g 0 d) os).heap[g]?=some (.cells (putCells id 0 d cur) e fr):=by
 have hg:g<w.heap.size:=(I7.1 hb).1;rw[Go.Sort.heap_grow_old _ _ (by simpa using hg)];simp[putRow,mapBlock,Sort.ahead,Cu,hb,onCells]
def k0e {w:World}{g n base:Nat}{os:Array Obj}(d:Array Value)(hb:base<=g)(hw:base<=w.heap.size):Below base w (grow (putRow id (Sort.ahead w n) g 0 d) os):=by
 refine⟨rfl,rfl,rfl,by simp,fun k hk=>?_⟩;rw[Go.Sort.heap_grow_old _ _ (by simp;omega)];have:g≠k:=by omega
 simp[putRow,mapBlock,Sort.ahead,Cu,this]
def Hh:=@List.getElem?_take_of_lt
def It:=@List.getElem?_take_eq_none
def h0U (cur F:Array Value)(h:F.size<=cur.size):(putCells id 0 F cur).toList.take F.size=F.toList:=by
 apply Aq
 intro j;by_cases hj:j<F.size
 .rw[Hh hj,Es];simp[putCells,hj,show j<cur.size by omega]
 .rw[It (by omega),U6 (by simp;omega)]
def p0p {d d':Array (ByteArray×ByteArray)}(h:PermIn 0 d.size d d'):d'.size=d.size/\d'.toList.Perm d.toList:=by
 obtain⟨h1,_,h3⟩:=h;refine⟨h1,?_⟩;have e1:d'.extract 0 d.size=d':=by rw[<- h1];simp
 have e2:d.extract 0 d.size=d:=by simp
 rwa[e1,e2]at h3
def k0B {d':Array (ByteArray×ByteArray)}(h:SortedIn (ltOf p0T) 0 d'.size d'):d'.toList.Pairwise (fun p q=>leB (b0t p) (b0t q)=true):=by
 rw[Jf];intro i j hi hj hij;have:=h i j (K5 _) hij (by simpa using hj);simp only[ltOf,Ac,g0Q,List.not_lt]at this;rw[Nz _ _ (by simpa using hi),Nz _ _ (by simpa using hj)]at this;simp only[leB,H7];simpa using this
def q0K {L M:List (ByteArray×ByteArray)}(hp:L.Perm M)(hs:L.Pairwise (fun p q=>leB (b0t p) (b0t q)=true))(nd:(M.map b0t).Nodup):L=a0p M:=by
 have nd2:(L.map b0t).Nodup:=((hp.map b0t).nodup_iff).2 nd;rw[<- d0X nd2 nd (fun p=>hp.mem_iff)];exact (List.mergeSort_of_pairwise hs).symm
def q0U (F:Nat)(g cap base:Nat)(d:Array (ByteArray×ByteArray))(w:World)(cur:Array Value)(hb:base<=g)(hg:w.heap[g]?=some (.cells cur 42 (0,0)))(h1:d.size<=cap)(h2:cap<=maxLen)(h3:cur.size=cap*2)(h4:cur.toList.take (d.size*2)=a0N d.toList)(hs:d.size<=1000000)(hnd:(d.toList.map b0t).Nodup)
 (eg:∀ args w,(callFunc F args).run prog w=.ok (.enter F args) w) (hF:∀ (x y:ByteArray×ByteArray) (W:World),Calls prog F #[.agg #[.string x.1,.string x.2],.agg #[.string y.1,.string y.2]] W fun e w'=>e=.returned (.int .i64 (p0T x y))/\∃ n os',w'=grow (W.drewN n) os'):
 Calls prog 65 #[.slice (some ⟨g,0,none⟩) d.size cap,.func (.func F) #[] #[]] w fun e w'=>e=.returned (.tuple #[])/\w'.ownsRow base 42 2 (.slice (some ⟨g,0,none⟩) d.size cap) d.size (a0N (a0p d.toList))/\Below base w w':=by
 have hblk:g<w.heap.size:=(I7.1 hg).1;have hH:HoldsK s0N 2 w g 0 d:=by
  intro j hj;have hj':j<d.size*2:=by simpa using hj
  refine⟨?_,by simp[World.frozen?,hg]⟩;have e:(cur.toList.take (d.size*2))[j]? = (flatK s0N 2 d).toList[j]? := by rw[h4,i0G]
  rw[Hh hj']at e;simp only[World.cell?,hg,F9];simp only[Option.isSome_none,Bn,Eh];rw[<- Es,e,Es,D9 hj,Nz (flatK s0N 2 d) j hj]
  rfl
 have hcmp:CmpLays prog F #[] s0N 2 p0T g 0 d.size w:=fun _ _ _ _ x y=>hF x y _
 have hd:∀ x:ByteArray×ByteArray,(s0N x).length=2:=fun _=>rfl
 have h1c:∀ x:ByteArray×ByteArray,∀ v∈s0N x,v.oneCell'=true:=fun x v hv=>by simp[s0N]at hv;rcases hv with rfl | rfl<;>rfl
 have hlim:Lib.bitLen d.size<4611686018427387904:=Di (Lib.bitLen_le d.size 62 (by omega) (by omega)) (by omega);have hpd:=AnyQ.pdqsortCmpFunc_all sortMW 2 isAgg42 sizeOf42 s0N p0T F #[] d1n g 0 cap d w eg hcmp ⟨hd,h1c,hH,hblk⟩ (d.size+1) 0 d.size (Lib.bitLen d.size) d w (by omega) rfl (SWK.start hH) (K5 _) nr (by omega) hlim (Or.inl rfl)
 change Calls prog 167 _ _ _ at hpd
 have hbl:Calls prog 168 #[.int .u64 (d.size:Int)] w fun e w'=>e=.returned (.int .i64 (Lib.bitLen d.size:Nat))/\w'=w:=by
  have h:=Any.bits_Len lenW (d.size:Int) w (by omega) (by omega);rwa[Ao]at h
 have wr:IntKind.u64.wrap (d.size:Int)=d.size:=by simp[IntKind.wrap,IntKind.bits,IntKind.signed];omega
 have hz:=pdq_sorts (ltOf p0T) d1n d 0 d.size (Lib.bitLen d.size) true true (K5 _) nr (Or.inl rfl);have P:=p0p hz.1;have hz2:=hz.2;generalize pdq (ltOf p0T) d 0 d.size (Lib.bitLen d.size) true true=d' at *
 have S:=k0B (P.1 ▸ hz2);have hd':d'.toList=a0p d.toList:=q0K P.2 S hnd;clear hH hcmp hz hz2 hF;have h2h:=hid h2;clear h2;clear h4;clear hnd;go_enter func65,ntmps65;go_wp2_with fail;refine hbl.mono ?_;rintro e w' ⟨rfl,rfl⟩;go_wp2_with fail;refine hpd.mono ?_;rintro e w' ⟨rfl,n,os,rfl⟩;go_wp2_with fail
 go_end0
 refine⟨rfl,⟨?_,.inr ⟨g,cap,_,rfl,hb,l0j _ hg,h1,h2h.out,by simp[putCells,h3],?_⟩⟩,k0e _ hb (by omega)⟩
 .rw[b0a,<- hd'];simp[P.1]
 .rw[<- hd',<- i0G];have:=h0U cur (flatK s0N 2 d') (by rw[size_flatK,P.1,h3];omega);rwa[size_flatK,P.1]at this
end
section
open Go.Sort Go.Shelf Go.Maps
def x0C (w:World)(v:Int)(h1 : -100000<=v)(h2:v<=100000)(hL:Lay w):
 qb 64 #[.int .i64 v] w (.string (zB v)):=by
 refine (Tryz.strconv_Itoa v (by omega) (by omega) w hL.tab).mono ?_;rintro e w' ⟨rfl,k,os,rfl⟩;exact⟨rfl,f0Z w k os⟩
def m0b (v x:Int):(Lit.int .i64 v).sameKey (.int .i64 x)=decide (v=x):=by
 by_cases h:v=x
 .subst h;rw[WideAt.sameKey_self (show WideAt.IsKeyLit (.int .i64 v) from trivial)];simp
 .rw[Maps.sameKey_ne (fun e=>h (by injection e))];simp[h]
def i0B (x z:ByteArray):Op.bytesLess x.toList z.toList=decide (x.data.toList<z.data.toList):=by
 rw[bytesLess_eq,Cy,Cy]
def q0T (w:World)(x:ByteArray):Calls prog 169 #[.string x] w fun e w'=>e=.returned (.bool false)/\w=w':=by
 go_enter func169,ntmps169;go_wp2_with fail;go_ret
 exact⟨rfl,rfl⟩
theorem k0H (w:World)(x z:ByteArray):Calls prog 67 #[.string x,.string z] w fun e w'=>e=.returned (.int .i64 (if x.data.toList<z.data.toList then -1 else if z.data.toList<x.data.toList then 1 else 0))/\w=w':=by
 have h1:=i0B x z;have h2:=i0B z x;have N1:=fun V=>hid (q0T V x)
 have N2:=fun V=>hid (q0T V z)
 by_cases c1:x.data.toList<z.data.toList
 focus
  rw[J3 c1];rw[Z7 c1]at h1;clear h2 c1
 rotate_left
 focus
  rw[J2 c1];rw[Z6 c1]at h1;by_cases c2:z.data.toList<x.data.toList
  focus
   rw[J3 c2];rw[Z7 c2]at h2;have h3:(x.toList==z.toList)=false:=by
    rw[M5];intro e;rw[Cy,Cy]at e;rw[e]at c2;exact List.lt_irrefl _ c2
   clear c1 c2
  rotate_left
  focus
   rw[J2 c2];rw[Z6 c2]at h2;have h3:(x.toList==z.toList)=true:=by
    rw[Fi,Cy,Cy];exact Ov (List.not_lt.1 c2) (List.not_lt.1 c1)
   clear c1 c2
 all_goals
  go_enter func67,ntmps67;go_wp2_with fail;refine (N1 _).out.mono ?_;rintro e w1 ⟨rfl,rfl⟩;go_wp2_with fail;refine zx (N2 _) ?_;go_wp2_with fail;go_ret
  exact⟨rfl,rfl⟩
def y0P (p q:ByteArray×ByteArray)(w:World):Calls prog 226 #[.agg #[.string p.1,.string p.2],.agg #[.string q.1,.string q.2]] w fun e w'=>e=.returned (.int .i64 (p0T p q))/\∃ n os',w'=grow (w.drewN n) os':=by
 obtain⟨p1,p2⟩:=p;obtain⟨q1,q2⟩:=q;dsimp only;have HC:=fun V=>hid (k0H V p1 q1)
 unfold p0T b0t;dsimp only;obtain⟨r,hr⟩:∃ r:Int,(if p1.data.toList<q1.data.toList then (-1:Int) else if q1.data.toList<p1.data.toList then 1 else 0)=r:=⟨_,rfl⟩;rw[hr]at HC |-;clear hr;go_enter func226,ntmps226;go_wp2_with fail;refine zx (HC _) ?_;go_wp2_with fail;go_ret
 exact⟨rfl,0,_,by rw[Me,Me,grow_grow];rfl⟩
end
section
open Go.Maps
structure ReadsI {H:Type}(D:DataW H)(c:Int->Nat):Prop where
 map:IsMap D
 has:∀ v:Int,Maps.has D (.int .i64 v)=decide (c v≠0)
 look:∀ v:Int,c v≠0->∀ z,D.atKey (.int .i64 v) z=.lit (.string (a0f (c v)).data.toList)
theorem ReadsI.nil {H:Type}:ReadsI (.map []:DataW H) (fun _=>0):=
 ⟨isMap_empty,fun v=>by simp[Maps.has_eq],fun v h=>absurd rfl h⟩
theorem ReadsI.put {H:Type}{D:DataW H}{c:Int->Nat}(h:ReadsI D c)(v:Int){x:Nat}(hx:0<x):
 ReadsI (D.put (.int .i64 v) (.lit (.string (a0f (c v+x)).data.toList))) (k0j c v x):=by
 refine⟨h.map.put _ _,fun y=>?_,fun y hy z=>?_⟩
 .by_cases e:y=v
  .subst e;rw[has_put_same h.map (show WideAt.IsKeyLit (.int .i64 y) from trivial)];unfold k0j;rw[J3 rfl];simp;omega
  .rw[has_put_other (fun e'=>e (by injection e')),h.has];unfold k0j;rw[J2 e]
 .by_cases e:y=v
  .subst e;rw[atKey_put_same h.map (show WideAt.IsKeyLit (.int .i64 y) from trivial)];unfold k0j;rw[J3 rfl]
  .unfold k0j at hy |-;rw[J2 e]at hy |-;rw[atKey_put_other (fun e'=>e (by injection e'))];exact h.look y hy z
def k0b (x:Nat):ByteArray:=if x=0 then ⟨#[]⟩ else a0f x
def Kr:=@Go.Proofs.Tryz.underlying211
def Fo:=@Go.Proofs.Tryz.underlying23
def w0G {H:Type}{w:World}{B nn:Nat}{D:DataW H}{c:Int->Nat}(hown:w.ownsMap prog 3 (plainElem prog 23) B nn D)(hR:ReadsI D c){v:Int}(hw:(Lit.int .i64 v).wf=true):
 (Instr.lookup 211 (.map (some B)) (.int .i64 v) false).run prog w=.ok (.string (k0b (c v))) w:=by
 obtain⟨x,ps,h1,h2⟩:=hown.lookup (int_keyed H9) Kr (t0M w) (plainElem_string Fo (s:=⟨#[]⟩) (K5 _)) (keyOf_int_mk H9 hw);rw[h1];unfold k0b;by_cases h0:c v=0
 .rw[J3 h0];rw[atKey_of_not_has (by rw[hR.has,h0];rfl)]at h2;obtain⟨s,rfl,h3,-⟩:=plainElem_string_inv Fo h2;simp only[Ki,DataW.lit.injEq,Lit.string.injEq]at h3;have e:s=(⟨#[]⟩:ByteArray):=b0f (by simpa using h3.1.symm);rw[e]
 .rw[J2 h0];rw[hR.look v h0]at h2;obtain⟨s,rfl,h3,-⟩:=plainElem_string_inv Fo h2;simp only[Ki,DataW.lit.injEq,Lit.string.injEq]at h3;rw[b0f h3.1]
end
section
open Go.Shelf
def l0K (n g:Nat):Value:=.slice (some ⟨g,0,none⟩) (n+1) (n+1)
structure TabR (W:World)(gt n:Nat)(f:Nat->List Nat):Prop where
 len:∀ i,i<=n->(f i).length=n+1
 ex:∃ g c,n+1<=c/\c<=9223372036854775807/\W.cell? ⟨gt,0,none⟩=some (.slice (some ⟨g,0,none⟩) (n+1) c)/\W.cell? ⟨gt,1,none⟩=some (.string ⟨#[48]⟩)/\∀ i,i<=n->∃ gr,W.cell? ⟨g,i,none⟩=some (l0K n gr)/\NRowT W gr (f i)
theorem TabR.call {W W':World}{gt n:Nat}{f:Nat->List Nat}(h:TabR W gt n f)(hb:Below W.heap.size W W'):TabR W' gt n f:=by
 obtain⟨h0,g,c,h1,h2,h3,h4,h5⟩:=h;refine⟨h0,g,c,h1,h2,(hb.cell (a0e h3)).trans h3,(hb.cell (a0e h4)).trans h4,fun i hi=>?_⟩;obtain⟨gr,k1,k2⟩:=h5 i hi;exact⟨gr,(hb.cell (a0e k1)).trans k1,k2.call hb⟩
def a1l (w:World)(gt n i k:Nat)(f:Nat->List Nat)(h:TabR w gt n f)(hi:i<=n)(hk:k<=n)(hn:n<=100000):
 Calls prog 288 #[.pointer (some ⟨gt,0,none⟩),.int .i64 (i:Nat),.int .i64 (k:Nat)] w fun e w'=>e=.returned (.string (a0f ((f i).getD k 0)))/\w=w':=by
 obtain⟨h0,g,c,h1,h2,r0,r1,h5⟩:=h;obtain⟨gr,r2,k2⟩:=h5 i hi;have r3:=k2.cell (i:=k) (by rw[h0 i hi];omega);unfold l0K at r2;obtain⟨X,hX⟩:=gn (a0f ((f i).getD k 0));rw[hX]at r3 |-;have b1:=qw i
 have b2:(i:Int)<((n+1:Nat):Int):=by omega
 have b3:=qw k
 have b4:(k:Int)<((n+1:Nat):Int):=by omega
 obtain⟨m,hm⟩:=gn (n+1);rw[hm]at r0 r2 b2 b4 h1;have t1:decide ((i:Int)<0)=false:=by simp
 have t2:decide (m<=i)=false:=by simp;omega
 have t3:decide ((k:Int)<0)=false:=by simp
 have t4:decide (m<=k)=false:=by simp;omega
 clear h0 h5 k2 hX hi hk hn hm;go_enter func288,ntmps288;go_wp2_with fail;go_ret
 exact⟨rfl,rfl⟩
structure TabO (W:World)(H gt:Nat)(rv:Value)(gs:List Nat)(n r:Nat)(f:Nat->List Nat):Prop where
 blk:Blk W gt #[rv,.string ⟨#[48]⟩] 275
 own:W.ownsRow H 106 1 rv gs.length (gs.map (l0K n))
 rows:∀ i g,i<r->gs[i]?=some g->NRowT W g (f i)
 ne:rv.ownBlock≠some gt
 sep:∀ i g,i<r->gs[i]?=some g->rv.ownBlock≠some g
 gne:∀ i g,i<r->gs[i]?=some g->g≠gt
theorem NRowT.lt' {w:World}{g:Nat}{l:List Nat}(h:NRowT w g l):g<w.heap.size:=Blk.lt h
def c0d {W:World}{H:Nat}{e:TypeId}{rv:Value}{n:Nat}{xs:List Value}(h:W.ownsRow H e 1 rv n xs){a:Addr}(h2:rv.ownBlock≠some a.block)(v:Value):(W.setCell a v).ownsRow H e 1 rv n xs:=by
 refine⟨h.1,?_⟩;rcases h.2 with h0 | ⟨g,cap,cur,rfl,k1,k2,k3⟩
 .exact .inl h0
 .refine .inr ⟨g,cap,cur,rfl,k1,?_,k3⟩;have hg:g≠a.block:=fun e=>h2 (by rw[<- e];rfl)
  rw[<- k2];unfold World.setCell;simp[Cu,Ne.symm hg]
theorem TabO.call {W W':World}{H gt:Nat}{rv:Value}{gs:List Nat}{n r:Nat}{f:Nat->List Nat}(h:TabO W H gt rv gs n r f)(hb:Below W.heap.size W W'):TabO W' H gt rv gs n r f:=
 ⟨h.blk.call hb,a0C h.own hb,fun i g hi hg=>(h.rows i g hi hg).call hb,h.ne,h.sep,h.gne⟩
theorem TabO.other {W:World}{H gt:Nat}{rv:Value}{gs:List Nat}{n r:Nat}{f:Nat->List Nat}(h:TabO W H gt rv gs n r f){a:Addr}(h1:a.block≠gt)(h2:rv.ownBlock≠some a.block)(h3:∀ i g,i<r->gs[i]?=some g->a.block≠g)(v:Value):TabO (W.setCell a v) H gt rv gs n r f:=by
 exact⟨h.blk.other h1 v,c0d h.own h2 v,fun i g hi hg=>(h.rows i g hi hg).other (h3 i g hi hg) v,h.ne,h.sep,h.gne⟩
structure KpR (gt:Nat)(rb:Option Nat)(W W':World):Prop where
 os:W'.os=W.os
 tape:W'.tape=W.tape
 output:W'.output=W.output
 size:W.heap.size<=W'.heap.size
 block:∀ i,i<W.heap.size->i≠gt->some i≠rb->W'.heap[i]?=W.heap[i]?
theorem TabO.drew {W:World}{H gt:Nat}{rv:Value}{gs:List Nat}{n r:Nat}{f:Nat->List Nat}(h:TabO W H gt rv gs n r f):TabO W.drew H gt rv gs n r f:=⟨h.blk,h.own,h.rows,h.ne,h.sep,h.gne⟩
theorem KpR.drew {gt:Nat}{rb:Option Nat}{W W':World}(h:KpR gt rb W W'):KpR gt rb W W'.drew:=⟨h.os,h.tape,h.output,h.size,h.block⟩
def s0n:(prog.info? 106).map (fun i=>(i.zero,i.size,i.bytes))=some (some (.slice none 0 0),1,24):=by kernel_rfl
def Fd:=@Go.wpList_append_own_at
def a1k (w:World)(H gt:Nat)(rv:Value)(gs:List Nat)(n r:Nat)(f:Nat->List Nat)(h:TabO w H gt rv gs n r f)(hr:r<=gs.length)(hgs:gs.length<=1000)(hn:n<=1000)(hH:H<=w.heap.size):
 Calls prog 327 #[.pointer (some ⟨gt,0,none⟩),.int .i64 ((n+1:Nat):Int)] w fun e w'=>∃ g rv',e=.returned (l0K n g)/\w.heap.size<=g/\NRowT w' g (List.replicate (n+1) 0)/\TabO w' H gt rv' (gs ++ [g]) n r f/\rv'.ownBlock≠some g/\(rv'.ownBlock=rv.ownBlock\/∃ b,rv'.ownBlock=some b/\w.heap.size<=b)/\KpR gt rv.ownBlock w w':=by
 obtain⟨i0,hi,hz0,hz1,hz2⟩:=Dx s0n;have HR:=fun V g h=>hid (f0a V g (n+1) ⟨#[48]⟩ (by omega) (by omega) h)
 have hgt:gt<w.heap.size:=h.blk.lt;have r0:=h.blk.cell 0;have r1:=h.blk.cell 1;simp at r0 r1;obtain⟨T0,HGT,HHS,HGS,HRL⟩:=zd h hgt hH hgs hr;obtain⟨ar,cr,hrv⟩:=b0l h.own;obtain⟨L,hL⟩:=gn (gs.length);obtain⟨m,hm⟩:=gn (n+1);have HM:=hid hm;have KK:Hid (∀ W,Below w.heap.size w W->W.cell? ⟨gt,0,none⟩=some rv/\W.cell? ⟨gt,1,none⟩=some (.string ⟨#[48]⟩)):=fun W hW=>⟨(hW.cell (a0e r0)).trans r0,(hW.cell (a0e r1)).trans r1⟩
 rw[hm]at HR |-;clear h hgt hH hgs hr hL hm hrv hn;go_enter func327,ntmps327;go_wp2_with fail;refine a0T 14 3 [0,1,2,3,4,5,6,7,8,10] 4 (fun W'=>W'.cell? ⟨gt,0,none⟩=some rv/\W'.cell? ⟨gt,1,none⟩=some (.string ⟨#[48]⟩)) (by kernel_rfl) rfl (by kernel_rfl) (by kernel_rfl) (by kernel_rfl) (by kernel_rfl) (KK.out _ br0.drew) ?_
 iterate 10
  refine⟨_,rfl,?_⟩;apply Exists.intro
  refine⟨.inl ⟨by rfl,?_⟩,?_⟩
  .rintro W' ⟨q1,q2⟩;go_simp;try with_reducible rfl
  go_frame
 refine a0c (i:=9) (by kernel_rfl) rfl rfl ?_;go_wp2_with fail;have A1:=hid (show Below w.heap.size w (w.alloc (.cells #[.string ⟨#[48]⟩] 23)).drew from (br0.alloc nr _).drew);have C1:(w.alloc (.cells #[.string ⟨#[48]⟩] 23)).drew.cell? ⟨w.heap.size,0,none⟩=some (.string ⟨#[48]⟩):=(Blk.new w #[.string ⟨#[48]⟩] 23).cell 0;refine⟨KK.out _ A1.out,?_⟩;refine a0c (i:=11) (by kernel_rfl) rfl rfl ?_;go_wp2_with fail;refine (HR _ _ C1).out.mono ?_;rintro e w2 ⟨rfl,hg,hb⟩;obtain⟨g,hgg⟩:=gn ((w.alloc (.cells #[.string ⟨#[48]⟩] 23)).drew.heap.size);have B2:=qx A1 hb;rw[hgg]at hg |-;have HG:Hid (w.heap.size<g):=by rw[<- hgg];show _<_;simp
 obtain⟨R2,L2⟩:=zu (NRowT.zeros hg) (show g<w2.heap.size from hg.lt);clear hg hb hgg C1;go_wp2_with fail;refine⟨KK.out _ B2.out,?_⟩;refine a0c (i:=12) (by kernel_rfl) rfl rfl ?_;go_wp2_with fail;have A3:=hid (show Below w.heap.size w (w2.alloc (.cells #[.slice (some ⟨g,0,none⟩) m m] 106)) from B2.out.alloc B2.out.size _);refine⟨KK.out _ A3.out,?_⟩;refine a0c (i:=13) (by kernel_rfl) rfl rfl ?_;have O3:=hid (((T0.out.call B2.out).own).alloc (.cells #[.slice (some ⟨g,0,none⟩) m m] 106));refine Fd _ rfl _ _ 273 rfl H 106 i0 (.slice none 0 0) 1 24 underlying273 hi hz0 hz1 hz2 rfl (by decide) rv gs.length (gs.map (l0K n)) rfl O3.out ⟨w2.heap.size,0,none⟩ 1 1 [.slice (some ⟨g,0,none⟩) m m] rfl rfl (Eu w2 (.slice (some ⟨g,0,none⟩) m m) 106) (by simp[Value.oneCell']) (by have:=HGS.out;unfold maxLen;omega) (by have:=HGS.out;omega) (by have:=HHS.out;have:=B2.out.size;simp;omega) ?_;intro rv' w3 hown3 hgrow3 _ hat3;have hat4:rv'.ownBlock=rv.ownBlock\/rv'.ownBlock=some (w2.heap.size+1):=by simpa using hat3
 obtain⟨OW,GR,AT⟩:=zg hown3 hgrow3 hat4;clear hown3 hgrow3 hat3 hat4;have c30:w3.cell? ⟨gt,0,none⟩=some rv:=by
  have:=GR.out.cell (KK.out _ A3.out).1 (fun e=>T0.out.ne e.symm);exact this
 have c31:w3.cell? ⟨gt,1,none⟩=some (.string ⟨#[48]⟩):=GR.out.cell (KK.out _ A3.out).2 (fun e=>T0.out.ne e.symm);have X3:Hid (Blk w3 gt #[rv,.string ⟨#[48]⟩] 275):=((T0.out.blk.call B2.out).alloc _).grown GR.out (fun e=>T0.out.ne e);go_wp2_with fail;refine⟨⟨c30,c31⟩,?_⟩;refine J8 (by kernel_rfl) ?_ _;simp only[b0b,c0t,Aj,K9];have f3:=X3.out.free 0;have NE3:Hid (rv'.ownBlock≠some gt):=by
  rcases AT.out with e | e
  .show rv'.ownBlock≠some gt
   rw[e];exact T0.out.ne
  .show rv'.ownBlock≠some gt
   rw[e];intro hh;have:=Ag hh;have:=HGT.out;have:=B2.out.size;omega
 have NEG:Hid (rv'.ownBlock≠some g):=by
  rcases AT.out with e | e
  .show rv'.ownBlock≠some g
   rw[e];intro hh;have:=(T0.out.own.lt g hh).2;have:=HG.out;omega
  .show rv'.ownBlock≠some g
   rw[e];intro hh;have:=Ag hh;have:=L2.out;omega
 have AT2:Hid (rv'.ownBlock=rv.ownBlock\/∃ b,rv'.ownBlock=some b/\w.heap.size<=b):=AT.out.imp id fun e=>⟨_,e,Nat.le_succ_of_le B2.out.size⟩
 have KP:Hid (KpR gt rv.ownBlock w w3):=⟨GR.out.os.trans A3.out.os,GR.out.tape.trans A3.out.tape,GR.out.output.trans A3.out.output,J0 A3.out.size GR.out.size,fun i hi _ h2=>(GR.out.block i (by have:=A3.out.size;omega) h2).trans (A3.out.block i hi)⟩;have N3:Hid (NRowT w3 g (List.replicate m 0)):=Blk.grown (Blk.alloc R2.out _) GR.out (fun e=>by have:=(T0.out.own.lt g e).2;have:=HG.out;omega);have RO:Hid (∀ i g',i<r->gs[i]?=some g'->NRowT w3 g' (f i)):=fun i g' hi2 hg'=>Blk.grown (Blk.alloc ((T0.out.rows i g' hi2 hg').call B2.out) _) GR.out (T0.out.sep i g' hi2 hg')
 have GSR:Hid (∀ i g',i<r->gs[i]?=some g'->g'≠gt):=fun i g' hi2 hg'=>T0.out.gne i g' hi2 hg'
 obtain⟨gr,cap,rfl⟩:=Nu OW.out;have HGR:Hid (gr≠gt):=fun e=>NE3.out (by rw[e];rfl)
 go_wp2_with fail
 try simp only[b0b]
 obtain⟨w4,hw4⟩:=gn (w3.setCell ⟨gt,0,none⟩ (.slice (some ⟨gr,0,none⟩) (gs.length+1) cap));have T4:Hid (TabO w4 H gt (.slice (some ⟨gr,0,none⟩) (gs.length+1) cap) (gs ++ [g]) n r f):=by
  refine⟨?_,?_,fun i g' hi2 hg'=>?_,NE3.out,?_,?_⟩
  .rw[<- hw4];exact X3.out.set 0 _
  .rw[<- hw4,J5,Ay];have hl:(gs.map (l0K n) ++ [Value.slice (some ⟨g,0,none⟩) m m])=gs.map (l0K n) ++ [g].map (l0K n):=by rw[<- HM.out];rfl
   rw[<- hl];exact c0d OW.out (fun e=>HGR.out (by simpa[Value.ownBlock]using e)) _
  .have hlt:i<gs.length:=J7 hi2 HRL.out;rw[As hlt]at hg';rw[<- hw4];exact (RO.out i g' hi2 hg').other (GSR.out i g' hi2 hg').symm _
  .intro i g' hi2 hg';have hlt:i<gs.length:=J7 hi2 HRL.out;rw[As hlt]at hg';rcases AT.out with e | e
   .rw[e];exact T0.out.sep i g' hi2 hg'
   .rw[e];intro hh;have:=Ag hh;have:=(T0.out.rows i g' hi2 hg').lt';have:=B2.out.size;omega
  .intro i g' hi2 hg';have hlt:i<gs.length:=J7 hi2 HRL.out;rw[As hlt]at hg';exact T0.out.gne i g' hi2 hg'
 have N4:Hid (NRowT w4 g (List.replicate m 0)):=by rw[<- hw4];exact N3.out.other (by have:=HG.out;have:=HGT.out;show gt≠g;omega) _
 have K4:Hid (KpR gt rv.ownBlock w w4):=by
  rw[<- hw4];refine⟨KP.out.os,KP.out.tape,KP.out.output,by simpa[World.setCell]using KP.out.size,fun i hi h1 h2=>?_⟩;rw[<- KP.out.block i hi h1 h2];unfold World.setCell;simp[Cu,Ne.symm h1]
 rw[hw4];have s0:=T4.out.blk.cell 0;simp at s0;have s1:w4.cell? ⟨gr,gs.length,none⟩=some (.slice (some ⟨g,0,none⟩) m m):=by
  obtain⟨g',o',e1,-,e2⟩:=(Row.of_owns T4.out.own).at (i:=gs.length) (x:=l0K n g) (by rw[Ay,G8 (by simp)];simp);simp only[Az,Hs]at e1;obtain⟨rfl,rfl,-⟩:=e1;rw[F9]at e2;rw[e2,l0K,HM.out]
 have wl2:IntKind.i64.wrap ((gs.length:Int)+1-1)=(gs.length:Int):=by rw[U0 _ ⟨by omega,by have:=HGS.out;omega⟩];omega
 have b1:(0:Int)<=(gs.length:Int):=by omega
 have wl3:IntKind.i64.wrap (gs.length:Int)=(gs.length:Int):=by rw[U0 _ ⟨by omega,by have:=HGS.out;omega⟩]
 have b3:(gs.length:Int)<(gs.length:Int)+1:=by omega
 clear hw4 c30 c31 f3;refine a0j [0,1,2,3,4,5,6,7,8,9,10,11,12] 0 (fun W'=>W'.cell? ⟨gt,0,none⟩=some (.slice (some ⟨gr,0,none⟩) (gs.length+1) cap)/\W'.cell? ⟨gr,gs.length,none⟩=some (.slice (some ⟨g,0,none⟩) m m)) (by kernel_rfl) (by kernel_rfl) (by kernel_rfl) (by kernel_rfl) ⟨s0,s1⟩ ?_
 iterate 13
  refine⟨_,rfl,?_⟩;apply Exists.intro
  refine⟨.inl ⟨by rfl,?_⟩,?_⟩
  .rintro W' ⟨q3,q4⟩;go_simp;try with_reducible rfl
  go_frame
 refine J8 (by kernel_rfl) ?_ _;simp only[b0b];go_wp2_with fail;go_ret
 refine⟨g,_,by rw[l0K,HM.out];rfl,De HG.out,N4.out,T4.out.drew,NEG.out,AT2.out,K4.out.drew⟩
structure EnS (W:World)(gt gO gN gD g1 g2 n r:Nat)(rv:Value)(gs:List Nat)(O nx dn:List Nat)(os zs:Nat->Bool)(f:Nat->List Nat):Prop where
 tab:TabO W (gt+1) gt rv (gs ++ [gD]) n r f
 o:NRowT W gO O
 nx:NRowT W gN nx
 dn:NRowT W gD dn
 b1:Blk W g1 (g0o os n).toArray 4
 b2:Blk W g2 (g0o zs n).toArray 4
structure EnD (gt gO gN gD g1 g2 r:Nat)(rv:Value)(gs:List Nat):Prop where
 tN:gN≠gt
 tD:gD≠gt
 rN:rv.ownBlock≠some gN
 rD:rv.ownBlock≠some gD
 ND:gN≠gD
 oN:gO≠gN
 oD:gO≠gD
 n1:gN≠g1
 n2:gN≠g2
 d1:gD≠g1
 d2:gD≠g2
 sN:∀ i g,i<r->(gs ++ [gD])[i]?=some g->gN≠g
 sD:∀ i g,i<r->(gs ++ [gD])[i]?=some g->gD≠g
theorem EnS.call {W W':World}{gt gO gN gD g1 g2 n r:Nat}{rv:Value}{gs:List Nat}{O nx dn:List Nat}{os zs:Nat->Bool}{f:Nat->List Nat}(h:EnS W gt gO gN gD g1 g2 n r rv gs O nx dn os zs f)(hb:Below W.heap.size W W'):EnS W' gt gO gN gD g1 g2 n r rv gs O nx dn os zs f:=
 ⟨h.tab.call hb,h.o.call hb,h.nx.call hb,h.dn.call hb,h.b1.call hb,h.b2.call hb⟩
theorem EnS.setN {W:World}{gt gO gN gD g1 g2 n r:Nat}{rv:Value}{gs:List Nat}{O nx dn:List Nat}{os zs:Nat->Bool}{f:Nat->List Nat}(h:EnS W gt gO gN gD g1 g2 n r rv gs O nx dn os zs f)(d:EnD gt gO gN gD g1 g2 r rv gs)(i x:Nat):EnS (W.setCell ⟨gN,i,none⟩ (.string (a0f x))) gt gO gN gD g1 g2 n r rv gs O (nx.set i x) dn os zs f:=
 ⟨h.tab.other d.tN d.rN d.sN _,h.o.other d.oN.symm _,h.nx.set i x,h.dn.other d.ND _,h.b1.other d.n1 _,h.b2.other d.n2 _⟩
theorem EnS.setD {W:World}{gt gO gN gD g1 g2 n r:Nat}{rv:Value}{gs:List Nat}{O nx dn:List Nat}{os zs:Nat->Bool}{f:Nat->List Nat}(h:EnS W gt gO gN gD g1 g2 n r rv gs O nx dn os zs f)(d:EnD gt gO gN gD g1 g2 r rv gs)(i x:Nat):EnS (W.setCell ⟨gD,i,none⟩ (.string (a0f x))) gt gO gN gD g1 g2 n r rv gs O nx (dn.set i x) os zs f:=
 ⟨h.tab.other d.tD d.rD d.sD _,h.o.other d.oD.symm _,h.nx.other d.ND.symm _,h.dn.set i x,h.b1.other d.d1 _,h.b2.other d.d2 _⟩
def r0w {c:Nat->Bool}{N D n r:Nat}{F:Nat->Nat}(hn:n<=32)(hr:r<=32)(hF:e0m c (j0w N D n r) n (n+1)=fnL F n)(hB:∀ s,s<=n->F s<=2 ^ (6*(r+1))){i j k:Nat}(hi:i<=n)(hij:i+j<=n+1)(hk:k<=n):(aIn c ((j0w N D n r).getD i 0) i j (e0m c (j0w N D n r) n i)).getD k 0<=2 ^ 200:=by
 refine J0 (c1l hi hij hk) ?_;rw[hF,h0N hk];exact J0 (hB k hk) (J6 (by omega) (by omega))
def z0S (w:World)(n N D:Nat)(e:Ending)(w':World):Prop:=∃ gt,e=.returned (.pointer (some ⟨gt,0,none⟩))/\w.heap.size<=gt/\TabR w' gt n (q0b N D n)
def k0d {w w':World}{g:Nat}{cs:Array Value}{t:TypeId}(h:Blk w g cs t)(e:w'.heap[g]?=w.heap[g]?):Blk w' g cs t:=e.trans h
def Iq:=@Go.Value.slice.injEq
def x0j {W:World}{H gt:Nat}{rv:Value}{gs:List Nat}{n:Nat}{f:Nat->List Nat}(h:TabO W H gt rv gs n (n+1) f)(hl:gs.length=n+1)(hf:∀ i,(f i).length=n+1)(hn:n<=1000):TabR W gt n f:=by
 obtain⟨g,cap,rfl⟩:∃ g c,rv=.slice (some ⟨g,0,none⟩) (n+1) c:=by
  have:=h.own;rw[hl]at this;exact Nu this
 obtain⟨a,c,e,h1,h2,h3⟩:=(Row.of_owns h.own).ex;simp only[Iq]at e;obtain⟨rfl,-,rfl⟩:=e;rw[Dp,hl]at h1;have c0:=h.blk.cell 0;have c1:=h.blk.cell 1;simp at c0 c1;refine⟨fun i _=>hf i,g,cap,h1,by unfold maxLen at h2;omega,c0,c1,fun i hi=>?_⟩;obtain⟨gr,hgr⟩:∃ g,gs[i]?=some g:=⟨_,Q0 (by omega)⟩;obtain⟨g',o',e1,-,e2⟩:=h3 i (l0K n gr) (by rw[Et,hgr];rfl);simp only[Az,Hs]at e1;obtain⟨rfl,rfl,-⟩:=e1;rw[F9]at e2;exact⟨gr,e2,h.rows i gr (by omega) hgr⟩
def w0M (w:World)(a:ByteArray)(n N D:Nat)(ha:a.size<=100000)(he:gPE a=0)(hn:n<=32)(hN:bN (cW a)=N)(hD:bN (qD a)=D)(hND:N<D)(hL:Lay w):
 Calls prog 287 #[.string a,.int .i64 n] w fun e w'=>z0S w n N D e w'/\Below w.heap.size w w':=by
 have HS:=hid (s0z w a n N D ha he (by omega) hN hD hND hL);have HR:=fun V g h=>hid (f0a V g (n+1) ⟨#[48]⟩ (by omega) (by omega) h)
 have HTR:=fun V gt rv gs r f (h:TabO V (gt+1) gt rv gs n r f) (h1:r<=gs.length) (h2:gs.length<=1000) (h3:gt+1<=V.heap.size)=>hid (a1k V (gt+1) gt rv gs n r f h h1 h2 (by omega) h3)
 obtain⟨HL,HLL,HN⟩:=zg hL hL.lt hn;have wn:=qy n (by omega)
 have NX:Hid (∀ r,e0m (a0D N D) (j0w N D n r) n (n+1)=j0w N D n (r+1)):=fun r=>k0Y N D n r
 have DN:Hid (∀ r,e0m (a0i N D) (j0w N D n r) n (n+1)=q0b N D n r):=fun r=>s0O N D n r
 have BN:Hid (∀ r i j k,r<=n->i<=n->i+j<=n+1->k<=n->(aIn (a0D N D) ((j0w N D n r).getD i 0) i j (e0m (a0D N D) (j0w N D n r) n i)).getD k 0<=2 ^ 200):=fun r i j k h1 h2 h3 h4=>r0w (F:=opn N D (r+1)) hn (by omega) (k0Y N D n r) (fun s hs=>h0y hn (r+1) s hs) h2 h3 h4
 have BD:Hid (∀ r i j k,r<=n->i<=n->i+j<=n+1->k<=n->(aIn (a0i N D) ((j0w N D n r).getD i 0) i j (e0m (a0i N D) (j0w N D n r) n i)).getD k 0<=2 ^ 200):=fun r i j k h1 h2 h3 h4=>r0w (F:=edn N D r) hn (by omega) (s0O N D n r) (fun s hs=>o0m hn r s hs) h2 h3 h4
 have BO:Hid (∀ r i,r<=n->i<=n->(j0w N D n r).getD i 0<=2 ^ 200):=fun r i h1 h2=>by
  unfold j0w;rw[h0N h2];exact J0 (h0y hn r i h2) (J6 (by omega) (by omega))
 have OZ:Hid ((List.replicate (n+1) 0).set 0 1=j0w N D n 0):=r0G N D n;have OL:Hid (∀ r,(j0w N D n r).length=n+1):=fun r=>f0U _ _
 obtain⟨OF,hOF⟩:=gn (j0w N D n);obtain⟨EF,hEF⟩:=gn (q0b N D n);obtain⟨os,hos⟩:=gn (a0D N D);obtain⟨zs,hzs⟩:=gn (a0i N D);rw[hOF]at NX DN BN BD BO OZ OL;rw[hEF]at DN;rw[hos]at NX BN;rw[hzs]at DN BD;obtain⟨HOS,HZS,HEF⟩:=zg hos hzs hEF;clear ha he hn hN hD hND hL hos hzs hOF hEF;go_enter func287,ntmps287;go_wp2_with fail;refine HS.out.mono ?_;rintro e w1 ⟨⟨v1,v2,rfl,⟨g1,g2,rfl,rfl,h3,h4,h5,hg1,hg2⟩⟩,hb1⟩;rw[HOS.out]at hg1;rw[HZS.out]at hg2;obtain⟨G1,G2,B1,N1,N2,z1⟩:=zf hg1 hg2 hb1 (show g1<w1.heap.size from Blk.lt hg1) (show g2<w1.heap.size from Blk.lt hg2) hb1.size;clear hg1 hg2 hb1 h3 h4 h5 HS;go_wp2_with fail;obtain⟨T1,A1⟩:=zu (Blk.new w1 #[.slice none 0 0,.string ⟨#[48]⟩] 275) ((J4 w1.heap.size w1).alloc nr (.cells #[.slice none 0 0,.string ⟨#[48]⟩] 275));obtain⟨wt,hwt⟩:=gn (w1.alloc (.cells #[.slice none 0 0,.string ⟨#[48]⟩] 275));have zt:Hid (wt.heap.size=w1.heap.size+1):=by show wt.heap.size=_;rw[<- hwt];simp
 rw[hwt]at T1 A1 |-;obtain⟨gt,hgt⟩:=gn (w1.heap.size);have HGT:=hid hgt;have T1':Hid (Blk wt gt #[.slice none 0 0,.string ⟨#[48]⟩] 275):=by show Blk _ _ _ _;rw[<- hgt];exact T1.out
 try rw[hgt]
 clear T1 hwt hgt;have C0:(wt.alloc (.cells #[.string ⟨#[48]⟩] 23)).cell? ⟨gt+1,0,none⟩=some (.string ⟨#[48]⟩):=by
  have:=(Blk.new wt #[.string ⟨#[48]⟩] 23).cell 0;rw[show wt.heap.size=gt+1 by rw[zt.out,HGT.out]]at this;exact this
 refine (HR _ _ C0).out.mono ?_;rintro e w2 ⟨rfl,hg7,hb2⟩;clear C0;obtain⟨g0,h7⟩:=gn ((wt.alloc (.cells #[.string ⟨#[48]⟩] 23)).heap.size);rw[h7]at hg7 |-;have R7:=hid (NRowT.zeros hg7);have a1:=(J4 wt.heap.size wt).alloc nr (.cells #[.string ⟨#[48]⟩] 23);obtain⟨b2,K7⟩:=zu (a0a a1 hb2) (show wt.heap.size<g0 by rw[<- h7];simp);have Bt:=qx B1 A1.out;have B2:=qx Bt b2.out;obtain⟨G12,G22,T2⟩:=zg ((G1.out.call A1.out).call b2.out) ((G2.out.call A1.out).call b2.out) (T1'.out.call b2.out);clear hg7 hb2 a1 h7;have k0:w2.cell? ⟨g0,0,none⟩=some (.string ⟨#[48]⟩):=by
  refine (R7.out.cell (i:=0) (by simp)).trans ?_;rw[<- a0q];simp[Z3]
 have k1:=R7.out.free 0;have z0':(0:Int)<(n:Int)+1:=by omega
 go_wp2_with fail;obtain⟨W2,hW2⟩:=gn (w2.setCell ⟨g0,0,none⟩ (.string ⟨#[49]⟩));have S0:Hid (NRowT W2 g0 (OF 0)):=by
  show NRowT _ _ _
  rw[<- hW2,<- c0e,<- OZ.out];exact R7.out.set 0 1
 have S1:Hid (Blk W2 g1 (g0o os n).toArray 4):=by rw[<- hW2];exact G12.out.other (by have:=K7.out;have:=N1.out;have:=zt.out;simp;omega) _
 have S2:Hid (Blk W2 g2 (g0o zs n).toArray 4):=by rw[<- hW2];exact G22.out.other (by have:=K7.out;have:=N2.out;have:=zt.out;simp;omega) _
 have ST:Hid (Blk W2 gt #[.slice none 0 0,.string ⟨#[48]⟩] 275):=by rw[<- hW2];exact T2.out.other (by have:=K7.out;have:=HGT.out;have:=zt.out;simp;omega) _
 have SB:Hid (Below w.heap.size w W2):=by rw[<- hW2];exact B2.out.setCell (by have:=K7.out;have:=z1.out;have:=zt.out;simp;omega) _
 have TO:Hid (TabO W2 (gt+1) gt (.slice none 0 0) [] n 0 EF):=⟨ST.out,Cq _ _ _ _,fun i g hi=>absurd hi (by omega),by simp[Value.ownBlock],fun i g hi=>absurd hi (by omega),fun i g hi=>absurd hi (by omega)⟩;have D1:Hid (g1<gt/\g2<gt/\w.heap.size<=gt):=⟨by have:=N1.out;have:=HGT.out;omega,by have:=N2.out;have:=HGT.out;omega,by have:=z1.out;have:=HGT.out;omega⟩;have D2:Hid (gt<g0):=by show gt<g0;have:=K7.out;have:=HGT.out;have:=zt.out;omega
 rw[hW2];clear hW2 k0 k1 z0' R7 G12 G22 T2 B2 b2 K7 Bt T1' A1 G1 G2 B1 N1 N2 z1 zt HGT ST
 go_loopw [8,29] (fun oo ii wr=>∃ r gO rv gs,oo=l0K n gO/\ii=.int .i64 (r:Nat)/\r<=n+1/\Hid (gs.length=r/\gt<gO/\rv.ownBlock≠some gO)/\Hid (TabO wr (gt+1) gt rv gs n r EF)/\Hid (NRowT wr gO (OF r))/\Hid (Blk wr g1 (g0o os n).toArray 4)/\Hid (Blk wr g2 (g0o zs n).toArray 4)/\Hid (Below w.heap.size w wr)) (fun oo ii wr=>n+1-(intOf ii).toNat)
 case atStart=>exact⟨0,g0,_,[],rfl,rfl,K5 _,⟨rfl,D2.out,by simp[Value.ownBlock]⟩,TO,S0,S1,S2,SB⟩
 case round=>
  obtain⟨r,gO,rv,gs,rfl,rfl,hr,hM,hT,hO,hg1,hg2,hB⟩:=hrel;by_cases hlt:r<n+1
  .have q0:decide ((r:Int)<((n+1:Nat):Int))=true:=by simp;omega
   have dr:decide ((r:Int)<(n:Int)+1)=true:=by simp;omega
   have HR0:=hid hlt;clear hr hlt;unfold l0K;go_wp2_with fail;refine (HTR _ _ _ _ _ _ hT.out (by have:=hM.out.1;omega) (by have:=hM.out.1;have:=HR0.out;have:=HN.out;omega) hT.out.blk.lt).out.mono ?_;rintro e w3 ⟨gD,rv',rfl,hgD,hND,hT3,hne,hat,hK⟩;simp only[l0K];obtain⟨T3,ND3,NE3,zD,LD⟩:=zd hT3 hND hne hgD (show gD<w3.heap.size from hND.lt');have keep:∀ b,b<wr.heap.size->b≠gt->rv.ownBlock≠some b->w3.heap[b]?=wr.heap[b]? := fun b h1 h2 h3=>hK.block b h1 h2 (fun e=>h3 e.symm)
   have lO:gO<wr.heap.size:=hO.out.lt';have l1:g1<wr.heap.size:=Blk.lt hg1.out;have l2:g2<wr.heap.size:=Blk.lt hg2.out;have rvge:∀ b,rv.ownBlock=some b->gt+1<=b:=fun b hb=>(hT.out.own.lt b hb).1
   have O3:Hid (NRowT w3 gO (OF r)):=k0d hO.out (keep gO lO (by have:=hM.out.2.1;omega) hM.out.2.2);have G13:Hid (Blk w3 g1 (g0o os n).toArray 4):=k0d hg1.out (keep g1 l1 (by have:=D1.out.1;omega) (fun e=>by have:=rvge _ e;have:=D1.out.1;omega));have G23:Hid (Blk w3 g2 (g0o zs n).toArray 4):=k0d hg2.out (keep g2 l2 (by have:=D1.out.2.1;omega) (fun e=>by have:=rvge _ e;have:=D1.out.2.1;omega))
   have B3:Hid (Below w.heap.size w w3):=⟨hK.os.trans hB.out.os,hK.tape.trans hB.out.tape,hK.output.trans hB.out.output,J0 hB.out.size hK.size,fun k hk=>by
    have s0:=hB.out.size;have d:=D1.out.2.2;exact (keep k (by omega) (by omega) (fun e=>by have:=rvge _ e;omega)).trans (hB.out.block k hk)⟩
   have M3:Hid (gD≠gO/\gD≠g1/\gD≠g2/\gD≠gt/\rv'.ownBlock≠some gO):=by
    refine⟨by omega,by omega,by omega,by have:=hT.out.blk.lt;omega,?_⟩;rcases hat with e | ⟨b,e,hb⟩
    .rw[e];exact hM.out.2.2
    .rw[e];intro e';have:=Ag e';omega
   have SG:Hid (∀ i g,i<r->(gs ++ [gD])[i]?=some g->gD≠g/\g<w3.heap.size):=fun i g hi hg=>by
    have hl:=hM.out.1;have hg':=hg;rw[As (by omega)]at hg';have h1:=(hT.out.rows i g hi hg').lt';have h2:=hK.size;exact⟨by omega,by omega⟩
   clear hT3 hND hne hgD hat hK keep lO l1 l2 rvge;go_wp2_with fail;refine (HR _ _ ((Blk.new w3 _ _).cell 0)).out.mono ?_;rintro e w4 ⟨rfl,hg7,hb2⟩;obtain⟨gN,h7⟩:=gn ((w3.alloc (.cells #[.string ⟨#[48]⟩] 23)).heap.size);rw[h7]at hg7 |-;have R7:=hid (NRowT.zeros hg7);have a1:=(J4 w3.heap.size w3).alloc nr (.cells #[.string ⟨#[48]⟩] 23);obtain⟨b4,K7⟩:=zu (a0a a1 hb2) (show w3.heap.size<gN by rw[<- h7];simp);have T4:=hid (T3.out.call b4.out);have B4:=qx B3 b4.out;obtain⟨QD,QN⟩:=zu (show w.heap.size<=gD by have:=zD.out;have:=hB.out.size;omega) (show w.heap.size<=gN by have:=K7.out;have:=B3.out.size;omega);have l1:g1<w3.heap.size:=Blk.lt G13.out;have l2:g2<w3.heap.size:=Blk.lt G23.out;have lO:gO<w3.heap.size:=O3.out.lt';have lT:gt<w3.heap.size:=T3.out.blk.lt;have lR:∀ b,rv'.ownBlock=some b->b<w3.heap.size:=fun b hb=>(T3.out.own.lt b hb).2
   have ED:Hid (EnD gt gO gN gD g1 g2 r rv' gs):=by
    have k:=K7.out;have d:=LD.out;refine⟨by omega,M3.out.2.2.2.1,fun e=>?_,NE3.out,by omega,by omega,fun e=>M3.out.1 e.symm,by omega,by omega,M3.out.2.1,M3.out.2.2.1,fun i g hi hg=>?_,fun i g hi hg=>(SG.out i g hi hg).1⟩
    .have:=lR _ e;omega
    .have:=(SG.out i g hi hg).2;omega
   have ES:Hid (EnS w4 gt gO gN gD g1 g2 n r rv' gs (OF r) (List.replicate (n+1) 0) (List.replicate (n+1) 0) os zs EF):=⟨T4.out,O3.out.call b4.out,R7.out,ND3.out.call b4.out,G13.out.call b4.out,G23.out.call b4.out⟩;have NO:Hid (rv'.ownBlock≠some gN):=fun e=>by have:=lR _ e;have:=K7.out;omega
   have DG:Hid (gt<gN):=by show gt<gN;have:=K7.out;omega
   have RL:Hid (r<=n):=by show r<=n;have:=HR0.out;omega
   have LG:=hid hM.out.1;clear hg7 hb2 a1 h7 l1 l2 lO lT lR T3 ND3 NE3 zD LD O3 G13 G23 B3 M3 SG R7 K7 T4 hM hT hO hg1 hg2 hB b4 q0
   -- the state of this round
   obtain⟨NXr,DNr,OLr,BNr,BDr,BOr⟩:=zf (NX.out r) (DN.out r) (OL.out r) (fun i j k=>BN.out r i j k RL.out) (fun i j k=>BD.out r i j k RL.out) (fun i=>BO.out r i RL.out);obtain⟨O,hO⟩:=gn (OF r);rw[hO]at NXr DNr OLr BNr BDr BOr ES;clear hO;go_wp2_with fail
   go_loopw [41] (fun ii wr=>∃ i:Nat,ii=.int .i64 (i:Nat)/\i<=n+1/\Hid (EnS wr gt gO gN gD g1 g2 n r rv' gs O (e0m os O n i) (e0m zs O n i) os zs EF)/\Hid (Below w.heap.size w wr)) (fun ii wr=>n+1-(intOf ii).toNat)
   case atStart=>exact⟨0,rfl,K5 _,ES,B4⟩
   case round=>
    clear ES;obtain⟨i,rfl,hi,hS,hB⟩:=hrel;by_cases hlt:i<n+1
    .have q0:decide ((i:Int)<((n+1:Nat):Int))=true:=by simp;omega
     have di:decide ((i:Int)<(n:Int)+1)=true:=by simp;omega
     have f0:=qw i
     have f1:(i:Int)<((n+1:Nat):Int):=by omega
     have f1':(i:Int)<(n:Int)+1:=by omega
     have f2:(i:Int)<=1000:=by have:=HN.out;omega
     have IL:=hid hlt;clear hi hlt;go_wp2_with fail;obtain⟨x,hx⟩:=gn (O.getD i 0);obtain⟨wo,rfl⟩:=qu wr;have hnx:Hid (e0m os O n (i+1)=aIn os x i (n+1-i) (e0m os O n i)):=by show _=_;rw[e0m,hx]
     have hdn:Hid (e0m zs O n (i+1)=aIn zs x i (n+1-i) (e0m zs O n i)):=by show _=_;rw[e0m,hx]
     by_cases hx0:x=0
     .have k0:wo.cell? ⟨gO,i,none⟩=some (.string (a0f x)):=by rw[<- hx];exact hS.out.o.cell (by rw[OLr.out];exact IL.out)
      have q1:((a0f x).toList == [48])=true:=by rw[hx0,a0q];exact c0q
      have e1:Hid (e0m os O n (i+1)=e0m os O n i):=by show _=_;rw[hnx.out,hx0,f0D]
      have e2:Hid (e0m zs O n (i+1)=e0m zs O n i):=by show _=_;rw[hdn.out,hx0,f0D]
      obtain⟨sx,hsx⟩:=gn (a0f x);rw[hsx]at k0 q1;clear hx hx0 hsx
      go_loopw [12] (fun jj wq=>jj=.int .i64 0/\wq=wo) (fun jj wq=>0)
      case atStart=>exact⟨rfl,rfl⟩
      case round=>
       obtain⟨rfl,rfl⟩:=hrel;go_wp2_with fail;go_roundw
       case rel=>exact⟨i+1,by go_num,by have:=IL.out;omega,by rw[e1.out,e2.out];exact hS,hB⟩
       case measure=>simp[intOf]<;>(have:=IL.out;omega)
     .have q1:((a0f x).toList == [48])=false:=a0O (l:=[48]) (by rw[<- a0q];exact b0W hx0);have AOL:Hid (∀ c,(e0m c O n i).length=n+1):=fun c=>c0B c O n i
      obtain⟨BNi,BDi⟩:=zu (fun j k=>BNr.out i j k (by have:=IL.out;omega)) (fun j k=>BDr.out i j k (by have:=IL.out;omega));have hxb:x<=2 ^ 200:=by rw[<- hx];exact BOr.out i (by have:=IL.out;omega)
      obtain⟨HXB,HX⟩:=zu hxb hx;rw[hx]at BNi BDi;obtain⟨nx0,hnx0⟩:=gn (e0m os O n i);obtain⟨dn0,hdn0⟩:=gn (e0m zs O n i);have HNL:Hid (∀ j,(aIn os x i j nx0).length=n+1):=fun j=>by rw[d0i,<- hnx0];exact AOL.out os
      have HDL:Hid (∀ j,(aIn zs x i j dn0).length=n+1):=fun j=>by rw[d0i,<- hdn0];exact AOL.out zs
      rw[hnx0]at BNi hnx hS;rw[hdn0]at BDi hdn hS;obtain⟨sx,hsx⟩:=gn (a0f x);rw[hsx]at q1;have HSX:=hid hsx;clear hx hx0 hsx hnx0 hdn0 hxb AOL
      go_loopw [12] (fun jj wq=>∃ j:Nat,jj=.int .i64 (j:Nat)/\i+j<=n+1/\Hid (EnS wq gt gO gN gD g1 g2 n r rv' gs O (aIn os x i j nx0) (aIn zs x i j dn0) os zs EF)/\Hid (Below w.heap.size w wq)) (fun jj wq=>n+1-(intOf jj).toNat)
      case atStart=>exact⟨0,rfl,by have:=IL.out;omega,hS,hB⟩
      case round=>
       clear hS hB;obtain⟨j,rfl,hj,hS,hB⟩:=hrel;have k0:wr.cell? ⟨gO,i,none⟩=some (.string sx):=by
        refine (hS.out.o.cell (by rw[OLr.out];exact IL.out)).trans ?_;rw[HX.out,HSX.out]
       by_cases hlt:i+j<=n
       .have q2:decide ((i:Int)+(j:Int)<=(n:Int))=true:=by simp;omega
        have f5:=qw j
        have f6:(j:Int)<((n+1:Nat):Int):=by omega
        have f6':(j:Int)<(n:Int)+1:=by omega
        have f7:(j:Int)<=1000:=by have:=HN.out;omega
        have f8:(i:Int)+(j:Int)<((n+1:Nat):Int):=by omega
        have f9:(i:Int)+(j:Int)<(n:Int)+1:=by omega
        have f10:(0:Int)<=(i:Int)+(j:Int):=by omega
        have c1:wr.cell? ⟨g1,j,none⟩=some (.bool (os j)):=(hS.out.b1.cell j).trans (by rw[K6,e0k (by omega)]);have c2:wr.cell? ⟨g2,j,none⟩=some (.bool (zs j)):=(hS.out.b2.cell j).trans (by rw[K6,e0k (by omega)]);have HLT:=hid hlt;obtain⟨zj,hzj⟩:=gn (zs j);obtain⟨oj,hoj⟩:=gn (os j);rw[hoj]at c1;rw[hzj]at c2;obtain⟨HZJ,HOJ⟩:=zu hzj hoj;clear hlt hj hzj hoj;obtain⟨y1,hy1⟩:=gn ((aIn zs x i j dn0).getD (i+j) 0);obtain⟨y2,hy2⟩:=gn ((aIn os x i j nx0).getD (i+j) 0);have p2:(2:Nat) ^ 201=2 ^ 200+2 ^ 200:=by rw[show (201:Nat)=200+1 from rfl,E9]
        have hxb:=HXB.out;have hy1b:y1<=2 ^ 200:=hy1 ▸ BDi.out j (i+j) (by have:=HLT.out;omega) HLT.out;have hy2b:y2<=2 ^ 200:=hy2 ▸ BNi.out j (i+j) (by have:=HLT.out;omega) HLT.out;have dx:=a0b hxb (by omega);have P1:=fun V hV=>hid (g0d V y1 x (a0b hy1b (by omega)) dx (a0b (i:=201) (by rw[p2];exact Nat.add_le_add hy1b hxb) (by omega)) hV)
        have P2:=fun V hV=>hid (g0d V y2 x (a0b hy2b (by omega)) dx (a0b (i:=201) (by rw[p2];exact Nat.add_le_add hy2b hxb) (by omega)) hV)
        have t1:wr.cell? ⟨gD,i+j,none⟩=some (.string (a0f y1)):=by rw[<- hy1];exact hS.out.dn.cell (by rw[HDL.out];have:=HLT.out;omega)
        have t2:wr.cell? ⟨gN,i+j,none⟩=some (.string (a0f y2)):=by rw[<- hy2];exact hS.out.nx.cell (by rw[HNL.out];have:=HLT.out;omega)
        rw[HSX.out]at P1 P2;obtain⟨u1,hu1⟩:=gn (a0f y1);obtain⟨u2,hu2⟩:=gn (a0f y2);rw[hu1]at P1 t1;rw[hu2]at P2 t2;obtain⟨HY1,HY2,HU2⟩:=zg hy1 hy2 hu2;obtain⟨m1,hm1⟩:=gn (a0f (y1+x));obtain⟨m2,hm2⟩:=gn (a0f (y2+x));rw[hm1]at P1;rw[hm2]at P2;obtain⟨HM1,HM2⟩:=zu hm1 hm2;have k1:=k0;have k2:=k0;have HOL:=OLr;clear hm1 hm2;clear hy1 hy2 p2 hxb hy1b hy2b dx hu1 hu2
        go_upto_if 61 with fail
        go_cut [] (fun wx=>Hid (EnS wx gt gO gN gD g1 g2 n r rv' gs O (aIn os x i j nx0) (aIn zs x i (j+1) dn0) os zs EF)/\Hid (Below w.heap.size w wx))
        case first=>
         cases zj
         .have hD0:Hid (aIn zs x i (j+1) dn0=aIn zs x i j dn0):=by show _=_;rw[aIn,HZJ.out,d0w]
          go_wp2_with fail
          go_meet
          exact⟨by rw[hD0.out];exact hS,hB⟩
         .have hD0:Hid (aIn zs x i (j+1) dn0=(aIn zs x i j dn0).set (i+j) (y1+x)):=by show _=_;rw[aIn,HZJ.out,d0g,HY1.out]
          go_wp2_with fail;have ew:IntKind.i64.wrap ((i:Int)+(j:Int))=(i:Int)+(j:Int):=by rw[U0 _ ⟨by omega,by omega⟩]
          have et:((i:Int)+(j:Int)).toNat=i+j:=by omega
          refine a0T 15 2 [0,1,2,3,4,5,6,7,8,9,10,11,12,13] 1 (fun W'=>W'.cell? ⟨gD,i+j,none⟩=some (.string u1)/\W'.cell? ⟨gO,i,none⟩=some (.string sx)) (by kernel_rfl) rfl (by kernel_rfl) (by kernel_rfl) (by kernel_rfl) (by kernel_rfl) ⟨t1,k1⟩ ?_
          iterate 14
           refine⟨_,rfl,?_⟩;apply Exists.intro
           refine⟨.inl ⟨by rfl,?_⟩,?_⟩
           .rintro W' ⟨r1,r2⟩;go_simp;try with_reducible rfl
           go_frame
          refine a0c (i:=14) (by kernel_rfl) rfl rfl ?_;go_wp2_with fail;refine ny (P1 _ (HL.out.below hB.out.drew HLL.out)) fun w5 hbc=>?_;have C1:=hid (show Below wr.heap.size wr w5 from br0.drew.trans hbc);obtain⟨E1,F1⟩:=zu (hS.out.call C1.out) (hB.out.trans (C1.out.mono hB.out.size));have tc1:=(C1.out.cell (a0e t1)).trans t1;have kc1:=(C1.out.cell (a0e k1)).trans k1;clear hbc;go_wp2_with fail;refine⟨⟨tc1,kc1⟩,?_⟩;refine J8 (by kernel_rfl) ?_ _;simp only[b0b,c0t,Aj,K9];have fz1:=E1.out.dn.free (i+j);clear kc1;have S6:Hid (EnS (w5.setCell ⟨gD,i+j,none⟩ (.string m1)) gt gO gN gD g1 g2 n r rv' gs O (aIn os x i j nx0) ((aIn zs x i j dn0).set (i+j) (y1+x)) os zs EF):=by rw[<- HM1.out];exact E1.out.setD ED.out (i+j) (y1+x)
          go_wp2_with fail
          try simp only[b0b]
          go_meet
          exact⟨by rw[hD0.out];exact S6,F1.out.setCell QD.out _⟩
        case rest=>
         obtain⟨S6,B6⟩:=hcut;clear hS hB t1 k1 t2 k2 c1 c2;have c1:wc.cell? ⟨g1,j,none⟩=some (.bool oj):=(S6.out.b1.cell j).trans (by rw[K6,e0k (by have:=HLT.out;omega),HOJ.out]);have k2:wc.cell? ⟨gO,i,none⟩=some (.string sx):=by
          refine (S6.out.o.cell (by rw[HOL.out];exact IL.out)).trans ?_;rw[HX.out,HSX.out]
         have t2:wc.cell? ⟨gN,i+j,none⟩=some (.string u2):=by
          refine (S6.out.nx.cell (by rw[HNL.out j];have:=HLT.out;omega)).trans ?_;rw[HY2.out,HU2.out]
         cases oj
         .have hN0:Hid (aIn os x i (j+1) nx0=aIn os x i j nx0):=by show _=_;rw[aIn,HOJ.out,d0w]
          go_wp2_with fail;go_roundw
          case rel=>exact⟨j+1,by go_num,by have:=HLT.out;omega,by rw[hN0.out];exact S6,B6⟩
          case measure=>simp[intOf]<;>(have:=HLT.out;omega)
         .have hN0:Hid (aIn os x i (j+1) nx0=(aIn os x i j nx0).set (i+j) (y2+x)):=by show _=_;rw[aIn,HOJ.out,d0g,HY2.out]
          go_wp2_with fail;have ew:IntKind.i64.wrap ((i:Int)+(j:Int))=(i:Int)+(j:Int):=by rw[U0 _ ⟨by omega,by omega⟩]
          have et:((i:Int)+(j:Int)).toNat=i+j:=by omega
          refine a0T 15 2 [0,1,2,3,4,5,6,7,8,9,10,11,12,13] 1 (fun W'=>W'.cell? ⟨gN,i+j,none⟩=some (.string u2)/\W'.cell? ⟨gO,i,none⟩=some (.string sx)) (by kernel_rfl) rfl (by kernel_rfl) (by kernel_rfl) (by kernel_rfl) (by kernel_rfl) ⟨t2,k2⟩ ?_
          iterate 14
           refine⟨_,rfl,?_⟩;apply Exists.intro
           refine⟨.inl ⟨by rfl,?_⟩,?_⟩
           .rintro W' ⟨r1,r2⟩;go_simp;try with_reducible rfl
           go_frame
          refine a0c (i:=14) (by kernel_rfl) rfl rfl ?_;go_wp2_with fail;refine ny (P2 _ (HL.out.below B6.out.drew HLL.out)) fun w7 hbc=>?_;have C2:=hid (show Below wc.heap.size wc w7 from br0.drew.trans hbc);obtain⟨E2,F2⟩:=zu (S6.out.call C2.out) (B6.out.trans (C2.out.mono B6.out.size));have tc2:=(C2.out.cell (a0e t2)).trans t2;have kc2:=(C2.out.cell (a0e k2)).trans k2;clear hbc;go_wp2_with fail;refine⟨⟨tc2,kc2⟩,?_⟩;refine J8 (by kernel_rfl) ?_ _;simp only[b0b,c0t,Aj,K9];have fz2:=E2.out.nx.free (i+j);clear kc2;go_wp2_with fail
          try simp only[b0b]
          go_roundw
          case rel=>exact⟨j+1,by go_num,by have:=HLT.out;omega,by rw[hN0.out,<- HM2.out];exact E2.out.setN ED.out (i+j) (y2+x),F2.out.setCell QN.out _⟩
          case measure=>simp[intOf]<;>(have:=HLT.out;omega)
       .have q2:decide ((i:Int)+(j:Int)<=(n:Int))=false:=by simp;omega
        have e1:j=n+1-i:=by omega
        have f7:(j:Int)<=1001:=by have:=HN.out;omega
        have f5:=qw j
        subst e1;clear hj hlt;go_wp2_with fail;go_roundw
        case rel=>exact⟨i+1,by go_num,by have:=IL.out;omega,by rw[hnx.out,hdn.out];exact hS,hB⟩
        case measure=>simp[intOf]<;>(have:=IL.out;omega)
    .have q0:decide ((i:Int)<((n+1:Nat):Int))=false:=by simp;omega
     have di:decide ((i:Int)<(n:Int)+1)=false:=by simp;omega
     have e1:i=n+1:=by omega
     subst e1;rw[NXr.out,DNr.out]at hS;clear hi hlt;have wr1:IntKind.i64.wrap ((r:Int)+1)=((r+1:Nat):Int):=by have:=RL.out;have:=HN.out;rw[U0 _ ⟨by omega,by omega⟩];omega
     go_wp2_with fail;go_roundw
     case rel=>
      refine⟨r+1,gN,rv',gs ++ [gD],rfl,by go_num,by have:=RL.out;omega,⟨by rw[J5,LG.out];rfl,DG.out,NO.out⟩,?_,hS.out.nx,hS.out.b1,hS.out.b2,hB⟩;have h:=hS.out.tab;refine⟨h.blk,h.own,fun i g hi hg=>?_,h.ne,fun i g hi hg=>?_,fun i g hi hg=>?_⟩
      .by_cases hi2:i<r
       .exact h.rows i g hi2 hg
       .obtain rfl:i=r:=by omega
        rw[G8 (by have:=LG.out;omega),LG.out,Bq]at hg;simp at hg;subst hg;exact hS.out.dn
      .by_cases hi2:i<r
       .exact h.sep i g hi2 hg
       .obtain rfl:i=r:=by omega
        rw[G8 (by have:=LG.out;omega),LG.out,Bq]at hg;simp at hg;subst hg;exact ED.out.rD
      .by_cases hi2:i<r
       .exact h.gne i g hi2 hg
       .obtain rfl:i=r:=by omega
        rw[G8 (by have:=LG.out;omega),LG.out,Bq]at hg;simp at hg;subst hg;exact ED.out.tD
     case measure=>simp[intOf]<;>(have:=RL.out;omega)
  .have q0:decide ((r:Int)<((n+1:Nat):Int))=false:=by simp;omega
   have dr:decide ((r:Int)<(n:Int)+1)=false:=by simp;omega
   have e1:r=n+1:=by omega
   subst e1;clear hr hlt;unfold l0K;go_wp2_with fail;go_ret
   refine⟨⟨gt,rfl,D1.out.2.2,?_⟩,hB.out⟩;rw[HEF.out];exact x0j hT.out hM.out.1 (fun i=>by rw[<- HEF.out];exact f0U _ _) (by have:=HN.out;omega)
end
section
open Go.Maps
def d1s (w:World)(g x:Nat)(h:Blk w g #[.string (k0b x),.string ⟨#[48]⟩] 23):
 Calls prog 289 #[.slice (some ⟨g,0,none⟩) 2 2] w fun e w'=>e=.returned (.string (a0f x))/\w=w':=by
 have r0:=h.cell 0;have r1:=h.cell 1;simp at r0 r1;by_cases hx:x=0
 .subst hx;have e1:k0b 0=⟨#[]⟩:=rfl;have e2:a0f 0=⟨#[48]⟩:=a0q;rw[e1]at r0;rw[e2];clear h e1 e2;go_enter func289,ntmps289;go_wp2_with fail
  go_loopw [8] (fun ii wr=>∃ i:Nat,ii=.int .i64 (i:Nat)/\i<=1/\wr=w) (fun ii wr=>2-(intOf ii).toNat)
  case atStart=>exact⟨0,rfl,K5 _,rfl⟩
  case round=>
   obtain⟨i,rfl,hi,rfl⟩:=hrel;rcases Ct i 1 with h0 | h0
   .obtain rfl:i=0:=by omega
    clear hi h0;go_wp2_with fail;go_roundw
    case rel=>exact⟨1,by go_num,by omega,by simp⟩
    case measure=>simp[intOf]
   .obtain rfl:i=1:=by omega
    clear hi h0;go_wp2_with fail;go_ret
    exact⟨rfl,rfl⟩
 .have e1:k0b x=a0f x:=J2 hx;rw[e1]at r0
  have q1:((a0f x).toList == [])=false:=a0O (l:=[]) (fun e=>by
   have h1:=a0y x;rw[e]at h1;have h2:=Go.Lib.nDigits_pos x;simp[ByteArray.size]at h1;omega)
  obtain⟨s,hs⟩:=gn (a0f x);rw[hs]at r0 q1 |-;clear h e1 hs hx;go_enter func289,ntmps289;go_wp2_with fail
  go_loopw [8] (fun ii wr=>ii=.int .i64 0/\wr=w) (fun ii wr=>0)
  case atStart=>exact⟨rfl,rfl⟩
  case round=>
   obtain⟨rfl,rfl⟩:=hrel;go_wp2_with fail;go_ret
   exact⟨rfl,rfl⟩
structure GlS (H:Type)(w1 w:World)(B K:Nat)(c:Int->Nat):Prop where
 bel:Below w1.heap.size w1 w
 ex:∃ (nn:Nat) (D:DataW H),nn<=K/\w.ownsMap prog 3 (plainElem prog 23) B nn D/\ReadsI D c
theorem GlS.mono {H:Type}{w1 w:World}{B K K':Nat}{c c':Int->Nat}(h:GlS H w1 w B K c)(hK:K<=K')(hc:c=c'):GlS H w1 w B K' c':=by
 subst hc;obtain⟨h1,nn,D,h2,h3,h4⟩:=h;exact⟨h1,nn,D,by omega,h3,h4⟩
def l0H {w1 w w':World}{B:Nat}(h:Below w1.heap.size w1 w)(hg:w.grownBy w' (some B))(hB:w1.heap.size<=B):Below w1.heap.size w1 w':=by
 refine⟨hg.os.trans h.os,hg.tape.trans h.tape,hg.output.trans h.output,J0 h.size hg.size,fun i hi=>?_⟩;exact (hg.block i (by have:=h.size;omega) (fun e=>by injection e with e;omega)).trans (h.block i hi)
def n0c {v:Int}(h1 : -100000<=v)(h2:v<=100000):(Lit.int .i64 v).wf=true:=WalkArith.wf_i64 ⟨by omega,by omega⟩
def r0Q {x y a b:Nat}(h1:x<=2 ^ a)(h2:y<=2 ^ b)(h:a+b<=3000):nDigits (x*y)<=4000:=a0b (by rw[Be];exact Ar h1 h2) h
def g0g {x:Nat}(h:nDigits x<=4000):(a0f x).size<=maxLen:=by rw[a0y];unfold maxLen;omega
def b1B {H:Type}(w:World)(a:ByteArray)(n N D:Nat)(ha:a.size<=100000)(he:gPE a=0)(hn:n<=32)(hN:bN (cW a)=N)(hD:bN (qD a)=D)(hND:N<D)(hL:Lay w):
 Calls prog 225 #[.string a,.int .i64 n,.bool false] w fun e w'=>(∃ B nn Dm,e=.returned (.map (some B))/\w.heap.size<=B/\nn<=3000000/\w'.ownsMap prog 3 (plainElem (H:=H) prog 23) B nn Dm/\ReadsI Dm (gV N D false n))/\Below w.heap.size w w':=by
 have HE:=hid (w0M w a n N D ha he hn hN hD hND hL);have HAT:Hid (∀ V gt i k,TabR V gt n (q0b N D n)->i<=n->k<=n->Calls prog 288 #[.pointer (some ⟨gt,0,none⟩),.int .i64 (i:Nat),.int .i64 (k:Nat)] V fun e w'=>e=.returned (.string (a0f (edn N D i k)))/\V=w'):=fun V gt i k hT hi hk=>by
  have:=a1l V gt n i k (q0b N D n) hT hi hk (by omega);unfold q0b at this;rw[h0N hk]at this;exact this
 have HPW:=fun V k (hk:k<=1000) hV=>hid (j0M V k hk hV)
 have EB:Hid (∀ i k,i<=n->k<=n->edn N D i k<=2 ^ 200):=fun i k hi hk=>J0 (o0m hn i k hk) (J6 (by omega) (by omega))
 obtain⟨HL,HN,HND⟩:=zg hL hn hND;have wn:=qy n (by omega)
 have hmm:=@run_makeMap prog;clear ha he hn hN hD hND hL;go_enter func225,ntmps225;go_wp2_with fail;refine HE.out.mono ?_;rintro e w1 ⟨⟨gt,rfl,hgt,hT⟩,hb1⟩;obtain⟨T1,B1⟩:=zu hT hb1;clear hT hb1 HE hgt;have TK:Hid (∀ V,Below w1.heap.size w1 V->TabR V gt n (q0b N D n)):=fun V hV=>T1.out.call hV
 have LK:Hid (∀ V,Below w1.heap.size w1 V->Lay V):=fun V hV=>(HL.out.call B1.out).call hV
 have HR0:Hid (∀ V,Below w1.heap.size w1 V->∃ g c,n+1<=c/\c<=9223372036854775807/\V.cell? ⟨gt,0,none⟩=some (.slice (some ⟨g,0,none⟩) (n+1) c)):=fun V hV=>by
  obtain⟨-,g,c,h1,h2,h3,-,-⟩:=TK.out V hV;exact⟨g,c,h1,h2,h3⟩
 have G0:Hid (GlS H w1 (w1.alloc (.map #[] 0)) w1.heap.size 0 (fun _=>0)):=⟨br0.alloc nr _,0,.map [],O4 _,World.ownsMap_made _ _ _ _,ReadsI.nil⟩;obtain⟨g,c,hc1,hc2,r0⟩:=HR0.out _ G0.out.bel;clear T1;go_wp2_with fail;obtain⟨W1,hW1⟩:=gn (w1.alloc (.map #[] 0));obtain⟨B,hB⟩:=gn (w1.heap.size);have HB:=hid hB;have G1:Hid (GlS H w1 W1 B 0 (fun _=>0)):=by rw[<- hW1,<- hB];exact G0.out
 rw[hW1,hB];clear hW1 hB G0 r0 hc1 hc2
 go_loopw [22] (fun ii wr=>∃ i:Nat,ii=.int .i64 (i:Nat)/\i<=n+1/\Hid (GlS H w1 wr B (i*64000) (c1 N D n i 0))) (fun ii wr=>n+1-(intOf ii).toNat)
 case atStart=>exact⟨0,rfl,K5 _,hid (by rw[z0E];exact G1.out)⟩
 case round=>
  obtain⟨i,rfl,hi,hG⟩:=hrel;by_cases hlt:i<n+1
  .have q0:decide ((i:Int)<((n+1:Nat):Int))=true:=by simp;omega
   have di:decide ((i:Int)<(n:Int)+1)=true:=by simp;omega
   have IL:=hid hlt;have f2:(i:Int)<=100:=by have:=HN.out;omega
   clear hi hlt;go_wp2_with fail
   go_loopw [27] (fun ss wq=>∃ s:Nat,ss=.int .i64 (s:Nat)/\s<=n+1/\Hid (GlS H w1 wq B (i*64000+s*1600) (c1 N D n i s))) (fun ss wq=>n+1-(intOf ss).toNat)
   case atStart=>exact⟨0,rfl,K5 _,hid (hG.out.mono (by omega) rfl)⟩
   case round=>
    clear hG;obtain⟨s,rfl,hs,hG⟩:=hrel;by_cases hlt:s<n+1
    .have q0:decide ((s:Int)<((n+1:Nat):Int))=true:=by simp;omega
     have d30:decide ((s:Int)<(n:Int)+1)=true:=by simp;omega
     have SL:=hid hlt;have f3:(s:Int)<=100:=by have:=HN.out;omega
     have A1:=fun V hV=>hid (HAT.out V gt i s (TK.out V hV) (by have:=IL.out;omega) (by have:=SL.out;omega))
     obtain⟨x,hx⟩:=gn (edn N D i s);rw[hx]at A1;have bx:x<=2 ^ 200:=hx ▸ EB.out i s (by have:=IL.out;omega) (by have:=SL.out;omega);by_cases hx0:x=0
     .have q1:((a0f x).toList == [48])=true:=by rw[hx0,a0q];exact c0q
      have hsk:=hid (z0F (N:=N) (D:=D) (n:=n) (i:=i) (s:=s) (hx.trans hx0));obtain⟨sx,hsx⟩:=gn (a0f x);rw[hsx]at A1 q1;clear hs hlt hx bx hx0 hsx;go_wp2_with fail;refine (A1 _ hG.out.bel).out.mono ?_;rintro e w2 ⟨rfl,rfl⟩;go_wp2_with fail;go_roundw
      case rel=>exact⟨s+1,by go_num,by have:=SL.out;omega,hid (by rw[hsk.out];exact hG.out.mono (by omega) rfl)⟩
      case measure=>simp[intOf]<;>(have:=SL.out;omega)
     .have q1:((a0f x).toList == [48])=false:=a0O (l:=[48]) (by rw[<- a0q];exact b0W hx0);obtain⟨hbl,nn,Dm,hnn,hO,hR⟩:=hG.out;have hcl:=c1j (N:=N) (D:=D) HND.out (n:=n) (i:=i) (s:=s) (by have:=IL.out;omega) (by omega) (i:Int);have hcl2:=c1j (N:=N) (D:=D) HND.out (n:=n) (i:=i) (s:=s+1) (by have:=IL.out;omega) (by have:=SL.out;omega) (i:Int);have hgv:=l0k HND.out false n (i:Int);have hstep:=t0u N D n i s;rw[hstep]at hcl2;rw[hx]at hstep hcl2;unfold k0j at hcl2;rw[J3 rfl]at hcl2;have hp2:2 ^ (n-s)<=2 ^ 32:=J6 (by omega) (by have:=HN.out;omega);have hpn:2 ^ n<=2 ^ 32:=J6 (by omega) HN.out;have hxp:0<x*2 ^ (n-s):=Eb (by omega) (Gb (by omega));have hRP:=ReadsI.put hR (i:Int) hxp;obtain⟨HRP,HO,HNN,HBL,HST⟩:=zd hRP hO hnn hbl hstep;obtain⟨y,hy⟩:=gn (c1 N D n i s (i:Int));have HLK:Hid (∀ V,Below wr.heap.size wr V->(Instr.lookup 211 (.map (some B)) (.int .i64 (i:Nat)) false).run prog V=.ok (.string (k0b y)) V):=fun V hV=>by
       have:=w0G (HO.out.kept (row:=none) ⟨hV.os,hV.tape,hV.output,hV.size,fun k hk _=>hV.block k hk⟩ (by simp)) hR (n0c (v:=(i:Int)) (by omega) (by omega));rw[hy]at this;exact this
      rw[hy]at HRP hcl hcl2;have dx:=a0b bx (by omega);have dp:=a0b hp2 (by omega);have dxp:=a0b (i:=32) (show x*2 ^ (n-s)<=2 ^ 32 by omega) (by omega);have dy:=a0b (i:=32) (show y<=2 ^ 32 by omega) (by omega);have ds:=a0b (i:=32) (show y+x*2 ^ (n-s)<=2 ^ 32 by omega) (by omega);have P0:=fun V hV=>HPW V (n-s) (by have:=HN.out;omega) hV
      have P1:=fun V hV=>hid (h0w V x (2 ^ (n-s)) dx dp dxp hV)
      have P2:=fun V hV=>hid (g0d V y (x*2 ^ (n-s)) dy dxp ds hV)
      have POR:=fun V g h=>hid (d1s V g y h)
      have hsz:=hid (g0g ds);have wsub:IntKind.i64.wrap ((n:Int)-(s:Int))=((n-s:Nat):Int):=by have:=HN.out;have:=SL.out;rw[U0 _ ⟨by omega,by omega⟩];omega
      obtain⟨sx,hsx⟩:=gn (a0f x);obtain⟨sp,hsp⟩:=gn (a0f (2 ^ (n-s)));obtain⟨sxp,hsxp⟩:=gn (a0f (x*2 ^ (n-s)));obtain⟨sy,hsy⟩:=gn (a0f y);obtain⟨sz,hszz⟩:=gn (a0f (y+x*2 ^ (n-s)));obtain⟨cy,hcy⟩:=gn (k0b y);rw[hsx]at A1 q1;rw[hsp]at P0;rw[hsx,hsp,hsxp]at P1;rw[hsy,hsxp,hszz]at P2;rw[hsy,hcy]at POR;rw[hcy]at HLK;rw[hszz]at hsz HRP;clear hs hlt hx bx hx0 hsx hcl hcl2 hgv hstep hp2 hpn hxp hRP hbl hnn hO hR hy dx dp dxp dy ds hsp hsxp hsy hszz hcy;have lk:=HLK.out wr br0;have C2:Blk (wr.alloc (.cells #[.string cy,.string ⟨#[48]⟩] 23)) wr.heap.size #[.string cy,.string ⟨#[48]⟩] 23:=Blk.new wr #[.string cy,.string ⟨#[48]⟩] 23;have A2:=hid (show Below wr.heap.size wr (wr.alloc (.cells #[.string cy,.string ⟨#[48]⟩] 23)) from br0.alloc nr _);have F2:=qx HBL A2.out;go_wp2_with fail;refine (A1 _ hG.out.bel).out.mono ?_;rintro e w2 ⟨rfl,rfl⟩;go_wp2_with fail;refine (POR _ _ C2).out.mono ?_;rintro e w2 ⟨rfl,rfl⟩;clear lk C2;go_wp2_with fail;refine zx (A1 _ F2.out) ?_;go_wp2_with fail;refine nw (P0 _ (LK.out _ F2.out)) A2 fun w3 A3=>?_;go_wp2_with fail;refine nw (P1 _ (LK.out _ (a0a HBL.out A3.out))) A3 fun w4 A4=>?_;go_wp2_with fail;refine nw (P2 _ (LK.out _ (a0a HBL.out A4.out))) A4 fun w5 A5=>?_;go_wp2_with (at_mapUpdate;refine wpList_mapUpdate_own _ rfl _ _ _ 211 rfl 3 23 (int_keyed H9) Kr _ B nn _ rfl (HO.out.kept (row:=none) ⟨A5.out.os,A5.out.tape,A5.out.output,A5.out.size,fun k hk _=>A5.out.block k hk⟩ (by simp)) (by have:=HNN.out;have:=HN.out;have:=IL.out;have:=SL.out;unfold maxLen;omega) _ _ _ rfl rfl (keyOf_int_mk H9 (n0c (v:=(i:Int)) (by omega) (by omega))) _ [] (plainElem_string Fo hsz.out) ?_;intro w6 hown hgrow)
      obtain⟨OW,B6⟩:=zu hown (l0H (a0a HBL.out A5.out) hgrow (by rw[HB.out];exact O4 _));clear hown hgrow HLK;go_roundw
      case rel=>
       refine⟨s+1,by go_num,by have:=SL.out;omega,hid ⟨B6.out,nn+1,_,by have:=HNN.out;omega,OW.out,?_⟩⟩;rw[HST.out];exact HRP.out
      case measure=>simp[intOf]<;>(have:=SL.out;omega)
    .have q0:decide ((s:Int)<((n+1:Nat):Int))=false:=by simp;omega
     have d30:decide ((s:Int)<(n:Int)+1)=false:=by simp;omega
     have e1:s=n+1:=by omega
     subst e1;clear hs hlt;have hrow:=hid (w0W N D n i);go_wp2_with fail;go_roundw
     case rel=>exact⟨i+1,by go_num,by have:=IL.out;omega,hid (hG.out.mono (by have:=HN.out;omega) hrow.out)⟩
     case measure=>simp[intOf]<;>(have:=IL.out;omega)
  .have q0:decide ((i:Int)<((n+1:Nat):Int))=false:=by simp;omega
   have di:decide ((i:Int)<(n:Int)+1)=false:=by simp;omega
   have e1:i=n+1:=by omega
   subst e1;clear hi hlt;obtain⟨hbl,nn,Dm,h1,h2,h3⟩:=hG.out;obtain⟨HBL,H1,H2,H3⟩:=zc hbl h1 h2 h3;clear hbl h1 h2 h3;go_wp2_with fail;go_ret
   refine⟨⟨B,nn,Dm,rfl,by rw[<- HB.out];exact B1.out.size,by have:=H1.out;have:=HN.out;omega,H2.out,?_⟩,a0a B1.out HBL.out⟩;have e2:c1 N D n (n+1) 0=gV N D false n:=funext fun v=>w0X HND.out n v
   rw[<- e2];exact H3.out
end
end Go.Proofs.YtfkpfpobmobnbaaGreatDoor
