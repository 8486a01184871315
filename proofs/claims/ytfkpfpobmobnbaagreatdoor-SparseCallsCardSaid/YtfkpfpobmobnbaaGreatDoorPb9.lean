import Derived.Test.YtfkpfpobmobnbaaGreatDoorPb8
set_option linter.all false
set_option maxRecDepth 100000
set_option maxHeartbeats 8000000
namespace Go.Proofs.YtfkpfpobmobnbaaGreatDoor
open Go.Proofs.Tryz Go.RowKit
open Go.Lib (decDigits nDigits)
def q0V {D:Nat}(hD:0<D)(l:List UInt8):s1 0 D l 0 0=some (0,0):=by
 have ht:c0a 0 D 0 1 l=(true,0,0):=by
  rw[c0a.eq_def];simp[sdB,sdV]
 rw[h0h hD,ht]
 rfl
def g0W {D:Nat}(hD:0<D)(two:Bool)(l:List UInt8):i0f 0 D two l=some 0:=by
 unfold i0f;rw[q0V hD];simp only;rw[q0V hD];cases two<;>rfl
def s0A {D:Nat}(hD:0<D)(two:Bool)(n:Nat):gL 0 D two n=0:=by
 unfold gL;rw[a0E (Q:=fun _=>false) (fun l _=>by rw[g0W hD];rfl)];exact c0s n
def j0O {D:Nat}(hD:0<D)(two:Bool)(n:Nat)(v:Int):gV 0 D two n v=if v=0 then 2 ^ n else 0:=by
 unfold gV;by_cases h:v=0
 .rw[J3 h,a0E (Q:=fun _=>true) (fun l _=>by rw[g0W hD,h];rfl)];exact j0X n
 .rw[J2 h,a0E (Q:=fun _=>false) (fun l _=>by rw[g0W hD];simp;exact fun e=>h e.symm)];exact c0s n
def j0i {a:ByteArray}(h:gPE a=0):qE a=0/\iM (cW a)=false:=by
 unfold gPE at h
 split at h
 .rename_i he;exact absurd h he
 .rename_i he
  split at h
  .cases h
  .rename_i hm
   refine⟨by simpa using he,?_⟩;cases hi:iM (cW a)
   .rfl
   .exact absurd (.inl hi) hm
def h0m {a:ByteArray}(h:gPE a=0)(h0:a≠⟨#[48]⟩):0<bN (cW a):=by
 obtain⟨h1,h2⟩:=j0i h;obtain⟨v1,v2,-,-,-,v6⟩:=t0N h1;rw[b0Z h2]at v1 v6;rcases H8 (bN (cW a)) with e | e
 .refine absurd ?_ h0;rw[e,Nat.gcd_zero_left]at v1;rw[v6,e,v1,h2];apply b0f
  rw[b0U,c0f]
  rfl
 .exact e
def i0q {a:ByteArray}(h:a=⟨#[48]⟩):bN (cW a)=0/\bN (qD a)=1:=by
 subst h;have e:(⟨#[48]⟩:ByteArray)=txB false 0 1:=by
  apply b0f
  rw[b0U,c0f]
  rfl
 have h1:=z0x false 0 1;have h2:=z0y false 0 1;rw[<- e]at h1 h2
 constructor
 .unfold bN;rw[h1];show dv (decDigits 0)=0
  rw[g0i]
 .unfold qD;rw[h2]
  rfl
def k0J {a:ByteArray}(h:gPE a=0){j:Nat}(hj:j<=256):nDigits (bN (cW a)*2 ^ j)<=4000:=by
 have h1:=h;unfold gPE at h1
 split at h1
 .rename_i he;exact absurd h1 he
 .rename_i he
  split at h1
  .cases h1
  .rename_i hm
   split at h1
   .cases h1
   .rename_i hl
    have hp:=g0E (by simpa using he) (fun e=>hm (.inl e)) hl;have a1:nDigits (bN (cW a))<=eN:=a0l (by unfold eN;omega) hp.2.2.1;have a2:nDigits (2 ^ j)<=78:=a0l (by omega) (Di (J6 (by omega) hj) (by decide));exact J0 (b1e a1 a2 (by omega)) (by unfold eN;omega)
def glI (c:Int->Nat)(t n i:Nat):List (ByteArray×ByteArray):=(List.range i).filterMap fun (j:Nat)=>if c ((j:Int)-n)=0 then none else some (zB ((j:Int)-n),shB (c ((j:Int)-n)) t)
def y0L (c:Int->Nat)(t n:Nat):glI c t n (2*n+1)=glM c t n:=rfl
def m0B {c:Int->Nat}{t n i:Nat}{p:ByteArray×ByteArray}(h:p∈glI c t n i):∃ j:Nat,j<i/\p.1=zB ((j:Int)-n):=by
 unfold glI at h;rw[Nr]at h;obtain⟨j,hj,h⟩:=h;rw[Gj]at hj
 split at h
 .cases h
 .simp only[Az]at h;exact⟨j,hj,by rw[<- h]⟩
def My:=@List.range_succ
def Ik:=@List.filterMap_append
def j0J (c:Int->Nat)(t n i:Nat):glI c t n (i+1)=glI c t n i++if c ((i:Int)-n)=0 then [] else [(zB ((i:Int)-n),shB (c ((i:Int)-n)) t)]:=by
 unfold glI;rw[My,Ik]
 congr 1
 by_cases h:c ((i:Int)-n)=0
 .simp[h]
 .simp[h]
theorem s0x (c:Int->Nat)(t n:Nat):∀ i,(glI c t n i).Pairwise (fun x y=>x.1≠y.1)
 | 0=>List.Pairwise.nil
 | i+1=>by
  rw[j0J,Lz];refine⟨s0x c t n i,by split<;>simp,fun x hx y hy e=>?_⟩;obtain⟨j,hj,e1⟩:=m0B hx
  split at hy
  .cases hy
  .simp only[Kb]at hy;rw[hy,e1]at e;have:=g0U e;omega
def Ga:=@List.length_filterMap_le
def s0y (c:Int->Nat)(t n i:Nat):(glI c t n i).length<=i:=by
 unfold glI;refine J0 (Ga _ _) ?_;simp
def y0M {c:Int->Nat}{t n i:Nat}(ht:t≠0)(h1:nDigits (c ((i:Int)-n))<=4000)(h2:nDigits t<=4000):i0T (a0p (glI c t n i)) (zB ((i:Int)-n)) (shB (c ((i:Int)-n)) t)=a0p (glI c t n (i+1)):=by
 by_cases h0:c ((i:Int)-n)=0
 .rw[j0J,J3 h0,h0,g0A,i0T,J3 rfl,Cz]
 .rw[j0J,J2 h0];refine f0C (w0m ht h1 h2 h0) ?_ (s0x c t n i);intro x hx e;obtain⟨j,hj,e1⟩:=m0B hx;rw[e1]at e;have:=g0U e;omega
def v0q {c:Int->Nat}{t n r:Nat}(ht:t≠0)(h1:nDigits r<=4000)(h2:nDigits t<=4000):i0T (a0p (glI c t n (2*n+1))) b0d (shB r t)=a0p (glP c t n r):=by
 unfold glP;rw[<- y0L];by_cases h0:r=0
 .rw[J3 h0,h0,g0A,i0T,J3 rfl,Cz]
 .rw[J2 h0];refine f0C (w0m ht h1 h2 h0) ?_ (s0x c t n _);intro x hx e;obtain⟨j,hj,e1⟩:=m0B hx;rw[e1]at e;exact e0t _ (by rw[e])
def lfI (c:Int->Nat)(t n i:Nat):Nat:=t-a0m (fun j=>c ((j:Int)-n)) i
def v0g (c:Int->Nat)(t n:Nat):lfI c t n 0=t:=by simp[lfI,a0m]
def v0h (c:Int->Nat)(t n i:Nat):lfI c t n i-c ((i:Int)-n)=lfI c t n (i+1):=by unfold lfI;rw[a0m];omega
section
variable {N D : Nat} (h : N < D)
include h
theorem b1n {two:Bool}{n i:Nat}(hi:i<=2*n):gV N D two n ((i:Int)-n)<=lfI (gV N D two n) (2 ^ n) n i:=by
 have h1:=h0M h two n;have h2:=a0Q (f:=fun j=>gV N D two n ((j:Int)-n)) (show i+1<=2*n+1 by omega);rw[a0m]at h2;unfold lfI;omega
theorem y0v (two:Bool)(n:Nat):lfI (gV N D two n) (2 ^ n) n (2*n+1)=gL N D two n:=by
 have h1:=h0M h two n;unfold lfI;omega
def o3 (N D n i j:Nat):Nat:=if n<=j/\j<n+i then gV N D false n ((j:Int)-n) else 0
omit h in
theorem y0n (N D n j:Nat):o3 N D n 0 j=0:=by unfold o3;rw[J2 (by omega)]
theorem y0o (n i j:Nat):o3 N D n (i+1) j=if j=n+i then cvo (edn N D i) pw2 n else o3 N D n i j:=by
 by_cases e:j=n+i
 .rw[J3 e];unfold o3;rw[J3 (by omega),<- e0K h,e];rw[show (((n+i:Nat):Int)-n)=(i:Int) by omega,w0O,J3 (by omega),Ao]
 .rw[J2 e];unfold o3;by_cases h1:n<=j/\j<n+i
  .rw[J3 h1,J3 (by omega)]
  .rw[J2 h1,J2 (by omega)]
theorem b1c {n j:Nat}(hj:j<=2*n):o3 N D n (n+1) j=gV N D false n ((j:Int)-n):=by
 unfold o3;by_cases h1:n<=j/\j<n+(n+1)
 .rw[J3 h1]
 .rw[J2 h1];unfold gV;rw[a0E (Q:=fun _=>false) (fun l _=>?_),c0s];rw[Ac];unfold i0f;cases s1 N D l 0 0 with
  | none=>simp
  | some xp=>simp;omega
theorem b1G (two:Bool){n:Nat}(hn:n<=256):nDigits (gL N D two n)<=4000:=q0n (J0 (b1F h two n) (J6 (by omega) hn))
theorem b1E (two:Bool){n:Nat}(v:Int)(hn:n<=256):nDigits (gV N D two n v)<=4000:=q0n (J0 (l0k h two n v) (J6 (by omega) hn))
end
def v0p {D:Nat}(hD:0<D)(two:Bool)(n:Nat):a0p (glP (gV 0 D two n) (2 ^ n) n (gL 0 D two n)) = [(⟨#[48]⟩,⟨#[49]⟩)]:=by
 have h1:shB (2 ^ n) (2 ^ n)=⟨#[49]⟩:=by
  have e1:shB (2 ^ n) (2 ^ n)=shB 1 1:=by
   have:=Jo (n:=1) (d:=1) (n0e n);rw[Hn,Int.one_mul]at this;unfold shB;rw[f0L,f0L,this]
   rfl
  rw[e1,i0n (by omega) (by rw[b0o];omega) (by rw[b0o];omega)];have e2:mkRat ((1:Nat):Int) 1=1:=by decide
  rw[e2];apply b0f
  rw[txQ,b0U,show (1:Rat).num.natAbs=1 from rfl,show (1:Rat).den=1 from rfl,show decide ((1:Rat).num<0)=false from by decide,f0X]
  rfl
 have z0:zB 0=⟨#[48]⟩:=by rw[show (0:Int)=((0:Nat):Int) from rfl,n0a,a0q]
 have h2:a0p (glP (gV 0 D two n) (2 ^ n) n (gL 0 D two n))=a0p [(⟨#[48]⟩,⟨#[49]⟩)]:=by
  refine d0X (s0v _ _ _ _) (by simp) fun p=>?_
  rw[d0K,Kb]
  constructor
  .rintro (⟨v,-,-,hv,rfl⟩ | ⟨hr,-⟩)
   .by_cases h0:v=0
    .rw[j0O hD,J3 h0,h0,z0,h1]
    .exact absurd (by rw[j0O hD,J2 h0]) hv
   .exact absurd (s0A hD two n) hr
  .rintro rfl;refine .inl ⟨0,by omega,by omega,?_,?_⟩
   .rw[j0O hD,J3 rfl];exact n0e n
   .rw[j0O hD,J3 rfl,z0,h1]
 rw[h2];unfold a0p;simp
def h0Y (n:Nat)(s:ByteArray):ByteArray:=z0U (fun q=>q⁻¹ ^ n) s
def l0M (n:Nat)(s:ByteArray):Int:=b1b (fun q=>q⁻¹ ^ n) s
def g0J (a:ByteArray):Int:=if gPE a≠0 then gPE a else if a=⟨#[48]⟩ then 6 else 0
def ffM (reach:Int)(one:Bool):Nat:=if one=true then reach.toNat else 2*reach.toNat
def g0L (a:ByteArray)(n:Int)(two:Bool):(glB a n two).size<=10000:=by
 unfold glB
 split
 .exact c0W _
 .exact K5 _
def e0F (f:Rat->Rat->Rat)(s t:ByteArray):(b0D f s t).size<=10000:=by
 unfold b0D
 split
 .exact c0W _
 .exact K5 _
def y0D {a:ByteArray}(h:g0J a=0):gPE a=0/\a≠⟨#[48]⟩:=by
 unfold g0J at h
 split at h
 .rename_i h1;exact absurd h h1
 .rename_i h1
  refine⟨Ak h1,fun e=>?_⟩;rw[J3 e]at h;cases h
def l0h {a:ByteArray}(h:g0J a=0):qE a=0/\0<(vQ a).num:=by
 obtain⟨h1,h2⟩:=y0D h;obtain⟨hq,hm⟩:=j0i h1;obtain⟨e1,e2,e3⟩:=i0W hq;refine⟨hq,?_⟩;have hp:=h0m h1 h2;have e4:iD (cW a)=cW a:=b0Z hm;rw[e4]at e2;have h3:¬ (vQ a).num<0:=by
  have:=e1;rw[hm]at this;simpa using this
 omega
def b1y {a:ByteArray}(h:g0J a=0):vQ a≠0:=fun e=>by
 have:=(l0h h).2;rw[e]at this;exact absurd this (by decide)
structure CutR (s W B D:ByteArray)(S M I fb:Bool)(k:Nat):Prop where
 sl:∀ w,Calls prog 171 #[.string s] w fun e w'=>e=.returned (.int .i64 k)/\w=w'
 kle:k<=s.size
 cutW:s.extract 0 k=W
 cutB:S=true->s.extract (k+1) s.size=B
 has:S=decide (k<s.size)
 int:∀ w,Calls prog 172 #[.string W] w fun e w'=>e=.returned (.tuple #[.bool M,.string D,.bool I])/\w=w'
 form:∀ w,Calls prog 173 #[.string B] w fun e w'=>e=.returned (.bool fb)/\w=w'
def t0i (s:ByteArray)(hs:s.size<=9223372036854775807):CutR s (cW s) (cB s) (iD (cW s)) (cS s) (iM (cW s)) (iB (cW s)) (fB (cB s)) (cW s).size:=by
 have key:∀ k,j0G s.data.toList k->k=(cW s).size:=by
  intro k hk;obtain⟨h1,h2,-⟩:=k0C hk;rw[h2];simp;omega
 have ex:∃ k,j0G s.data.toList k:=by
  rcases g0z s.data.toList with hn | ⟨A,B,hA,e⟩
  .exact⟨s.data.toList.length,O4 _,fun j b _ hb=>hn b (U7 hb),fun h=>absurd h (Hq _)⟩
  .refine⟨A.length,by rw[e];simp,fun j b hj hb=>?_,fun _=>by rw[e];simp⟩;rw[e,As hj]at hb;exact hA b (U7 hb)
 obtain⟨k,hk⟩:=ex;obtain⟨h1,h2,h3,h4⟩:=k0C hk;have hk':=key k hk;subst hk'
 exact {
  sl:=fun w=>(u0A w s (by omega)).mono (by
   rintro e w' ⟨⟨j,rfl,hj⟩,rfl⟩;rw[key j hj];exact⟨rfl,rfl⟩)
  kle:=h1
  cutW:=h2.symm
  cutB:=fun h=>(h4 (by rw[h3]at h;simpa using h)).symm
  has:=h3
  int:=fun w=>i0r w (cW s) (by have:=k0c s;omega)
  form:=fun w=>f0e w (cB s) (by have:=m0V s;omega) }
def RetR (x:Int)(m:Bool)(n d:Nat)(e:Ending)(w':World):Prop:=∃ v,e=.returned (.tuple #[v,.int .i64 x])/\(x=0->∃ N D,v=.agg #[.bool m,N,D]/\IsN .i64 w' N n/\IsN .i64 w' D d)/\(x≠0->v=.agg #[.bool false,.slice none 0 0,.slice none 0 0])
theorem RetR.err {x:Int}{m:Bool}{n d:Nat}{w':World}(h:x≠0):RetR x m n d (.returned (.tuple #[.agg #[.bool false,.slice none 0 0,.slice none 0 0],.int .i64 x])) w':=⟨_,rfl,fun e=>absurd e h,fun _=>rfl⟩
def Ll:=@Go.Proofs.Tryz.results71
def a1I (w:World)(s W B D:ByteArray)(S M I fb:Bool)(k:Nat)(hs:s.size<=9223372036854775807)(HC:CutR s W B D S M I fb k)
 (h:(I && (!S || (decide (D≠⟨#[48]⟩) && fb && decide (B≠⟨#[48]⟩) && decide (B≠⟨#[49]⟩))))=false):
 qb 71 #[.string s] w (.tuple #[.agg #[.bool false,.slice none 0 0,.slice none 0 0],.int .i64 3]):=by
 have key:(I=false)\/(I=true/\S=true/\(D=⟨#[48]⟩\/(¬ D=⟨#[48]⟩/\(fb=false\/(fb=true/\(B=⟨#[48]⟩\/(¬ B=⟨#[48]⟩/\B=⟨#[49]⟩))))))):=by
  by_cases h1:D=⟨#[48]⟩<;>by_cases h2:B=⟨#[48]⟩<;>by_cases h3:B=⟨#[49]⟩<;>cases I<;>cases S<;>cases fb<;>simp[h1,h2,h3]at h |-
 have HK:=hid HC;have kle:=HC.kle;have hlt:=HC.has;obtain⟨cw,cb⟩:=zu HC.cutW HC.cutB;clear HC h;obtain⟨t0,t1⟩:=zu (Blk.new w #[.bool false,.slice none 0 0,.slice none 0 0] 81) ((J4 w.heap.size w).alloc nr (.cells #[.bool false,.slice none 0 0,.slice none 0 0] 81));obtain⟨d0,d1,d2⟩:=qz t0.out;obtain⟨e0,e1,e2⟩:=qq t0.out;have ht:∀ {b:Bool},b=decide (k<s.size)->decide (k<s.size)=b:=fun h=>h.symm
 have kle2:S=true->k+1<=s.size:=fun h=>by rw[h]at hlt;have:=Am hlt.symm;omega
 have wk2:S=true->IntKind.i64.wrap ((k:Int)+1)=(k:Int)+1:=fun h=>by have:=kle2 h;rw[U0 _ ⟨by omega,by omega⟩]
 rcases key with rfl | ⟨rfl,rfl,rfl | ⟨h1,rfl | ⟨rfl,rfl | ⟨h2,rfl⟩⟩⟩⟩
 focus
  cases S
  focus
   have q0:=ht hlt
  rotate_left
  focus
   have q0:=ht hlt;have kle3:=kle2 rfl;have wk:=wk2 rfl
 rotate_left 2
 focus
  have q0:=ht hlt;have kle3:=kle2 rfl;have wk:=wk2 rfl
 rotate_left
 focus
  have q0:=ht hlt;have kle3:=kle2 rfl;have wk:=wk2 rfl;have i1:=a0O (l:=[48]) h1
 rotate_left
 focus
  have q0:=ht hlt;have kle3:=kle2 rfl;have wk:=wk2 rfl;have i1:=a0O (l:=[48]) h1
 rotate_left
 focus
  have q0:=ht hlt;have kle3:=kle2 rfl;have wk:=wk2 rfl;have i1:=a0O (l:=[48]) h1
 all_goals
  clear hlt ht kle2 wk2;go_enter func71,ntmps71
  go_wp2_with (first
   | (go_at_call 171;refine (HK.out.sl _).mono ?_;rintro e w1 ⟨rfl,rfl⟩)
   | (go_at_call 172;rw[cw.out];refine (HK.out.int _).mono ?_;rintro e w2 ⟨rfl,rfl⟩)
   | (go_at_call 173;(first | rw[cb.out trivial] | rw[cb.out rfl]);refine (HK.out.form _).mono ?_;rintro e w3 ⟨rfl,rfl⟩)
   | fail)
  obtain⟨s1,s2⟩:=c0C t0.out false none none 0 0 0 0;obtain⟨f0,f1,f2⟩:=qz s2;refine C7 (v:=.tuple #[.agg #[.bool false,.slice none 0 0,.slice none 0 0],.int .i64 3]) (by simp[results,Ll,go_sem,f0,f1,f2]) rfl ⟨rfl,?_⟩
  first | exact t1.out | exact ((t1.out.setCell nr _).setCell nr _).setCell nr _
def x0O (w:World)(s W B D:ByteArray)(S M fb:Bool)(k:Nat)(hs:s.size<=9223372036854775807)(HC:CutR s W B D S M true fb k)
 (h:S=false\/(S=true/\¬ D=⟨#[48]⟩/\¬ B=⟨#[48]⟩/\¬ B=⟨#[49]⟩/\fb=true)) (hl:4000<D.size\/(¬ 4000<D.size/\S=true/\4000<B.size)):
 qb 71 #[.string s] w (.tuple #[.agg #[.bool false,.slice none 0 0,.slice none 0 0],.int .i64 5]):=by
 have HK:=hid HC;have kle:=HC.kle;have hlt:=HC.has;obtain⟨cw,cb⟩:=zu HC.cutW HC.cutB;clear HC;obtain⟨t0,t1⟩:=zu (Blk.new w #[.bool false,.slice none 0 0,.slice none 0 0] 81) ((J4 w.heap.size w).alloc nr (.cells #[.bool false,.slice none 0 0,.slice none 0 0] 81));obtain⟨d0,d1,d2⟩:=qz t0.out;obtain⟨e0,e1,e2⟩:=qq t0.out;have kle2:S=true->k+1<=s.size:=fun h=>by rw[h]at hlt;have:=Am hlt.symm;omega
 have wk2:S=true->IntKind.i64.wrap ((k:Int)+1)=(k:Int)+1:=fun h=>by have:=kle2 h;rw[U0 _ ⟨by omega,by omega⟩]
 have q0:=hlt.symm;clear hlt;rcases h with rfl | ⟨rfl,h1,h2,h3,rfl⟩
 focus
  have q1:decide ((4000:Int)<(D.size:Int))=true:=by
   rcases hl with hl | ⟨_,hl,_⟩
   .simp;omega
   .cases hl
  clear hl kle2 wk2
 rotate_left
 focus
  have kle3:=kle2 rfl;have wk:=wk2 rfl;have i1:=a0O (l:=[48]) h1;have i2:=a0O (l:=[48]) h2;have i3:=a0O (l:=[49]) h3;clear kle2 wk2;rcases hl with hl | ⟨hl,-,hl2⟩
  focus
   have q1:decide ((4000:Int)<(D.size:Int))=true:=by simp;omega
   clear hl
  rotate_left
  focus
   have q1:decide ((4000:Int)<(D.size:Int))=false:=by simp;omega
   have q2:decide ((4000:Int)<(B.size:Int))=true:=by simp;omega
   clear hl hl2
 all_goals
  go_enter func71,ntmps71
  go_wp2_with (first
   | (go_at_call 171;refine (HK.out.sl _).mono ?_;rintro e w1 ⟨rfl,rfl⟩)
   | (go_at_call 172;rw[cw.out];refine (HK.out.int _).mono ?_;rintro e w2 ⟨rfl,rfl⟩)
   | (go_at_call 173;(first | rw[cb.out trivial] | rw[cb.out rfl]);refine (HK.out.form _).mono ?_;rintro e w3 ⟨rfl,rfl⟩)
   | fail)
  obtain⟨s1,s2⟩:=c0C t0.out false none none 0 0 0 0;obtain⟨f0,f1,f2⟩:=qz s2;refine C7 (v:=.tuple #[.agg #[.bool false,.slice none 0 0,.slice none 0 0],.int .i64 5]) (by simp[results,Ll,go_sem,f0,f1,f2]) rfl ⟨rfl,?_⟩
  first | exact t1.out | exact ((t1.out.setCell nr _).setCell nr _).setCell nr _
def RetRF (B:Nat)(x:Int)(m:Bool)(n d:Nat)(e:Ending)(w':World):Prop:=∃ v,e=.returned (.tuple #[v,.int .i64 x])/\(x=0->∃ N D,v=.agg #[.bool m,N,D]/\IsN .i64 w' N n/\IsN .i64 w' D d/\(∀ g,N.ownBlock=some g->B<=g)/\(∀ g,D.ownBlock=some g->B<=g))/\(x≠0->v=.agg #[.bool false,.slice none 0 0,.slice none 0 0])
theorem RetRF.err {B:Nat}{x:Int}{m:Bool}{n d:Nat}{w':World}(h:x≠0):RetRF B x m n d (.returned (.tuple #[.agg #[.bool false,.slice none 0 0,.slice none 0 0],.int .i64 x])) w':=⟨_,rfl,fun e=>absurd e h,fun _=>rfl⟩
def n0H (w:World)(s W B D:ByteArray)(M:Bool)(k:Nat)(hs:s.size<=1000000)(HC:CutR s W B D true M true true k)
 (h1:¬ D=⟨#[48]⟩) (h2:¬ B=⟨#[48]⟩) (h3:¬ B=⟨#[49]⟩) (hl1:¬ 4000<D.size) (hl2:¬ 4000<B.size) (hd1:allDig D.data.toList) (hd2:allDig B.data.toList):
 Calls prog 71 #[.string s] w fun e w'=>RetRF w.heap.size (if Nat.gcd (bN D) (bN B)=1 then 0 else 3) M (bN D) (bN B) e w'/\Below w.heap.size w w':=by
 obtain⟨xc,hxc⟩:∃ x:Int,(if Nat.gcd (bN D) (bN B)=1 then 0 else 3)=x:=⟨_,rfl⟩;rw[hxc];have HXC:=hid hxc;clear hxc;have HK:=hid HC;have kle:=HC.kle;have hlt:=HC.has;obtain⟨cw,cb⟩:=zu HC.cutW HC.cutB;clear HC;obtain⟨t0,t1⟩:=zu (Blk.new w #[.bool false,.slice none 0 0,.slice none 0 0] 81) ((J4 w.heap.size w).alloc nr (.cells #[.bool false,.slice none 0 0,.slice none 0 0] 81));have wk:IntKind.i64.wrap ((k:Int)+1)=(k:Int)+1:=by rw[U0 _ ⟨by omega,by omega⟩]
 have kle3:k+1<=s.size:=by have:=Am hlt.symm;omega
 have q0:=hlt.symm;clear hlt;have i1:=a0O (l:=[48]) h1;have i2:=a0O (l:=[48]) h2;have i3:=a0O (l:=[49]) h3;have q1:decide ((4000:Int)<(D.size:Int))=false:=by simp;omega
 have q2:decide ((4000:Int)<(B.size:Int))=false:=by simp;omega
 obtain⟨L1,L2⟩:=zu (f0B hd1 hl1) (f0B hd2 hl2);have P1:=fun W=>hid (e0a W D hd1 (by omega))
 have P2:=fun W=>hid (e0a W B hd2 (by omega))
 clear hd1 hd2 h1 h2 h3 hl1 hl2;go_enter func71,ntmps71
 go_wp2_with (first
  | (go_at_call 171;refine (HK.out.sl _).mono ?_;rintro e w1 ⟨rfl,rfl⟩)
  | (go_at_call 172;rw[cw.out];refine (HK.out.int _).mono ?_;rintro e w2 ⟨rfl,rfl⟩)
  | (go_at_call 173;(first | rw[cb.out trivial] | rw[cb.out rfl]);refine (HK.out.form _).mono ?_;rintro e w3 ⟨rfl,rfl⟩)
  | fail)
 refine (P1 _).out.mono ?_;rintro e w4 ⟨⟨v4,rfl,hv4,hf4⟩,hb4⟩;obtain⟨F4,x4⟩:=zu (fun g hg=>J0 t1.out.size (hf4 g hg)) (t0.out.call hb4);have y4:=qx t1 hb4;have N4:=hid hv4;clear hb4 hv4 hf4;obtain⟨a4,c4,rfl,_⟩:=N4.out.openI;obtain⟨k1,hk1⟩:=gn ((limbs (dv D.data.toList)).length);rw[hk1]at N4 F4 |-;clear P1;go_wp2_with fail;refine (P2 _).out.mono ?_;rintro e w5 ⟨⟨v5,rfl,hv5,hf5⟩,hb5⟩;obtain⟨F5,x5⟩:=zu (fun g hg=>J0 y4.out.size (hf5 g hg)) (x4.out.call hb5);have y5:=qx y4 hb5;obtain⟨N5,D5⟩:=zu (N4.out.call hb5) hv5;clear hb5 hv5 hf5;obtain⟨a5,c5,rfl,_⟩:=D5.out.openI;obtain⟨k2,hk2⟩:=gn ((limbs (dv B.data.toList)).length);rw[hk2]at D5 F5 |-;clear P2;go_wp2_with fail;obtain⟨z5,b5⟩:=zu (Blk.new w5 #[.bool M,.slice a4 k1 c4,.slice a5 k2 c5] 81) ((J4 w5.heap.size w5).alloc nr (.cells #[.bool M,.slice a4 k1 c4,.slice a5 k2 c5] 81));obtain⟨g0,g1,g2⟩:=qz z5.out;go_wp2_with fail;refine ng (h0s _ _ _ _ _ (N5.out.call b5.out) (D5.out.call b5.out) L1.out L2.out) fun v6 w6 hv6 hb6=>?_;obtain⟨z6,x6,y6,N6,D6,G6⟩:=zf (z5.out.call hb6) ((x5.out.call b5.out).call hb6) (a0a (a0a y5.out b5.out) hb6) ((N5.out.call b5.out).call hb6) ((D5.out.call b5.out).call hb6) hv6;clear hb6 hv6 g0 g1 g2;go_wp2_with fail;refine ng (r0e _) fun v7 w7 hv7 hb7=>?_;obtain⟨z7,x7⟩:=zu (z6.out.call hb7) (x6.out.call hb7);have y7:=qx y6 hb7;obtain⟨N7,D7,G7,O7⟩:=zc (N6.out.call hb7) (D6.out.call hb7) (G6.out.call hb7) hv7;clear hb7 hv7;go_wp2_with fail;refine nj (b0k _ _ _ _ _ G7.out O7.out) fun w8 hb8=>?_;obtain⟨z8,x8⟩:=zu (z7.out.call hb8) (x7.out.call hb8);have y8:=qx y7 hb8;obtain⟨N8,D8⟩:=zu (N7.out.call hb8) (D7.out.call hb8);clear hb8;obtain⟨d0,d1,d2⟩:=qz x8.out;obtain⟨e0,e1,e2⟩:=qq x8.out;obtain⟨g0,g1,g2⟩:=qz z8.out;by_cases hG:Nat.gcd (bN D) (bN B)=1
 .have hO:b0g (Nat.gcd (dv D.data.toList) (dv B.data.toList)) 1=0:=by rw[show Nat.gcd (dv D.data.toList) (dv B.data.toList)=1 from hG];exact c0P
  have X0:=hid (show xc=0 from by rw[<- HXC.out,J3 hG]);rw[hO];clear hO hG;go_wp2_with fail;obtain⟨s1,s2⟩:=c0C x8.out M a4 a5 k1 c4 k2 c5;obtain⟨f0,f1,f2⟩:=qz s2;refine C7 (v:=.tuple #[.agg #[.bool M,.slice a4 k1 c4,.slice a5 k2 c5],.int .i64 0]) (by simp[results,Ll,go_sem,f0,f1,f2]) rfl ⟨by rw[X0.out];exact⟨_,rfl,fun _=>⟨_,_,rfl,s1 _ _ _ N8.out,s1 _ _ _ D8.out,F4.out,F5.out⟩,fun h=>absurd rfl h⟩,?_⟩;exact ((y8.out.setCell nr _).setCell nr _).setCell nr _
 .have hO:(b0g (Nat.gcd (dv D.data.toList) (dv B.data.toList)) 1 != 0)=true:=by
   have hG':¬ Nat.gcd (dv D.data.toList) (dv B.data.toList)=1:=hG;unfold b0g
   split
   .rfl
   .split
    .rfl
    .omega
  have X0:=hid (show xc=3 from by rw[<- HXC.out,J2 hG]);obtain⟨t,ht⟩:=gn (b0g (Nat.gcd (dv D.data.toList) (dv B.data.toList)) 1);rw[ht]at hO |-;clear ht hG;go_wp2_with fail;obtain⟨s1,s2⟩:=c0C x8.out false none none 0 0 0 0;obtain⟨f0,f1,f2⟩:=qz s2;refine C7 (v:=.tuple #[.agg #[.bool false,.slice none 0 0,.slice none 0 0],.int .i64 3]) (by simp[results,Ll,go_sem,f0,f1,f2]) rfl ⟨by rw[X0.out];exact RetRF.err (by decide),?_⟩;exact ((y8.out.setCell nr _).setCell nr _).setCell nr _
def r0b (w:World)(s W B D:ByteArray)(M fb:Bool)(k:Nat)(hs:s.size<=1000000)(HC:CutR s W B D false M true fb k)
 (hl1:¬ 4000<D.size) (hd1:allDig D.data.toList):
 Calls prog 71 #[.string s] w fun e w'=>RetRF w.heap.size 0 M (bN D) 1 e w'/\Below w.heap.size w w':=by
 have HK:=hid HC;have kle:=HC.kle;have hlt:=HC.has;obtain⟨cw,cb⟩:=zu HC.cutW HC.cutB;clear HC;obtain⟨t0,t1⟩:=zu (Blk.new w #[.bool false,.slice none 0 0,.slice none 0 0] 81) ((J4 w.heap.size w).alloc nr (.cells #[.bool false,.slice none 0 0,.slice none 0 0] 81));have q0:=hlt.symm;clear hlt;have q1:decide ((4000:Int)<(D.size:Int))=false:=by simp;omega
 have L1:=hid (f0B hd1 hl1);have L2:Hid ((limbs 1).length<=1000000):=by show _<=_;rw[d0b];decide
 have P1:=fun W=>hid (e0a W D hd1 (by omega))
 have P2:∀ W,Hid (Calls prog 151 #[.string ⟨#[49]⟩] W fun e w'=>RetFr W.heap.size .i64 1 e w'/\Below W.heap.size W w'):=fun W=>hid (e0a W ⟨#[49]⟩ (by intro b hb;simp at hb;subst hb;rfl) (Oo (K5 _)))
 have hO:b0g (Nat.gcd (dv D.data.toList) 1) 1=0:=by rw[Of];exact c0P
 have HO:=hid hO;clear hd1 hl1 hO;go_enter func71,ntmps71
 go_wp2_with (first
  | (go_at_call 171;refine (HK.out.sl _).mono ?_;rintro e w1 ⟨rfl,rfl⟩)
  | (go_at_call 172;rw[cw.out];refine (HK.out.int _).mono ?_;rintro e w2 ⟨rfl,rfl⟩)
  | (go_at_call 173;(first | rw[cb.out trivial] | rw[cb.out rfl]);refine (HK.out.form _).mono ?_;rintro e w3 ⟨rfl,rfl⟩)
  | fail)
 refine (P1 _).out.mono ?_;rintro e w4 ⟨⟨v4,rfl,hv4,hf4⟩,hb4⟩;obtain⟨F4,x4⟩:=zu (fun g hg=>J0 t1.out.size (hf4 g hg)) (t0.out.call hb4);have y4:=qx t1 hb4;have N4:=hid hv4;clear hb4 hv4 hf4;obtain⟨a4,c4,rfl,_⟩:=N4.out.openI;obtain⟨k1,hk1⟩:=gn ((limbs (dv D.data.toList)).length);rw[hk1]at N4 F4 |-;clear P1;go_wp2_with fail;refine (P2 _).out.mono ?_;rintro e w5 ⟨⟨v5,rfl,hv5,hf5⟩,hb5⟩;obtain⟨F5,x5⟩:=zu (fun g hg=>J0 y4.out.size (hf5 g hg)) (x4.out.call hb5);have y5:=qx y4 hb5;obtain⟨N5,D5⟩:=zu (N4.out.call hb5) hv5;clear hb5 hv5 hf5;obtain⟨a5,c5,rfl,_⟩:=D5.out.openI;obtain⟨k2,hk2⟩:=gn ((limbs 1).length);rw[hk2]at D5 F5 |-;clear P2;go_wp2_with fail;obtain⟨z5,b5⟩:=zu (Blk.new w5 #[.bool M,.slice a4 k1 c4,.slice a5 k2 c5] 81) ((J4 w5.heap.size w5).alloc nr (.cells #[.bool M,.slice a4 k1 c4,.slice a5 k2 c5] 81));obtain⟨g0,g1,g2⟩:=qz z5.out;go_wp2_with fail;refine ng (h0s _ _ _ _ _ (N5.out.call b5.out) (D5.out.call b5.out) L1.out L2.out) fun v6 w6 hv6 hb6=>?_;obtain⟨z6,x6,y6,N6,D6,G6⟩:=zf (z5.out.call hb6) ((x5.out.call b5.out).call hb6) (a0a (a0a y5.out b5.out) hb6) ((N5.out.call b5.out).call hb6) ((D5.out.call b5.out).call hb6) hv6;clear hb6 hv6 g0 g1 g2;go_wp2_with fail;refine ng (r0e _) fun v7 w7 hv7 hb7=>?_;obtain⟨z7,x7⟩:=zu (z6.out.call hb7) (x6.out.call hb7);have y7:=qx y6 hb7;obtain⟨N7,D7,G7,O7⟩:=zc (N6.out.call hb7) (D6.out.call hb7) (G6.out.call hb7) hv7;clear hb7 hv7;go_wp2_with fail;refine nj (b0k _ _ _ _ _ G7.out O7.out) fun w8 hb8=>?_;obtain⟨z8,x8⟩:=zu (z7.out.call hb8) (x7.out.call hb8);have y8:=qx y7 hb8;obtain⟨N8,D8⟩:=zu (N7.out.call hb8) (D7.out.call hb8);clear hb8;obtain⟨d0,d1,d2⟩:=qz x8.out;obtain⟨e0,e1,e2⟩:=qq x8.out;obtain⟨g0,g1,g2⟩:=qz z8.out;rw[HO.out];go_wp2_with fail;obtain⟨s1,s2⟩:=c0C x8.out M a4 a5 k1 c4 k2 c5;obtain⟨f0,f1,f2⟩:=qz s2;refine C7 (v:=.tuple #[.agg #[.bool M,.slice a4 k1 c4,.slice a5 k2 c5],.int .i64 0]) (by simp[results,Ll,go_sem,f0,f1,f2]) rfl ⟨⟨_,rfl,fun _=>⟨_,_,rfl,s1 _ _ _ N8.out,s1 _ _ _ D8.out,F4.out,F5.out⟩,fun h=>absurd rfl h⟩,?_⟩;exact ((y8.out.setCell nr _).setCell nr _).setCell nr _
theorem RetRF.ret {B:Nat}{x:Int}{m:Bool}{n d:Nat}{e:Ending}{w':World}(h:RetRF B x m n d e w'):RetR x m n d e w':=by
 obtain⟨v,h1,h2,h3⟩:=h;refine⟨v,h1,fun h=>?_,h3⟩;obtain⟨N,D,k1,k2,k3,-,-⟩:=h2 h;exact⟨N,D,k1,k2,k3⟩
def x0P (w:World)(s W B D:ByteArray)(M:Bool)(k:Nat)(hs:s.size<=1000000)(HC:CutR s W B D true M true true k)
 (h1:¬ D=⟨#[48]⟩) (h2:¬ B=⟨#[48]⟩) (h3:¬ B=⟨#[49]⟩) (hl1:¬ 4000<D.size) (hl2:¬ 4000<B.size) (hd1:allDig D.data.toList) (hd2:allDig B.data.toList):
 Calls prog 71 #[.string s] w fun e w'=>RetR (if Nat.gcd (bN D) (bN B)=1 then 0 else 3) M (bN D) (bN B) e w'/\Below w.heap.size w w':=
 (n0H w s W B D M k hs HC h1 h2 h3 hl1 hl2 hd1 hd2).mono fun _ _ h=>⟨h.1.ret,h.2⟩
def a1H (w:World)(s W B D:ByteArray)(M fb:Bool)(k:Nat)(hs:s.size<=1000000)(HC:CutR s W B D false M true fb k)
 (hl1:¬ 4000<D.size) (hd1:allDig D.data.toList):
 Calls prog 71 #[.string s] w fun e w'=>RetR 0 M (bN D) 1 e w'/\Below w.heap.size w w':=
 (r0b w s W B D M fb k hs HC hl1 hd1).mono fun _ _ h=>⟨h.1.ret,h.2⟩
def j0m (w:World)(s:ByteArray)(hs:s.size<=1000000):
 Calls prog 71 #[.string s] w fun e w'=>RetR (qE s) (iM (cW s)) (bN (iD (cW s))) (bN (qD s)) e w'/\Below w.heap.size w w':=by
 have HC:=t0i s (by omega);by_cases hq:qB s=true
 .have hi:=c0o hq;rw[hi]at HC;have hdD:=f0u (d0q hi);have hcS:cS s=false\/(cS s=true/\¬ iD (cW s)=⟨#[48]⟩/\¬ cB s=⟨#[48]⟩/\¬ cB s=⟨#[49]⟩/\fB (cB s)=true):=by
   have hq':=hq;unfold qB at hq';simp only[Aa,Av,By,H7]at hq';rcases hq'.2 with h | h
   .exact .inl h
   .cases hc:cS s
    .exact .inl rfl
    .exact .inr ⟨rfl,h.1.1.1,h.1.2,h.2,h.1.1.2⟩
  by_cases hl:qL s=true
  .have e:qE s=5:=by simp[qE,hq,hl]
   rw[e];unfold qL at hl;simp only[Av,H7]at hl;refine (x0O w s _ _ _ _ _ _ _ (by omega) HC hcS ?_).mono ?_
   .by_cases h4:4000<(iD (cW s)).size
    .exact .inl h4
    .refine .inr ⟨h4,?_⟩;rcases hcS with hc | ⟨hc,-⟩
     .rw[e0b hc]at hl;exact absurd (hl.resolve_left h4) (by decide)
     .rw[c0j hc]at hl;exact⟨hc,hl.resolve_left h4⟩
   .rintro e w' ⟨rfl,hb⟩;exact⟨RetR.err (by decide),hb⟩
  .have hl':qL s=false:=by simpa using hl
   have hl1:¬ 4000<(iD (cW s)).size/\¬ 4000<(qD s).size:=by
    unfold qL at hl';simpa using hl'
   rcases hcS with hc | ⟨hc,h1,h2,h3,h4⟩
   .rw[hc]at HC;have e:qE s=0:=by simp[qE,hq,hl',qG,hc]
    rw[e,e0b hc];exact a1H w s _ _ _ _ _ _ hs HC hl1.1 hdD
   .rw[hc,h4]at HC;have hl2:=hl1.2;rw[c0j hc]at hl2;have e:qE s=if Nat.gcd (bN (iD (cW s))) (bN (cB s))=1 then 0 else 3:=by
     simp only[qE,hq,hl',qG,hc,c0j hc];by_cases hg:Nat.gcd (bN (iD (cW s))) (bN (cB s))=1<;>simp[hg]
    rw[e,c0j hc];exact x0P w s _ _ _ _ _ hs HC h1 h2 h3 hl1.1 hl2 hdD (f0u h4)
 .have hq':qB s=false:=by simpa using hq
  have e:qE s=3:=by simp[qE,hq']
  rw[e];refine nj (a1I w s _ _ _ _ _ _ _ _ (by omega) HC hq') fun w' hb=>?_;exact⟨RetR.err (by decide),hb⟩
def RetQE (s:ByteArray)(e:Ending)(w':World):Prop:=∃ v,e=.returned (.tuple #[v,.int .i64 (qE s)])/\(qE s=0->IsQ .i64 w' v (vQ s))/\(qE s≠0->v=.agg #[.bool false,.slice none 0 0,.slice none 0 0])
def d0k (w:World)(s:ByteArray)(hs:s.size<=1000000):
 Calls prog 71 #[.string s] w fun e w'=>RetQE s e w'/\Below w.heap.size w w':=by
 refine (j0m w s hs).mono ?_;rintro e w' ⟨⟨v,rfl,h1,h2⟩,hb⟩;refine⟨⟨v,rfl,fun h=>?_,h2⟩,hb⟩;obtain⟨N,D,rfl,hN,hD⟩:=h1 h;obtain⟨e1,e2,e3⟩:=i0W h;exact⟨N,D,by rw[e1],by rw[e2];exact hN,by rw[e3];exact hD⟩
section
def r0g (w:World)(v:Value)(q:Rat)(h:IsQ .i64 w v q)(h0:q≠0):
 Calls prog 121 #[v] w fun e w'=>f0E .i64 q⁻¹ e w'/\Below w.heap.size w w':=by
 obtain⟨N,D,rfl,hn,hd⟩:=h.ex;obtain⟨m,hm⟩:=gn (decide (q.num<0));obtain⟨HN,HD,HM,H0⟩:=zc hn hd hm h0;rw[hm];obtain⟨a1,c1,rfl,_⟩:=hn.openI;obtain⟨a2,c2,rfl,_⟩:=hd.openI;clear hn hd hm h0 h;go_enter func121,ntmps121;go_wp2_with fail;obtain⟨p1,p2,p3⟩:=d0p H0.out;have B:=((J4 w.heap.size w).alloc nr (.cells #[.bool m,.slice a1 (limbs q.num.natAbs).length c1,.slice a2 (limbs q.den).length c2] 81)).alloc (by simp) (.cells #[.bool m,.slice a2 (limbs q.den).length c2,.slice a1 (limbs q.num.natAbs).length c1] 81);refine C7 (v:=.agg #[.bool m,.slice a2 (limbs q.den).length c2,.slice a1 (limbs q.num.natAbs).length c1]) (by simp[results,results121,go_sem]) rfl ⟨⟨_,rfl,⟨_,_,rfl.trans ?_,by rw[p2];exact HD.out.call B,by rw[p3];exact HN.out.call B⟩⟩,B⟩;rw[p1,HM.out]
def r0P {q:Rat}{m:Bool}(hm:decide (q.num<0)=m):decide ((-q).num<0)=(!m && decide (0<q.num.natAbs))/\(-q).num.natAbs=q.num.natAbs/\(-q).den=q.den:=by
 refine⟨?_,by rw[Ij,Hw],Ld q⟩;rw[Ij,<- hm,Bk];simp only[Aa,By,H7,Ac];omega
def e0w (w:World)(v:Value)(q:Rat)(h:IsQ .i64 w v q):
 Calls prog 76 #[v] w fun e w'=>f0E .i64 (-q) e w'/\Below w.heap.size w w':=by
 obtain⟨N,D,rfl,hn,hd⟩:=h.ex;obtain⟨m,hm⟩:=gn (decide (q.num<0));obtain⟨HN,HD,HP⟩:=zg hn hd (r0P hm);rw[hm];obtain⟨a1,c1,rfl,_⟩:=hn.openI;obtain⟨a2,c2,rfl,_⟩:=hd.openI;clear hn hd hm h;obtain⟨l,hl⟩:=gn ((limbs q.num.natAbs).length);have hz:decide (0<l)=decide (0<q.num.natAbs):=by
  have h1:l=0↔q.num.natAbs=0:=by rw[<- hl,Ho,b0Y]
  exact Gc.2 (by omega)
 obtain⟨HZ,HL⟩:=zu hz hl;rw[hl];clear hz hl;go_enter func76,ntmps76;go_wp2_with fail
 all_goals
  obtain⟨p1,p2,p3⟩:=HP.out;rw[<- HZ.out]at p1;refine C7 (v:=.agg #[_,.slice a1 l c1,.slice a2 (limbs q.den).length c2]) (by simp[results,results76,go_sem];rfl) rfl ⟨⟨_,rfl,⟨.slice a1 l c1,.slice a2 (limbs q.den).length c2,?_,?_,?_⟩⟩,?_⟩
  .rw[p1];clear HP HZ HL HN HD;simp_all
  .have hh:=HN.out;rw[HL.out]at hh;rw[p2];exact hh.call (((J4 w.heap.size w).alloc nr _).alloc (by simp) _)
  .rw[p3];exact HD.out.call (((J4 w.heap.size w).alloc nr _).alloc (by simp) _)
  .exact (((J4 w.heap.size w).alloc nr _).alloc (by simp) _)
def c1r (m1 m2:Bool)(x y:Nat)(m:Bool)(s:Nat):Prop:=
 (m1=m2/\m=m1/\s=x+y)\/((m1==m2)=false/\x<y/\m=m2/\s=y-x)\/((m1==m2)=false/\y<=x/\m=m1/\s=x-y)
def s0a {a b p:Nat}(ha:(limbs a).length<=p)(hb:(limbs b).length<=p):(limbs (a+b)).length<=p+1:=by
 refine a0g.2 ?_;have h1:=a0g.1 ha;have h2:=a0g.1 hb;rw[E9];omega
def b1a {x y:Nat}(h:y<=x):decide (b0g x y<0)=false:=by
 unfold b0g
 split
 .omega
 .split<;>simp
def k0N (w:World)(m1 m2 m:Bool)(N1 D1 N2 D2:Value)(n1 d1 n2 d2 s:Nat)(hn1:IsN .i64 w N1 n1)(hd1:IsN .i64 w D1 d1)(hn2:IsN .i64 w N2 n2)(hd2:IsN .i64 w D2 d2)
 (l1:(limbs n1).length<=100000) (l2:(limbs d1).length<=100000) (l3:(limbs n2).length<=100000) (l4:(limbs d2).length<=100000) (p1:0<d1) (p2:0<d2) (key:c1r m1 m2 (n1*d2) (n2*d1) m s):
 Calls prog 75 #[.agg #[.bool m1,N1,D1],.agg #[.bool m2,N2,D2]] w fun e w'=>RetQF w.heap.size (qmk m s (d1*d2)) e w'/\Below w.heap.size w w':=by
 obtain⟨HN1,HD1,HN2,HD2,L1,L2,L3,H1,H2,H3,H4,hD⟩:=ku hn1 hd1 hn2 hd2 (J0 (a0H l1 l4) (show 100000+100000<=1000000 by omega)) (J0 (a0H l3 l2) (show 100000+100000<=1000000 by omega)) (J0 (a0H l2 l4) (show 100000+100000<=1000000 by omega)) (J0 l1 (show 100000<=1000000 by omega)) (J0 l2 (show 100000<=1000000 by omega)) (J0 l3 (show 100000<=1000000 by omega)) (J0 l4 (show 100000<=1000000 by omega)) (Eb p1 p2);have LS:Hid ((limbs s).length<=1000000):=by
  have q1:=a0H l1 l4;have q2:=a0H l3 l2;have q3:=s0a q1 q2;have q4:(limbs s).length<=(limbs (n1*d2+n2*d1)).length:=a0h (by rcases key with ⟨-,-,rfl⟩ | ⟨-,-,-,rfl⟩ | ⟨-,-,-,rfl⟩<;>omega);show _<=_
  omega
 clear l1 l2 l3 l4 p1 p2;obtain⟨a1,c1,rfl,_⟩:=hn1.openI;obtain⟨a2,c2,rfl,_⟩:=hd1.openI;obtain⟨a3,c3,rfl,_⟩:=hn2.openI;obtain⟨a4,c4,rfl,_⟩:=hd2.openI;obtain⟨k1,hk1⟩:=gn ((limbs n1).length);obtain⟨k2,hk2⟩:=gn ((limbs d1).length);obtain⟨k3,hk3⟩:=gn ((limbs n2).length);obtain⟨k4,hk4⟩:=gn ((limbs d2).length);rw[hk1]at HN1 |-;rw[hk2]at HD1 |-;rw[hk3]at HN2 |-;rw[hk4]at HD2 |-;clear hn1 hd1 hn2 hd2 hk1 hk2 hk3 hk4;obtain⟨x,hx⟩:=gn (n1*d2);obtain⟨y,hy⟩:=gn (n2*d1);obtain⟨z,hz⟩:=gn (d1*d2);rw[hx,hy]at key;rw[hx]at L1;rw[hy]at L2;rw[hz]at hD L3 |-;obtain⟨HX,HY,HZ⟩:=zg hx hy hz;clear hx hy hz;unfold c1r at key;have KEY:=hid key;clear key;go_enter func75,ntmps75;go_wp2_with fail;obtain⟨W,hW⟩:=gn (((w.alloc (.cells #[.bool m1,.slice a1 k1 c1,.slice a2 k2 c2] 81)).alloc (.cells #[.bool m2,.slice a3 k3 c3,.slice a4 k4 c4] 81)).alloc (.cells #[.bool false,.slice none 0 0,.slice none 0 0] 81));rw[hW];have X0:Below w.heap.size w W:=by rw[<- hW];exact ((br0.alloc nr _).alloc (by simp) _).alloc (by simp;omega) _
 have Y0:Blk W w.heap.size #[.bool m1,.slice a1 k1 c1,.slice a2 k2 c2] 81:=by rw[<- hW];exact ((Blk.new w _ _).alloc _).alloc _
 have Y1:Blk W (w.heap.size+1) #[.bool m2,.slice a3 k3 c3,.slice a4 k4 c4] 81:=by rw[<- hW];exact (Blk.made (w.alloc _) _ _ (by simp)).alloc _
 have Y2:Blk W (w.heap.size+1+1) #[.bool false,.slice none 0 0,.slice none 0 0] 81:=by rw[<- hW];exact Blk.made ((w.alloc _).alloc _) _ _ (by simp)
 have K:Hid (∀ w',Below W.heap.size W w'->w'.cell? ⟨w.heap.size,0,none⟩=some (.bool m1)/\w'.cell? ⟨w.heap.size,1,none⟩=some (.slice a1 k1 c1)/\w'.cell? ⟨w.heap.size,2,none⟩=some (.slice a2 k2 c2)/\w'.cell? ⟨w.heap.size+1,0,none⟩=some (.bool m2)/\w'.cell? ⟨w.heap.size+1,1,none⟩=some (.slice a3 k3 c3)/\w'.cell? ⟨w.heap.size+1,2,none⟩=some (.slice a4 k4 c4)):=fun w' hb=>⟨(Y0.call hb).cell 0,(Y0.call hb).cell 1,(Y0.call hb).cell 2,(Y1.call hb).cell 0,(Y1.call hb).cell 1,(Y1.call hb).cell 2⟩
 obtain⟨HY0,HY1,HY2,HX0⟩:=zc Y0 Y1 Y2 X0;obtain⟨i0,i1,i2,i3,i4,i5⟩:=K W br0;clear Y0 Y1 Y2 X0 hW;obtain⟨XN1,XD1,XN2,XD2⟩:=zc (HN1.out.call HX0.out) (HD1.out.call HX0.out) (HN2.out.call HX0.out) (HD2.out.call HX0.out)
 go_region_held3 (fun w'=>w'.cell? ⟨w.heap.size,0,none⟩=some (.bool m1)/\w'.cell? ⟨w.heap.size,1,none⟩=some (.slice a1 k1 c1)/\w'.cell? ⟨w.heap.size,2,none⟩=some (.slice a2 k2 c2)/\w'.cell? ⟨w.heap.size+1,0,none⟩=some (.bool m2)/\w'.cell? ⟨w.heap.size+1,1,none⟩=some (.slice a3 k3 c3)/\w'.cell? ⟨w.heap.size+1,2,none⟩=some (.slice a4 k4 c4))
  (first
   | exact K.out _ br0.drew
   | exact K.out _ bb2.out
   | exact K.out _ bb1.out)
  (first
   | (go_at_call_of 176 (Value.slice a1 k1 c1);refine ng (b0n _ _ _ n1 d2 (XN1.out.call (by first | exact bb2.out | exact br0.drew)) (XD2.out.call (by first | exact bb2.out | exact br0.drew)) H1.out H4.out) fun v1 w1 hv1 hb1=>?_;have bb1:=hid (a0a (by first | exact bb2.out | exact br0.drew) hb1))
   | (go_at_call_of 176 (Value.slice a3 k3 c3);refine ng (b0n _ _ _ n2 d1 (XN2.out.call (by first | exact bb1.out | exact br0.drew)) (XD1.out.call (by first | exact bb1.out | exact br0.drew)) H3.out H2.out) fun v2 w2 hv2 hb2=>?_;have bb2:=hid (a0a (by first | exact bb1.out | exact br0.drew) hb2)))
 obtain⟨V2,V1⟩:=zu hv2 (hv1.call hb2);rw[HX.out]at V1;rw[HY.out]at V2;clear hv1 hv2 hb1 hb2 i0 i1 i2 i3 i4 i5;obtain⟨i0,i1,i2,i3,i4,i5⟩:=K.out _ bb2.out;go_wp2_with fail;refine ng (b0n _ _ _ d1 d2 (XD1.out.call bb2.out) (XD2.out.call bb2.out) H2.out H4.out) fun v3 w3 hv3 hb3=>?_;have bb3:=qx bb2 hb3;rw[HZ.out]at hv3;obtain⟨V3,V1',V2'⟩:=zg hv3 (V1.out.call hb3) (V2.out.call hb3);clear hv3 hb3 i0 i1 i2 i3 i4 i5 V1 V2;obtain⟨i0,i1,i2,i3,i4,i5⟩:=K.out _ bb3.out;obtain⟨ja1,jc1,rfl,_⟩:=V1'.out.openI;obtain⟨ja2,jc2,rfl,_⟩:=V2'.out.openI;obtain⟨ja3,jc3,rfl,_⟩:=V3.out.openI;obtain⟨jk1,hj1⟩:=gn ((limbs x).length);obtain⟨jk2,hj2⟩:=gn ((limbs y).length);obtain⟨jk3,hj3⟩:=gn ((limbs z).length);rw[hj1]at V1' |-;rw[hj2]at V2' |-;rw[hj3]at V3 |-;clear hj1 hj2 hj3;have K2:Hid (∀ w1 x y z,Below W.heap.size W w1->∀ w',((w1.setCell ⟨w.heap.size+1+1,0,none⟩ x).setCell ⟨w.heap.size+1+1,1,none⟩ y).setCell ⟨w.heap.size+1+1,2,none⟩ z=w'->w'.cell? ⟨w.heap.size,0,none⟩=some (.bool m1)/\w'.cell? ⟨w.heap.size,1,none⟩=some (.slice a1 k1 c1)/\w'.cell? ⟨w.heap.size,2,none⟩=some (.slice a2 k2 c2)/\w'.cell? ⟨w.heap.size+1,0,none⟩=some (.bool m2)/\w'.cell? ⟨w.heap.size+1,1,none⟩=some (.slice a3 k3 c3)/\w'.cell? ⟨w.heap.size+1,2,none⟩=some (.slice a4 k4 c4)):=by
  rintro w1 x y z hb _ rfl;have Z0:=(((HY0.out.call hb).other (a:=⟨w.heap.size+1+1,0,none⟩) (by simp;omega) x).other (a:=⟨w.heap.size+1+1,1,none⟩) (by simp;omega) y).other (a:=⟨w.heap.size+1+1,2,none⟩) (by simp;omega) z;have Z1:=(((HY1.out.call hb).other (a:=⟨w.heap.size+1+1,0,none⟩) (by simp) x).other (a:=⟨w.heap.size+1+1,1,none⟩) (by simp) y).other (a:=⟨w.heap.size+1+1,2,none⟩) (by simp) z;exact⟨Z0.cell 0,Z0.cell 1,Z0.cell 2,Z1.cell 0,Z1.cell 1,Z1.cell 2⟩
 have key:=KEY.out;clear KEY;rcases key with ⟨rfl,rfl,rfl⟩ | ⟨hne,hlt,rfl,rfl⟩ | ⟨hne,hle,rfl,rfl⟩
 focus
  go_wp2_with fail
  go_region_held3 (fun w'=>w'.cell? ⟨w.heap.size,0,none⟩=some (.bool m)/\w'.cell? ⟨w.heap.size,1,none⟩=some (.slice a1 k1 c1)/\w'.cell? ⟨w.heap.size,2,none⟩=some (.slice a2 k2 c2)/\w'.cell? ⟨w.heap.size+1,0,none⟩=some (.bool m)/\w'.cell? ⟨w.heap.size+1,1,none⟩=some (.slice a3 k3 c3)/\w'.cell? ⟨w.heap.size+1,2,none⟩=some (.slice a4 k4 c4))
   (first
    | exact K.out _ (by first | exact bb3.out.drew | exact a0k bb3.out _)
    | exact K2.out _ _ _ _ bb6.out _ rfl
    | exact K.out _ bb6.out
    | exact K.out _ bb5.out)
   (first
    | (go_at_call 150;refine ng (d0E _ _ _ x y (V1'.out.call (by first | exact br0.drew | exact a0k br0 _ | exact J4 _ _)) (V2'.out.call (by first | exact br0.drew | exact a0k br0 _ | exact J4 _ _)) L1.out L2.out) fun v5 w5 hv5 hb5=>?_;have bb5:=hid (a0a (by first | exact bb3.out.drew | exact a0k bb3.out _ | exact bb3.out) hb5);have V5:=hid hv5;have Z5:=hid ((V3.out.call br0.drew).call hb5))
    | (go_at_call 175;refine ng (d0Z _ _ _ _ (x+y) z V5.out Z5.out hD.out LS.out L3.out) fun v6 w6 hv6 hb6=>?_;obtain⟨N6,D6,rfl,hN6,hD6,fN6,fD6⟩:=hv6;have bb6:=qx bb5 hb6;obtain⟨a5,c5,rfl,_⟩:=hN6.openI;obtain⟨a6,c6,rfl,_⟩:=hD6.openI;have HN6:=hid hN6;have HD6:=hid hD6;have Z:=hid (HY2.out.call bb6.out);have t0:=Z.out.cell 0;have t1:=Z.out.cell 1;have t2:=Z.out.cell 2;have t3:=Z.out.free 0;have t4:=Z.out.free 1;have t5:=Z.out.free 2;have FN6:=hid (fun g e=>J0 HX0.out.size (J0 bb5.out.size (fN6 g e)));have FD6:=hid (fun g e=>J0 HX0.out.size (J0 bb5.out.size (fD6 g e)));clear hN6 hD6 fN6 fD6))
  go_wp2_with fail;obtain⟨s1,s2⟩:=c0C Z.out (decide ((qmk m (x+y) z).num<0)) a5 a6 (limbs (qmk m (x+y) z).num.natAbs).length c5 (limbs (qmk m (x+y) z).den).length c6;obtain⟨f0,f1,f2⟩:=qz s2;refine C7 (v:=.agg #[.bool (decide ((qmk m (x+y) z).num<0)),.slice a5 (limbs (qmk m (x+y) z).num.natAbs).length c5,.slice a6 (limbs (qmk m (x+y) z).den).length c6]) (by simp[results,results75,go_sem,f0,f1,f2]) rfl ⟨⟨_,rfl,⟨_,_,rfl,s1 _ _ _ HN6.out,s1 _ _ _ HD6.out,FN6.out,FD6.out⟩⟩,?_⟩
 rotate_left
 focus
  obtain⟨HLT,HLE⟩:=zu hlt (De hlt);clear hlt;go_wp2_with fail;refine nj (b0k _ _ _ x y V1'.out V2'.out) fun w4 hb4=>?_;have bb4:=qx bb3 hb4;obtain⟨W1,W2,W3⟩:=zg (V1'.out.call hb4) (V2'.out.call hb4) (V3.out.call hb4);clear hb4 i0 i1 i2 i3 i4 i5;obtain⟨i0,i1,i2,i3,i4,i5⟩:=K.out _ bb4.out;rw[b0N HLT.out];go_wp2_with fail
  go_region_held3 (fun w'=>w'.cell? ⟨w.heap.size,0,none⟩=some (.bool m1)/\w'.cell? ⟨w.heap.size,1,none⟩=some (.slice a1 k1 c1)/\w'.cell? ⟨w.heap.size,2,none⟩=some (.slice a2 k2 c2)/\w'.cell? ⟨w.heap.size+1,0,none⟩=some (.bool m)/\w'.cell? ⟨w.heap.size+1,1,none⟩=some (.slice a3 k3 c3)/\w'.cell? ⟨w.heap.size+1,2,none⟩=some (.slice a4 k4 c4))
   (first
    | exact K.out _ (by first | exact bb4.out.drew | exact a0k bb4.out _)
    | exact K2.out _ _ _ _ bb6.out _ rfl
    | exact K.out _ bb6.out
    | exact K.out _ bb5.out)
   (first
    | (go_at_call 177;refine ng (f0f _ _ _ y x (W2.out.call (by first | exact br0.drew | exact a0k br0 _ | exact J4 _ _)) (W1.out.call (by first | exact br0.drew | exact a0k br0 _ | exact J4 _ _)) HLE.out L2.out) fun v5 w5 hv5 hb5=>?_;have bb5:=hid (a0a (by first | exact bb4.out.drew | exact a0k bb4.out _ | exact bb4.out) hb5);have V5:=hid hv5;have Z5:=hid ((W3.out.call br0.drew).call hb5))
    | (go_at_call 175;refine ng (d0Z _ _ _ _ (y-x) z V5.out Z5.out hD.out LS.out L3.out) fun v6 w6 hv6 hb6=>?_;obtain⟨N6,D6,rfl,hN6,hD6,fN6,fD6⟩:=hv6;have bb6:=qx bb5 hb6;obtain⟨a5,c5,rfl,_⟩:=hN6.openI;obtain⟨a6,c6,rfl,_⟩:=hD6.openI;have HN6:=hid hN6;have HD6:=hid hD6;have Z:=hid (HY2.out.call bb6.out);have t0:=Z.out.cell 0;have t1:=Z.out.cell 1;have t2:=Z.out.cell 2;have t3:=Z.out.free 0;have t4:=Z.out.free 1;have t5:=Z.out.free 2;have FN6:=hid (fun g e=>J0 HX0.out.size (J0 bb5.out.size (fN6 g e)));have FD6:=hid (fun g e=>J0 HX0.out.size (J0 bb5.out.size (fD6 g e)));clear hN6 hD6 fN6 fD6))
  go_wp2_with fail;obtain⟨s1,s2⟩:=c0C Z.out (decide ((qmk m (y-x) z).num<0)) a5 a6 (limbs (qmk m (y-x) z).num.natAbs).length c5 (limbs (qmk m (y-x) z).den).length c6;obtain⟨f0,f1,f2⟩:=qz s2;refine C7 (v:=.agg #[.bool (decide ((qmk m (y-x) z).num<0)),.slice a5 (limbs (qmk m (y-x) z).num.natAbs).length c5,.slice a6 (limbs (qmk m (y-x) z).den).length c6]) (by simp[results,results75,go_sem,f0,f1,f2]) rfl ⟨⟨_,rfl,⟨_,_,rfl,s1 _ _ _ HN6.out,s1 _ _ _ HD6.out,FN6.out,FD6.out⟩⟩,?_⟩
 rotate_left
 focus
  have HLE:=hid hle;clear hle;go_wp2_with fail;refine nj (b0k _ _ _ x y V1'.out V2'.out) fun w4 hb4=>?_;have bb4:=qx bb3 hb4;obtain⟨W1,W2,W3⟩:=zg (V1'.out.call hb4) (V2'.out.call hb4) (V3.out.call hb4);clear hb4 i0 i1 i2 i3 i4 i5;obtain⟨i0,i1,i2,i3,i4,i5⟩:=K.out _ bb4.out;obtain⟨t,ht⟩:=gn (b0g x y);have q7:decide (t<0)=false:=by rw[<- ht];exact b1a HLE.out
  rw[ht];clear ht;go_wp2_with fail
  go_region_held3 (fun w'=>w'.cell? ⟨w.heap.size,0,none⟩=some (.bool m)/\w'.cell? ⟨w.heap.size,1,none⟩=some (.slice a1 k1 c1)/\w'.cell? ⟨w.heap.size,2,none⟩=some (.slice a2 k2 c2)/\w'.cell? ⟨w.heap.size+1,0,none⟩=some (.bool m2)/\w'.cell? ⟨w.heap.size+1,1,none⟩=some (.slice a3 k3 c3)/\w'.cell? ⟨w.heap.size+1,2,none⟩=some (.slice a4 k4 c4))
   (first
    | exact K.out _ (by first | exact bb4.out.drew | exact a0k bb4.out _)
    | exact K2.out _ _ _ _ bb6.out _ rfl
    | exact K.out _ bb6.out
    | exact K.out _ bb5.out)
   (first
    | (go_at_call 177;refine ng (f0f _ _ _ x y (W1.out.call (by first | exact br0.drew | exact a0k br0 _ | exact J4 _ _)) (W2.out.call (by first | exact br0.drew | exact a0k br0 _ | exact J4 _ _)) HLE.out L1.out) fun v5 w5 hv5 hb5=>?_;have bb5:=hid (a0a (by first | exact bb4.out.drew | exact a0k bb4.out _ | exact bb4.out) hb5);have V5:=hid hv5;have Z5:=hid ((W3.out.call br0.drew).call hb5))
    | (go_at_call 175;refine ng (d0Z _ _ _ _ (x-y) z V5.out Z5.out hD.out LS.out L3.out) fun v6 w6 hv6 hb6=>?_;obtain⟨N6,D6,rfl,hN6,hD6,fN6,fD6⟩:=hv6;have bb6:=qx bb5 hb6;obtain⟨a5,c5,rfl,_⟩:=hN6.openI;obtain⟨a6,c6,rfl,_⟩:=hD6.openI;have HN6:=hid hN6;have HD6:=hid hD6;have Z:=hid (HY2.out.call bb6.out);have t0:=Z.out.cell 0;have t1:=Z.out.cell 1;have t2:=Z.out.cell 2;have t3:=Z.out.free 0;have t4:=Z.out.free 1;have t5:=Z.out.free 2;have FN6:=hid (fun g e=>J0 HX0.out.size (J0 bb5.out.size (fN6 g e)));have FD6:=hid (fun g e=>J0 HX0.out.size (J0 bb5.out.size (fD6 g e)));clear hN6 hD6 fN6 fD6))
  go_wp2_with fail;obtain⟨s1,s2⟩:=c0C Z.out (decide ((qmk m (x-y) z).num<0)) a5 a6 (limbs (qmk m (x-y) z).num.natAbs).length c5 (limbs (qmk m (x-y) z).den).length c6;obtain⟨f0,f1,f2⟩:=qz s2;refine C7 (v:=.agg #[.bool (decide ((qmk m (x-y) z).num<0)),.slice a5 (limbs (qmk m (x-y) z).num.natAbs).length c5,.slice a6 (limbs (qmk m (x-y) z).den).length c6]) (by simp[results,results75,go_sem,f0,f1,f2]) rfl ⟨⟨_,rfl,⟨_,_,rfl,s1 _ _ _ HN6.out,s1 _ _ _ HD6.out,FN6.out,FD6.out⟩⟩,?_⟩
 all_goals
  exact (((HX0.out.trans (bb6.out.mono (J0 nr HX0.out.size))).setCell (by simp;omega) _).setCell (by simp;omega) _).setCell (by simp;omega) _
def u0B (w:World)(v u:Value)(p q:Rat)(hp:IsQ .i64 w v p)(hq:IsQ .i64 w u q)
 (h1:(limbs p.num.natAbs).length<=100000) (h2:(limbs p.den).length<=100000) (h3:(limbs q.num.natAbs).length<=100000) (h4:(limbs q.den).length<=100000):
 Calls prog 75 #[v,u] w fun e w'=>RetQF w.heap.size (p+q) e w'/\Below w.heap.size w w':=by
 obtain⟨N1,D1,rfl,hn1,hd1⟩:=hp.ex;obtain⟨N2,D2,rfl,hn2,hd2⟩:=hq.ex;have he:=p0l p q;have hw:=fun m s key=>k0N w (decide (p.num<0)) (decide (q.num<0)) m N1 D1 N2 D2 _ _ _ _ s hn1 hd1 hn2 hd2 h1 h2 h3 h4 p.den_pos q.den_pos key
 rw[he];generalize decide (p.num<0)=m1 at *
 generalize decide (q.num<0)=m2 at *
 by_cases hm:m1=m2
 .subst hm;rw[n0v];exact hw m1 _ (.inl ⟨rfl,rfl,rfl⟩)
 .have hm':(m1==m2)=false:=by simpa using hm
  rcases Ct (p.num.natAbs*q.den) (q.num.natAbs*p.den) with hl | hl
  .rw[n0y hm hl];exact hw m2 _ (.inr (.inl ⟨hm',hl,rfl,rfl⟩))
  .rw[n0x hm hl];exact hw m1 _ (.inr (.inr ⟨hm',hl,rfl,rfl⟩))
def e0v (w:World)(v u:Value)(p q:Rat)(hp:IsQ .i64 w v p)(hq:IsQ .i64 w u q)
 (h1:(limbs p.num.natAbs).length<=100000) (h2:(limbs p.den).length<=100000) (h3:(limbs q.num.natAbs).length<=100000) (h4:(limbs q.den).length<=100000):
 Calls prog 75 #[v,u] w fun e w'=>f0E .i64 (p+q) e w'/\Below w.heap.size w w':=
 (u0B w v u p q hp hq h1 h2 h3 h4).mono fun _ _ h=>⟨h.1.ret,h.2⟩
def c0G (w:World)(v u:Value)(p q:Rat)(hp:IsQ .i64 w v p)(hq:IsQ .i64 w u q)
 (h1:(limbs p.num.natAbs).length<=100000) (h2:(limbs p.den).length<=100000) (h3:(limbs q.num.natAbs).length<=100000) (h4:(limbs q.den).length<=100000):
 Calls prog 72 #[v,u] w fun e w'=>f0E .i64 (p*q) e w'/\Below w.heap.size w w':=by
 have HQ:=hid (j0q p q);rw[<- HQ.out];have hD:=hid (Eb p.den_pos q.den_pos);obtain⟨N1,D1,rfl,hn1,hd1⟩:=hp.ex;obtain⟨N2,D2,rfl,hn2,hd2⟩:=hq.ex;clear hp hq HQ;generalize decide (p.num<0)=m1 at *
 generalize decide (q.num<0)=m2 at *
 generalize p.num.natAbs=n1 at *
 generalize q.num.natAbs=n2 at *
 generalize p.den=d1 at *
 generalize q.den=d2 at *
 obtain⟨HN1,HD1,HN2,HD2,L1,L2,H1,H2,H3,H4⟩:=ky hn1 hd1 hn2 hd2 (J0 (a0H h1 h3) (show 100000+100000<=1000000 by omega)) (J0 (a0H h2 h4) (show 100000+100000<=1000000 by omega)) (J0 h1 (show 100000<=1000000 by omega)) (J0 h2 (show 100000<=1000000 by omega)) (J0 h3 (show 100000<=1000000 by omega)) (J0 h4 (show 100000<=1000000 by omega));clear h1 h2 h3 h4;obtain⟨a1,c1,rfl,_⟩:=hn1.openI;obtain⟨a2,c2,rfl,_⟩:=hd1.openI;obtain⟨a3,c3,rfl,_⟩:=hn2.openI;obtain⟨a4,c4,rfl,_⟩:=hd2.openI;clear hn1 hd1 hn2 hd2;go_enter func72,ntmps72;go_wp2_with fail;obtain⟨W,hW⟩:=gn (((w.alloc (.cells #[.bool m1,.slice a1 (limbs n1).length c1,.slice a2 (limbs d1).length c2] 81)).alloc (.cells #[.bool m2,.slice a3 (limbs n2).length c3,.slice a4 (limbs d2).length c4] 81)).alloc (.cells #[.bool false,.slice none 0 0,.slice none 0 0] 81));rw[hW];have X0:Below w.heap.size w W:=by rw[<- hW];exact ((br0.alloc nr _).alloc (by simp) _).alloc (by simp;omega) _
 have Y0:Blk W w.heap.size #[.bool m1,.slice a1 (limbs n1).length c1,.slice a2 (limbs d1).length c2] 81:=by rw[<- hW];exact ((Blk.new w _ _).alloc _).alloc _
 have Y1:Blk W (w.heap.size+1) #[.bool m2,.slice a3 (limbs n2).length c3,.slice a4 (limbs d2).length c4] 81:=by rw[<- hW];exact (Blk.made (w.alloc _) _ _ (by simp)).alloc _
 have Y2:Blk W (w.heap.size+1+1) #[.bool false,.slice none 0 0,.slice none 0 0] 81:=by rw[<- hW];exact Blk.made ((w.alloc _).alloc _) _ _ (by simp)
 have K0:∀ w',Blk w' w.heap.size #[.bool m1,.slice a1 (limbs n1).length c1,.slice a2 (limbs d1).length c2] 81->Blk w' (w.heap.size+1) #[.bool m2,.slice a3 (limbs n2).length c3,.slice a4 (limbs d2).length c4] 81 ->
  w'.cell? ⟨w.heap.size,0,none⟩=some (.bool m1)/\w'.cell? ⟨w.heap.size,1,none⟩=some (.slice a1 (limbs n1).length c1)/\w'.cell? ⟨w.heap.size,2,none⟩=some (.slice a2 (limbs d1).length c2) /\
  w'.cell? ⟨w.heap.size+1,0,none⟩=some (.bool m2)/\w'.cell? ⟨w.heap.size+1,1,none⟩=some (.slice a3 (limbs n2).length c3)/\w'.cell? ⟨w.heap.size+1,2,none⟩=some (.slice a4 (limbs d2).length c4):=
  fun w' y0 y1=>⟨y0.cell 0,y0.cell 1,y0.cell 2,y1.cell 0,y1.cell 1,y1.cell 2⟩
 have K:Hid (∀ w',Below W.heap.size W w'->w'.cell? ⟨w.heap.size,0,none⟩=some (.bool m1)/\w'.cell? ⟨w.heap.size,1,none⟩=some (.slice a1 (limbs n1).length c1)/\w'.cell? ⟨w.heap.size,2,none⟩=some (.slice a2 (limbs d1).length c2) /\
  w'.cell? ⟨w.heap.size+1,0,none⟩=some (.bool m2)/\w'.cell? ⟨w.heap.size+1,1,none⟩=some (.slice a3 (limbs n2).length c3)/\w'.cell? ⟨w.heap.size+1,2,none⟩=some (.slice a4 (limbs d2).length c4)):=fun w' hb=>K0 w' (Y0.call hb) (Y1.call hb)
 have K2:Hid (∀ w1 x y z,Below W.heap.size W w1->∀ w',((w1.setCell ⟨w.heap.size+1+1,0,none⟩ x).setCell ⟨w.heap.size+1+1,1,none⟩ y).setCell ⟨w.heap.size+1+1,2,none⟩ z=w'->w'.cell? ⟨w.heap.size,0,none⟩=some (.bool m1)/\w'.cell? ⟨w.heap.size,1,none⟩=some (.slice a1 (limbs n1).length c1)/\w'.cell? ⟨w.heap.size,2,none⟩=some (.slice a2 (limbs d1).length c2) /\
  w'.cell? ⟨w.heap.size+1,0,none⟩=some (.bool m2)/\w'.cell? ⟨w.heap.size+1,1,none⟩=some (.slice a3 (limbs n2).length c3)/\w'.cell? ⟨w.heap.size+1,2,none⟩=some (.slice a4 (limbs d2).length c4)):=by
  rintro w1 x y z hb _ rfl;exact K0 _ ((((Y0.call hb).other (by simp;omega) _).other (by simp;omega) _).other (by simp;omega) _) ((((Y1.call hb).other (by simp) _).other (by simp) _).other (by simp) _)
 obtain⟨HY2,HX0⟩:=zu Y2 X0;obtain⟨k0,k1,k2,k3,k4,k5⟩:=K W br0;clear K0;clear Y0 Y1 Y2 X0 hW;obtain⟨XN1,XD1,XN2,XD2⟩:=zc (HN1.out.call HX0.out) (HD1.out.call HX0.out) (HN2.out.call HX0.out) (HD2.out.call HX0.out)
 go_region_held3 (fun w'=>w'.cell? ⟨w.heap.size,0,none⟩=some (.bool m1)/\w'.cell? ⟨w.heap.size,1,none⟩=some (.slice a1 (limbs n1).length c1)/\w'.cell? ⟨w.heap.size,2,none⟩=some (.slice a2 (limbs d1).length c2) /\
  w'.cell? ⟨w.heap.size+1,0,none⟩=some (.bool m2)/\w'.cell? ⟨w.heap.size+1,1,none⟩=some (.slice a3 (limbs n2).length c3)/\w'.cell? ⟨w.heap.size+1,2,none⟩=some (.slice a4 (limbs d2).length c4))
  (first
   | exact K.out _ br0.drew
   | exact K2.out _ _ _ _ B3.out _ rfl
   | exact K.out _ B3.out
   | exact K.out _ B2.out
   | exact K.out _ B1.out)
  (first
   | (go_at_call_of 176 (Value.slice a1 (limbs n1).length c1);refine ng (b0n _ _ _ n1 n2 (XN1.out.call (by first | exact B2.out | exact br0.drew)) (XN2.out.call (by first | exact B2.out | exact br0.drew)) H1.out H3.out) fun v1 w1 hv1 hb1=>?_;have B1:=hid (a0a (by first | exact B2.out | exact br0.drew) hb1))
   | (go_at_call_of 176 (Value.slice a2 (limbs d1).length c2);refine ng (b0n _ _ _ d1 d2 (XD1.out.call (by first | exact B1.out | exact br0.drew)) (XD2.out.call (by first | exact B1.out | exact br0.drew)) H2.out H4.out) fun v2 w2 hv2 hb2=>?_;have B2:=hid (a0a (by first | exact B1.out | exact br0.drew) hb2))
   | (go_at_call 175;refine ng (k0M _ _ _ _ (n1*n2) (d1*d2) (by first | exact hv1 | exact hv1.call hb2) (by first | exact hv2 | exact hv2.call hb1) hD.out L1.out L2.out) fun v3 w3 hv3 hb3=>?_;obtain⟨N3,D3,rfl,hN3,hD3⟩:=hv3.ex;have B3:=hid (a0a (by first | exact B2.out | exact B1.out) hb3);obtain⟨a5,c5,rfl,_⟩:=hN3.openI;obtain⟨a6,c6,rfl,_⟩:=hD3.openI;have HN3:=hid hN3;have HD3:=hid hD3;have Z:=hid (HY2.out.call B3.out);have t0:=Z.out.cell 0;have t1:=Z.out.cell 1;have t2:=Z.out.cell 2;have t3:=Z.out.free 0;have t4:=Z.out.free 1;have t5:=Z.out.free 2;clear hv3 hN3 hD3))
 have hbn:(!(m1==m2))=(m1 != m2):=rfl;rw[hbn]at *;go_wp2_with fail;obtain⟨s1,s2⟩:=c0C Z.out (decide ((qmk (m1 != m2) (n1*n2) (d1*d2)).num<0)) a5 a6 (limbs (qmk (m1 != m2) (n1*n2) (d1*d2)).num.natAbs).length c5 (limbs (qmk (m1 != m2) (n1*n2) (d1*d2)).den).length c6;obtain⟨f0,f1,f2⟩:=qz s2;refine C7 (v:=.agg #[.bool (decide ((qmk (m1 != m2) (n1*n2) (d1*d2)).num<0)),.slice a5 (limbs (qmk (m1 != m2) (n1*n2) (d1*d2)).num.natAbs).length c5,.slice a6 (limbs (qmk (m1 != m2) (n1*n2) (d1*d2)).den).length c6]) (by simp[results,results72,go_sem,f0,f1,f2]) rfl ⟨⟨_,rfl,⟨_,_,rfl,s1 _ _ _ HN3.out,s1 _ _ _ HD3.out⟩⟩,?_⟩;exact (((HX0.out.trans (B3.out.mono (J0 nr HX0.out.size))).setCell (by simp;omega) _).setCell (by simp;omega) _).setCell (by simp;omega) _
def Qv (v:Value):Prop:=∃ (m:Bool) (a:Option Addr) (n c:Nat) (a':Option Addr) (n' c':Nat),v=.agg #[.bool m,.slice a n c,.slice a' n' c']
theorem IsQ.qv {k:IntKind}{w:World}{v:Value}{q:Rat}(h:IsQ k w v q):Qv v:=by
 obtain⟨N,D,rfl,h1,h2⟩:=h.ex;obtain⟨a1,c1,rfl,_⟩:=h1.openI;obtain⟨a2,c2,rfl,_⟩:=h2.openI;exact⟨_,_,_,_,_,_,_,rfl⟩
theorem RetQE.open {s:ByteArray}{e:Ending}{w':World}(h:RetQE s e w'):∃ (m:Bool) (a:Option Addr) (n c:Nat) (a':Option Addr) (n' c':Nat),e=.returned (.tuple #[.agg #[.bool m,.slice a n c,.slice a' n' c'],.int .i64 (qE s)])/\(qE s=0->IsQ .i64 w' (.agg #[.bool m,.slice a n c,.slice a' n' c']) (vQ s))/\(qE s≠0->m=false/\a=none/\n=0/\c=0/\a'=none/\n'=0/\c'=0):=by
 obtain⟨v,rfl,h1,h2⟩:=h;by_cases h0:qE s=0
 .obtain⟨m,a,n,c,a',n',c',rfl⟩:=(h1 h0).qv;exact⟨m,a,n,c,a',n',c',rfl,h1,fun h=>absurd h0 h⟩
 .obtain rfl:=h2 h0;exact⟨_,_,_,_,_,_,_,rfl,h1,fun _=>⟨rfl,rfl,rfl,rfl,rfl,rfl,rfl⟩⟩
theorem IsQ.keep {k:IntKind}{w w':World}{v:Value}{q:Rat}(h:IsQ k w v q)(f:∀ k v x,IsN k w v x->IsN k w' v x):IsQ k w' v q:=by
 obtain⟨N,D,rfl,h1,h2⟩:=h.ex;exact⟨N,D,rfl,f _ _ _ h1,f _ _ _ h2⟩
theorem IsN.drew {k:IntKind}{w:World}{v:Value}{n:Nat}(h:IsN k w v n):IsN k w.drew v n:=Row.drew h
def c1p (s t:ByteArray)(e:Ending)(w':World):Prop:=∃ (m:Bool) (a:Option Addr) (n c:Nat) (a':Option Addr) (n' c':Nat) (m2:Bool) (b:Option Addr) (j d:Nat) (b':Option Addr) (j' d':Nat),
 e=.returned (.tuple #[.agg #[.bool m,.slice a n c,.slice a' n' c'],.agg #[.bool m2,.slice b j d,.slice b' j' d'],.int .i64 (if qE s=0 then qE t else qE s)]) /\
 (qE s=0->qE t=0->IsQ .i64 w' (.agg #[.bool m,.slice a n c,.slice a' n' c']) (vQ s)/\IsQ .i64 w' (.agg #[.bool m2,.slice b j d,.slice b' j' d']) (vQ t))
def w0u (w:World)(s t:ByteArray)(hs:s.size<=1000000)(ht:t.size<=1000000):
 Calls prog 148 #[.string s,.string t] w fun e w'=>c1p s t e w'/\Below w.heap.size w w':=by
 have R1:=fun V=>hid (d0k V s hs)
 have R2:=fun V=>hid (d0k V t ht)
 obtain⟨t1,u0,u1⟩:=zg ((J4 w.heap.size w).alloc nr (.cells #[.bool false,.slice none 0 0,.slice none 0 0] 81)) ((Blk.new w #[.bool false,.slice none 0 0,.slice none 0 0] 81).alloc (.cells #[.bool false,.slice none 0 0,.slice none 0 0] 81)) (Blk.made (w.alloc (.cells #[.bool false,.slice none 0 0,.slice none 0 0] 81)) #[.bool false,.slice none 0 0,.slice none 0 0] 81 (n:=w.heap.size+1) (by simp));have u2:=hid (t1.out.alloc (by simp) (.cells #[.bool false,.slice none 0 0,.slice none 0 0] 81));clear hs ht t1;go_enter func148,ntmps148;go_wp2_with fail;refine (R1 _).out.mono ?_;rintro e w1 ⟨hr1,hb1⟩;obtain⟨m,a,n,c,a',n',c',rfl,h1,h2⟩:=hr1.open;obtain⟨v0,v1⟩:=zu (u0.out.call hb1) (u1.out.call hb1);have v2:=qx u2 hb1;have l1:=v1.out.lt;obtain⟨x,hx⟩:=gn (qE s);have HXX:=hid hx;by_cases h0:x=0
 .subst h0;rw[hx];have Q1:=hid (h1 hx);clear h1 h2 hr1 hb1 R1 hx;obtain⟨X7,b7⟩:=zu (Blk.new w1 #[.bool m,.slice a n c,.slice a' n' c'] 81) ((J4 w1.heap.size w1).alloc nr (.cells #[.bool m,.slice a n c,.slice a' n' c'] 81));obtain⟨x0,x1⟩:=zu (v0.out.call b7.out) (v1.out.call b7.out);have x2:=qx v2 b7.out;have Q2:=hid (Q1.out.call b7.out);clear v0 v1 v2 Q1 b7;go_wp2_with fail;refine (R2 _).out.mono ?_;rintro e w2 ⟨hr2,hb2⟩;obtain⟨m2,b,j,d,b',j',d',rfl,k1,k2⟩:=hr2.open;obtain⟨y0,y1⟩:=zu (x0.out.call hb2) (x1.out.call hb2);have y2:=qx x2 hb2;obtain⟨y7,Q3,K1⟩:=zg (X7.out.call hb2) (Q2.out.call hb2) k1;clear x0 x1 x2 X7 Q2 hb2 hr2 k1 k2 R2;have l2:=y7.out.lt;have n6:(w.heap.size=w2.heap.size)=False:=by simp;omega
  clear l1 l2;obtain⟨z,hz⟩:=gn (qE t);have HZ:=hid hz;rw[hz];clear hz;obtain⟨X9,b9⟩:=zu (Blk.new w2 #[.bool m2,.slice b j d,.slice b' j' d'] 81) ((J4 w2.heap.size w2).alloc nr (.cells #[.bool m2,.slice b j d,.slice b' j' d'] 81));obtain⟨z0,z1⟩:=zu (y0.out.call b9.out) (y1.out.call b9.out);have z2:=qx y2 b9.out;obtain⟨z7,Q4⟩:=zu (y7.out.call b9.out) (Q3.out.call b9.out);have K2:=fun h=>hid ((K1.out h).call b9.out)
  clear y0 y1 y2 y7 Q3 b9 K1;have HH1:=z0.out.cell 0;have HH2:=z0.out.cell 1;have HH3:=z0.out.cell 2;obtain⟨HH4,HH5,HH6⟩:=qq z0.out;obtain⟨KK1,KK2,KK3⟩:=qz z1.out;obtain⟨KK4,KK5,KK6⟩:=qq z1.out;obtain⟨JJ1,JJ2,JJ3⟩:=qz z7.out;simp at HH1 HH2 HH3;obtain⟨II1,II2,II3⟩:=qz X9.out;go_wp2_with fail
  go_region
  obtain⟨p1,p2⟩:=c0C z0.out m a a' n c n' c';have r1:=((z1.out.other (a:=⟨w.heap.size,0,none⟩) (by simp) (.bool m)).other (a:=⟨w.heap.size,1,none⟩) (by simp) (.slice a n c)).other (a:=⟨w.heap.size,2,none⟩) (by simp) (.slice a' n' c');obtain⟨p3,p4⟩:=c0C r1 m2 b b' j d j' d';have p5:=((p2.other (a:=⟨w.heap.size+1,0,none⟩) (by simp) (.bool m2)).other (a:=⟨w.heap.size+1,1,none⟩) (by simp) (.slice b j d)).other (a:=⟨w.heap.size+1,2,none⟩) (by simp) (.slice b' j' d');obtain⟨f0,f1,f2⟩:=qz p5.drew;obtain⟨g0,g1,g2⟩:=qz p4.drew;go_wp2_with fail;refine C7 (v:=.tuple #[.agg #[.bool m,.slice a n c,.slice a' n' c'],.agg #[.bool m2,.slice b j d,.slice b' j' d'],.int .i64 z]) (by simp[results,results148,go_sem,f0,f1,f2,g0,g1,g2]) rfl ⟨⟨m,a,n,c,a',n',c',m2,b,j,d,b',j',d',by rw[J3 HXX.out,HZ.out],fun h1 h2=>⟨(Q4.out.keep fun k v x h=>(p3 _ _ _ (p1 _ _ _ h)).drew),((K2 h2).out.keep fun k v x h=>(p3 _ _ _ (p1 _ _ _ h)).drew)⟩⟩,?_⟩;exact ((((((z2.out.setCell nr _).setCell nr _).setCell nr _).setCell (Fm _) _).setCell (Fm _) _).setCell (Fm _) _).drew
 .rw[hx];have q0:(x != 0)=true:=by simpa using h0
  obtain⟨rfl,rfl,rfl,rfl,rfl,rfl,rfl⟩:=h2 (by rw[hx];exact h0);have H0:=hid h0;clear h1 h2 hr1 hb1 R1 R2 hx h0;obtain⟨X7,b7⟩:=zu (Blk.new w1 #[.bool false,.slice none 0 0,.slice none 0 0] 81) ((J4 w1.heap.size w1).alloc nr (.cells #[.bool false,.slice none 0 0,.slice none 0 0] 81));obtain⟨x0,x1⟩:=zu (v0.out.call b7.out) (v1.out.call b7.out);have x2:=qx v2 b7.out;clear v0 v1 v2 b7;have HH1:=x0.out.cell 0;have HH2:=x0.out.cell 1;have HH3:=x0.out.cell 2;obtain⟨HH4,HH5,HH6⟩:=qq x0.out;obtain⟨KK1,KK2,KK3⟩:=qz x1.out;obtain⟨KK4,KK5,KK6⟩:=qq x1.out;obtain⟨JJ1,JJ2,JJ3⟩:=qz X7.out;simp at HH1 HH2 HH3;go_wp2_with fail
  go_region
  obtain⟨p1,p2⟩:=c0C x0.out false none none 0 0 0 0;have r1:=((x1.out.other (a:=⟨w.heap.size,0,none⟩) (by simp) (.bool false)).other (a:=⟨w.heap.size,1,none⟩) (by simp) (.slice none 0 0)).other (a:=⟨w.heap.size,2,none⟩) (by simp) (.slice none 0 0);obtain⟨p3,p4⟩:=c0C r1 false none none 0 0 0 0;have p5:=((p2.other (a:=⟨w.heap.size+1,0,none⟩) (by simp) (.bool false)).other (a:=⟨w.heap.size+1,1,none⟩) (by simp) (.slice none 0 0)).other (a:=⟨w.heap.size+1,2,none⟩) (by simp) (.slice none 0 0);obtain⟨f0,f1,f2⟩:=qz p5.drew;obtain⟨g0,g1,g2⟩:=qz p4.drew;go_wp2_with fail;refine C7 (v:=.tuple #[.agg #[.bool false,.slice none 0 0,.slice none 0 0],.agg #[.bool false,.slice none 0 0,.slice none 0 0],.int .i64 x]) (by simp[results,results148,go_sem,f0,f1,f2,g0,g1,g2]) rfl ⟨⟨false,none,0,0,none,0,0,false,none,0,0,none,0,0,by rw[J2 (by rw[HXX.out];exact H0.out),HXX.out],fun h1=>absurd (HXX.out.symm.trans h1) H0.out⟩,?_⟩;exact ((((((x2.out.setCell nr _).setCell nr _).setCell nr _).setCell (Fm _) _).setCell (Fm _) _).setCell (Fm _) _).drew
def b1W {q:Rat}{K:Nat}(h1:nDigits q.num.natAbs<=K)(h2:nDigits q.den<=K):Dig K q:=
 ⟨J7 (Ch _) (J6 (by omega) h1),J7 (Ch _) (J6 (by omega) h2)⟩
def c0A {q:Rat}(h:¬ ovQ q):Dig 4000 q:=by
 unfold ovQ at h;exact b1W (by omega) (by omega)
theorem Dig.limbs {K L:Nat}{q:Rat}(h:Dig K q)(h0:0<K)(hl:K<=9*L):(limbs q.num.natAbs).length<=L/\(limbs q.den).length<=L:=
 ⟨c0L (J0 (a0l h0 h.n) hl),c0L (J0 (a0l h0 h.d) hl)⟩
def d1v (F:Nat)(f:Rat->Rat->Rat):Prop:=∀ (w:World) (v u:Value) (p q:Rat),IsQ .i64 w v p->IsQ .i64 w u q->Dig 4000 p->Dig 4000 q ->
 Calls prog F #[v,u] w fun e w'=>f0E .i64 (f p q) e w'/\Below w.heap.size w w'
def r0J:d1v 75 (· + ·):=fun w v u p q hp hq h1 h2=>by
 have l1:=h1.limbs (L:=100000) (by omega) (by omega);have l2:=h2.limbs (L:=100000) (by omega) (by omega);exact e0v w v u p q hp hq l1.1 l1.2 l2.1 l2.2
def u0S:d1v 72 (· * ·):=fun w v u p q hp hq h1 h2=>by
 have l1:=h1.limbs (L:=100000) (by omega) (by omega);have l2:=h2.limbs (L:=100000) (by omega) (by omega);exact c0G w v u p q hp hq l1.1 l1.2 l2.1 l2.2
def a1K (w:World)(s t:ByteArray)(f:Rat->Rat->Rat)(hs:s.size<=1000000)(ht:t.size<=1000000)(hl:Dig 4000 (vQ s)->Dig 4000 (vQ t)->(limbs (f (vQ s) (vQ t)).num.natAbs).length<=1000000/\(limbs (f (vQ s) (vQ t)).den).length<=1000000):
 ((Dig 4000 (vQ s)->Dig 4000 (vQ t)->∀ V v u,IsQ .i64 V v (vQ s)->IsQ .i64 V u (vQ t)->Calls prog 72 #[v,u] V fun e w'=>f0E .i64 (f (vQ s) (vQ t)) e w'/\Below V.heap.size V w')->Calls prog 54 #[.string s,.string t] w fun e w'=>e=.returned (.tuple #[.string (b0D f s t),.int .i64 (f0F f s t)])/\Below w.heap.size w w') /\
 ((Dig 4000 (vQ s)->Dig 4000 (vQ t)->∀ V v u,IsQ .i64 V v (vQ s)->IsQ .i64 V u (vQ t)->Calls prog 75 #[v,u] V fun e w'=>f0E .i64 (f (vQ s) (vQ t)) e w'/\Below V.heap.size V w')->Calls prog 110 #[.string s,.string t] w fun e w'=>e=.returned (.tuple #[.string (b0D f s t),.int .i64 (f0F f s t)])/\Below w.heap.size w w'):=by
 refine⟨fun hO=>?_,fun hO=>?_⟩
 all_goals
  have R1:=fun V=>hid (w0u V s t hs ht)
  clear hs ht;by_cases h0:qE s=0/\qE t=0
  .have eB:b0D f s t=c0b (f (vQ s) (vQ t)):=by rw[b0D,J3 h0]
   have eE:f0F f s t=c0p (f (vQ s) (vQ t)):=by rw[f0F,J3 h0.1,J3 h0.2]
   rw[eB,eE];have ds:=c0A (d0C h0.1);have dt:=c0A (d0C h0.2);have dl:=hid (hl ds dt);have HO:=fun V v u hp hq=>hid (hO ds dt V v u hp hq)
   have HW:=fun V v h=>hid (c0F V v (f (vQ s) (vQ t)) h dl.out.1 dl.out.2)
   obtain⟨oB,hB⟩:=gn (c0b (f (vQ s) (vQ t)));obtain⟨oE,hE⟩:=gn (c0p (f (vQ s) (vQ t)));rw[hB,hE]at HW;rw[hB,hE];have H0:=hid h0;clear eB eE ds dt dl hB hE h0 hl hO
   first
    | go_enter func54,ntmps54
    | go_enter func110,ntmps110
   go_wp2_with fail;refine (R1 _).out.mono ?_;rintro e w1 ⟨⟨m,a,n,c,a',n',c',m2,b,j,d,b',j',d',rfl,hq⟩,hb1⟩;obtain⟨q1,q2⟩:=hq H0.out.1 H0.out.2;rw[J3 H0.out.1,H0.out.2];have b0:=((J4 w1.heap.size w1).alloc nr (.cells #[.bool m,.slice a n c,.slice a' n' c'] 81)).alloc (by simp) (.cells #[.bool m2,.slice b j d,.slice b' j' d'] 81);have y2:=hid (a0a hb1 b0);have H1:=HO _ _ _ (q1.call b0) (q2.call b0);clear hb1 q1 q2 hq b0 HO R1;go_wp2_with fail;refine nu H1 fun v w2 hv hb2=>?_;have y3:=qx y2 hb2;have H2:=HW _ _ hv;obtain⟨m3,a3,n3,c3,a4,n4,c4,rfl⟩:=hv.qv;clear hv hb2 HW H1;go_wp2_with fail;refine nw H2 y3 fun w3 y4=>?_;clear H2;go_wp2_with fail;go_ret2
   exact⟨rfl,y4.out⟩
  .have n0:(if qE s=0 then qE t else qE s)≠0:=by
    split
    .rename_i h;exact fun e=>h0 ⟨h,e⟩
    .rename_i h;exact h
   have eB:b0D f s t=⟨#[]⟩:=by rw[b0D,J2 h0]
   have eE:f0F f s t=if qE s=0 then qE t else qE s:=by
    rw[f0F]
    split
    .rename_i h;rw[J2 (fun e=>h0 ⟨h,e⟩)]
    .rfl
   rw[eB,eE];obtain⟨x,hx⟩:=gn ((if qE s=0 then qE t else qE s));rw[hx]at n0 |-;have q0:(x != 0)=true:=by simpa using n0
   have HX:=hid hx;clear h0 n0 eB eE hx hl hO
   first
    | go_enter func54,ntmps54
    | go_enter func110,ntmps110
   go_wp2_with fail;refine (R1 _).out.mono ?_;rintro e w1 ⟨⟨m,a,n,c,a',n',c',m2,b,j,d,b',j',d',rfl,-⟩,hb1⟩;rw[HX.out];have y2:=hid ((hb1.alloc hb1.size (.cells #[.bool m,.slice a n c,.slice a' n' c'] 81)).alloc (J0 hb1.size (by simp)) (.cells #[.bool m2,.slice b j d,.slice b' j' d'] 81));clear hb1;go_wp2_with fail;go_ret2
   exact⟨rfl,y2.out⟩
def a1M (w:World)(s t:ByteArray)(hs:s.size<=1000000)(ht:t.size<=1000000):
 qb 110 #[.string s,.string t] w (.tuple #[.string (b0D (· + ·) s t),.int .i64 (f0F (· + ·) s t)]):=
 (a1K w s t (· + ·) hs ht fun ds dt=>(m0J ds dt).limbs (by omega) (by omega)).2 fun ds dt V v u hp hq=>r0J V v u _ _ hp hq ds dt
def w0v (w:World)(s t:ByteArray)(hs:s.size<=1000000)(ht:t.size<=1000000):
 qb 54 #[.string s,.string t] w (.tuple #[.string (b0D (· * ·) s t),.int .i64 (f0F (· * ·) s t)]):=
 (a1K w s t (· * ·) hs ht fun ds dt=>(s0W ds dt).limbs (by omega) (by omega)).1 fun ds dt V v u hp hq=>u0S V v u _ _ hp hq ds dt
def n0L (w:World)(s:ByteArray)(hs:s.size<=1000000):qb 118 #[.string s] w (.int .i64 (qE s)):=by
 have R1:=fun V=>hid (d0k V s hs)
 clear hs;go_enter func118,ntmps118;go_wp2_with fail;refine (R1 _).out.mono ?_;rintro e w1 ⟨hr1,hb1⟩;obtain⟨m,a,n,c,a',n',c',rfl,h1,h2⟩:=hr1.open;obtain⟨x,hx⟩:=gn (qE s);have HX:=hid hx;rw[hx];have y2:=hid (hb1.alloc hb1.size (.cells #[.bool m,.slice a n c,.slice a' n' c'] 81));clear h1 h2 hr1 hb1 hx R1;go_wp2_with fail;go_ret
 exact⟨by rw[HX.out];rfl,y2.out⟩
theorem IsQ.parts {k:IntKind}{w:World}{m:Bool}{N D:Value}{q:Rat}(h:IsQ k w (.agg #[.bool m,N,D]) q):IsN k w N q.num.natAbs/\IsN k w D q.den:=by
 obtain⟨N',D',e,h1,h2⟩:=h.ex;simp at e;obtain⟨-,rfl,rfl⟩:=e;exact⟨h1,h2⟩
theorem IsQ.sign {k:IntKind}{w:World}{m:Bool}{N D:Value}{q:Rat}(h:IsQ k w (.agg #[.bool m,N,D]) q):m=decide (q.num<0):=by
 obtain⟨N',D',e,h1,h2⟩:=h.ex;simp at e;simpa using e.1
def shE (n d:Nat):Int:=if 1000<nDigits n\/1000<nDigits d then 5 else 0
def u0w (w:World)(s:ByteArray)(hs:s.size<=1000000)(hq:qE s=0):qb 138 #[.string s] w (.int .i64 (shE (vQ s).num.natAbs (vQ s).den)):=by
 have R1:=fun V=>hid (d0k V s hs)
 have dl:=hid ((c0A (d0C hq)).limbs (L:=1000000) (by omega) (by omega));obtain⟨n,hn⟩:=gn ((vQ s).num.natAbs);obtain⟨d,hd⟩:=gn ((vQ s).den);have HQ:=hid hq;rw[hn,hd]at dl;rw[hn,hd];obtain⟨HN,HD,sz,sz2⟩:=zc hn hd (a0y n) (a0y d);clear hs hn hd;obtain⟨B1,hB1⟩:=gn (a0f n);obtain⟨B2,hB2⟩:=gn (a0f d);rw[hB1]at sz;rw[hB2]at sz2;obtain⟨E1,E2⟩:=zu hB1 hB2;clear hB1 hB2 hq;have key:(1000<B1.size/\shE n d=5)\/(¬ 1000<B1.size/\1000<B2.size/\shE n d=5)\/(¬ 1000<B1.size/\¬ 1000<B2.size/\shE n d=0):=by
  rw[sz.out,sz2.out];unfold shE;by_cases h1:1000<nDigits n
  .exact .inl ⟨h1,J3 (.inl h1)⟩
  .by_cases h2:1000<nDigits d
   .exact .inr (.inl ⟨h1,h2,J3 (.inr h2)⟩)
   .exact .inr (.inr ⟨h1,h2,J2 (fun h=>h.elim h1 h2)⟩)
 rcases key with ⟨k1,k2⟩ | ⟨k1,k2,k3⟩ | ⟨k1,k2,k3⟩
 .have q0:decide ((1000:Int)<(B1.size:Int))=true:=by simp;omega
  rw[k2];clear k1 k2;go_enter func138,ntmps138;go_wp2_with fail;refine (R1 _).out.mono ?_;rintro e w1 ⟨hr1,hb1⟩;obtain⟨m,a,k,c,a',k',c',rfl,h1,h2⟩:=hr1.open;have q:=h1 HQ.out;rw[HQ.out];obtain⟨hN,hD⟩:=q.parts;rw[HN.out]at hN;rw[HD.out]at hD;obtain⟨b2,X2⟩:=zu ((J4 w1.heap.size w1).alloc nr (.cells #[.bool m,.slice a k c,.slice a' k' c'] 81)) (Blk.new w1 #[.bool m,.slice a k c,.slice a' k' c'] 81);obtain⟨N2,D2,y2⟩:=zg (hN.call b2.out) (hD.call b2.out) (a0a hb1 b2.out);have g1:=X2.out.cell 1;have g2:=X2.out.cell 2;simp at g1 g2;clear h1 h2 hr1 hb1 q hN hD b2;clear g2 R1;go_wp2_with fail;refine nj (a0S _ _ _ N2.out dl.out.1) fun w3 hb3=>?_;rw[b0s,E1.out];have y3:=qx y2 hb3;clear hb3;go_wp2_with fail;go_ret
  exact⟨rfl,y3.out⟩
 focus
  have q0:decide ((1000:Int)<(B1.size:Int))=false:=by simp;omega
  have q1:decide ((1000:Int)<(B2.size:Int))=true:=by simp;omega
 rotate_left
 focus
  have q0:decide ((1000:Int)<(B1.size:Int))=false:=by simp;omega
  have q1:decide ((1000:Int)<(B2.size:Int))=false:=by simp;omega
 all_goals
  rw[k3];clear k1 k2 k3;go_enter func138,ntmps138;go_wp2_with fail;refine (R1 _).out.mono ?_;rintro e w1 ⟨hr1,hb1⟩;obtain⟨m,a,k,c,a',k',c',rfl,h1,h2⟩:=hr1.open;have q:=h1 HQ.out;rw[HQ.out];obtain⟨hN,hD⟩:=q.parts;rw[HN.out]at hN;rw[HD.out]at hD;obtain⟨b2,X2⟩:=zu ((J4 w1.heap.size w1).alloc nr (.cells #[.bool m,.slice a k c,.slice a' k' c'] 81)) (Blk.new w1 #[.bool m,.slice a k c,.slice a' k' c'] 81);obtain⟨N2,D2,y2⟩:=zg (hN.call b2.out) (hD.call b2.out) (a0a hb1 b2.out);have g1:=X2.out.cell 1;have g2:=X2.out.cell 2;simp at g1 g2;clear h1 h2 hr1 hb1 q hN hD b2;clear R1;go_wp2_with fail;refine nj (a0S _ _ _ N2.out dl.out.1) fun w3 hb3=>?_;rw[b0s,E1.out];have y3:=qx y2 hb3;have D3:=hid (D2.out.call hb3);have g3:=(X2.out.call hb3).cell 2;simp at g3;clear hb3 g1 g2;go_wp2_with fail;refine nj (a0S _ _ _ D3.out dl.out.2) fun w4 hb4=>?_;rw[b0s,E2.out];have y4:=qx y3 hb4;clear hb4;go_wp2_with fail;go_ret
  exact⟨rfl,y4.out⟩
def x0R (w:World)(s:ByteArray)(hs:s.size<=9223372036854775807):Calls prog 139 #[.string s] w fun e w'=>e=.returned (.int .i64 (c0D s))/\w=w':=by
 have R1:=fun V=>hid (n0K V s hs)
 unfold c0D;by_cases hb:o0C s=true
 .have e1:k0i s=0:=J3 hb;rw[e1]at R1;rw[J3 hb];by_cases hl:256<s.size
  .have q0:decide ((256:Int)<(s.size:Int))=true:=by simp;omega
   rw[J3 hl];clear hb e1 hl hs;go_enter Lq,Km;go_wp2_with fail;refine (R1 _).out.mono ?_;rintro e w1 ⟨rfl,rfl⟩;go_wp2_with fail;go_ret
   exact⟨rfl,rfl⟩
  .have q0:decide ((256:Int)<(s.size:Int))=false:=by simp;omega
   rw[J2 hl];clear hb e1 hl hs;go_enter Lq,Km;go_wp2_with fail;refine (R1 _).out.mono ?_;rintro e w1 ⟨rfl,rfl⟩;go_wp2_with fail;go_ret
   exact⟨rfl,rfl⟩
 .have e1:k0i s=3:=J2 hb;rw[e1]at R1;rw[J2 hb];clear hb e1 hs;go_enter Lq,Km;go_wp2_with fail;refine zx (R1 _) ?_;go_wp2_with fail;go_ret
  exact⟨rfl,rfl⟩
def y0U {s:ByteArray}(h:qE s=0):gPE s=if (vQ s).num<0 then 2 else if (vQ s).den<=(vQ s).num.natAbs then 2 else shE (vQ s).num.natAbs (vQ s).den:=by
 obtain⟨e1,e2,e3⟩:=i0W h;obtain⟨h1,h2,h3⟩:=j0s h;have hn:iM (cW s)=true↔(vQ s).num<0:=by rw[<- e1];simp
 have hW0:=d0q (c0o h1);have hD:=j0t h1;unfold gPE;rw[J2 (by rw[h];simp)];by_cases hm:iM (cW s)=true
 .rw[J3 (.inl hm),J3 (hn.1 hm)]
 .have hm':iM (cW s)=false:=by simpa using hm
  rw[b0Z hm']at hW0 e2;unfold qL at h2;rw[b0Z hm']at h2;simp only[Ly,Ac]at h2;have s1:(cW s).data.toList.length=(cW s).size:=Bh;have s2:(qD s).data.toList.length=(qD s).size:=Bh;have c1:l0z (cW s).data.toList (qD s).data.toList=b0g (vQ s).num.natAbs (vQ s).den:=by
   rw[l0z,J3 ⟨f0V (a0W.1 hW0) (by omega),f0V (a0W.1 hD) (by omega)⟩,e2,e3]
   rfl
  have z1:(cW s).size=nDigits (vQ s).num.natAbs:=by rw[e2,<- a0y,<- e0A hW0]
  have z2:(qD s).size=nDigits (vQ s).den:=by rw[e3,<- a0y,<- e0A hD]
  rw[c1,z1,z2,J2 (show ¬ (vQ s).num<0 from fun h=>hm (hn.2 h))];have ho:0<=b0g (vQ s).num.natAbs (vQ s).den↔(vQ s).den<=(vQ s).num.natAbs:=by
   unfold b0g
   split
   .constructor<;>intro h<;>omega
   .split<;>constructor<;>intro h<;>omega
  unfold shE;by_cases hle:(vQ s).den<=(vQ s).num.natAbs
  .rw[J3 (.inr (ho.2 hle)),J3 hle]
  .rw[J2 (fun h=>h.elim hm (fun h=>hle (ho.1 h))),J2 hle]
def b0K (w:World)(s:ByteArray)(hs:s.size<=1000000):qb 46 #[.string s] w (.int .i64 (gPE s)):=by
 have R0:=fun V=>hid (n0L V s hs)
 have R1:=fun V=>hid (d0k V s hs)
 by_cases hq:qE s=0
 .have R2:=fun V=>hid (u0w V s hs hq)
  have hg:=y0U hq;obtain⟨n,hn⟩:=gn ((vQ s).num.natAbs);obtain⟨d,hd⟩:=gn ((vQ s).den);have HQ:=hid hq;rw[hn,hd]at R2 hg;rw[hq]at R0;obtain⟨HN,HD⟩:=zu hn hd;clear hs hn hd hq;by_cases hm:(vQ s).num<0
  .rw[J3 hm]at hg;rw[hg];have HM:=hid (show decide ((vQ s).num<0)=true from by simpa using hm);clear hg hm R2;go_enter func46,ntmps46;go_wp2_with fail;refine nz (R0 _) fun w0 y0=>?_;go_wp2_with fail;refine (R1 _).out.mono ?_;rintro e w1 ⟨hr1,hb1⟩;obtain⟨m,a,k,c,a',k',c',rfl,h1,h2⟩:=hr1.open;have q:=h1 HQ.out;rw[HQ.out];have MS:=hid q.sign;obtain⟨hN,hD⟩:=q.parts;rw[HN.out]at hN;rw[HD.out]at hD;obtain⟨b2,X2⟩:=zu ((J4 w1.heap.size w1).alloc nr (.cells #[.bool m,.slice a k c,.slice a' k' c'] 81)) (Blk.new w1 #[.bool m,.slice a k c,.slice a' k' c'] 81);obtain⟨N2,D2,y2⟩:=zg (hN.call b2.out) (hD.call b2.out) (a0a (a0a y0.out hb1) b2.out);obtain⟨g0,g1,g2⟩:=qz X2.out;clear h1 h2 hr1 hb1 q hN hD b2;clear g1 g2;obtain rfl:m=true:=MS.out.trans HM.out;go_wp2_with fail;go_ret
   exact⟨rfl,y2.out⟩
  .rw[J2 hm]at hg;have HM:=hid (show decide ((vQ s).num<0)=false from by simpa using hm);by_cases hle:d<=n
   .rw[J3 hle]at hg;rw[hg];have HO:Hid (decide (0<=b0g n d)=true):=by
     show decide (0<=b0g n d)=true
     rw[Fc];unfold b0g
     split
     .omega
     .split<;>omega
    clear hg hm R2 hle;go_enter func46,ntmps46;go_wp2_with fail;refine nz (R0 _) fun w0 y0=>?_;go_wp2_with fail;refine (R1 _).out.mono ?_;rintro e w1 ⟨hr1,hb1⟩;obtain⟨m,a,k,c,a',k',c',rfl,h1,h2⟩:=hr1.open;have q:=h1 HQ.out;rw[HQ.out];have MS:=hid q.sign;obtain⟨hN,hD⟩:=q.parts;rw[HN.out]at hN;rw[HD.out]at hD;obtain⟨b2,X2⟩:=zu ((J4 w1.heap.size w1).alloc nr (.cells #[.bool m,.slice a k c,.slice a' k' c'] 81)) (Blk.new w1 #[.bool m,.slice a k c,.slice a' k' c'] 81);obtain⟨N2,D2,y2⟩:=zg (hN.call b2.out) (hD.call b2.out) (a0a (a0a y0.out hb1) b2.out);obtain⟨g0,g1,g2⟩:=qz X2.out;clear h1 h2 hr1 hb1 q hN hD b2;obtain rfl:m=false:=MS.out.trans HM.out;go_wp2_with fail;refine nk (b0k _ _ _ _ _ N2.out D2.out) y2 fun w3 y3=>?_;obtain⟨t,ht⟩:=gn (b0g n d);have q1:=HO.out;rw[ht]at q1 |-;clear ht;go_wp2_with fail;go_ret
    exact⟨rfl,y3.out⟩
   .rw[J2 hle]at hg;rw[hg];have HO:Hid (decide (0<=b0g n d)=false):=by
     show decide (0<=b0g n d)=false
     rw[Ac];unfold b0g
     split
     .omega
     .omega
    clear hg hm hle;obtain⟨x,hx⟩:=gn (shE n d);rw[hx]at R2 |-;clear hx;go_enter func46,ntmps46;go_wp2_with fail;refine nz (R0 _) fun w0 y0=>?_;go_wp2_with fail;refine (R1 _).out.mono ?_;rintro e w1 ⟨hr1,hb1⟩;obtain⟨m,a,k,c,a',k',c',rfl,h1,h2⟩:=hr1.open;have q:=h1 HQ.out;rw[HQ.out];have MS:=hid q.sign;obtain⟨hN,hD⟩:=q.parts;rw[HN.out]at hN;rw[HD.out]at hD;obtain⟨b2,X2⟩:=zu ((J4 w1.heap.size w1).alloc nr (.cells #[.bool m,.slice a k c,.slice a' k' c'] 81)) (Blk.new w1 #[.bool m,.slice a k c,.slice a' k' c'] 81);obtain⟨N2,D2,y2⟩:=zg (hN.call b2.out) (hD.call b2.out) (a0a (a0a y0.out hb1) b2.out);obtain⟨g0,g1,g2⟩:=qz X2.out;clear h1 h2 hr1 hb1 q hN hD b2;obtain rfl:m=false:=MS.out.trans HM.out;go_wp2_with fail;refine nk (b0k _ _ _ _ _ N2.out D2.out) y2 fun w3 y3=>?_;obtain⟨t,ht⟩:=gn (b0g n d);have q1:=HO.out;rw[ht]at q1 |-;clear ht;go_wp2_with fail;refine nw (R2 _) y3 fun w4 y4=>?_;go_wp2_with fail;go_ret
    exact⟨rfl,y4.out⟩
 .have hg:gPE s=qE s:=J3 hq;rw[hg];obtain⟨x,hx⟩:=gn (qE s);rw[hx]at hq R0 |-;have q0:(x != 0)=true:=by simpa using hq
  clear hq hx hg hs R1;go_enter func46,ntmps46;go_wp2_with fail;refine nz (R0 _) fun w0 y0=>?_;go_wp2_with fail;go_ret
  exact⟨rfl,y0.out⟩
def m0f (w:World)(a b:ByteArray)(ha:a.size<=1000000)(hb:b.size<=1000000):qb 140 #[.string a,.string b] w (.int .i64 (gE a b)):=by
 have R0:=fun V=>hid (b0K V a ha)
 have R1:=fun V=>hid (x0R V b (by omega))
 unfold gE;obtain⟨x,hx⟩:=gn (gPE a);obtain⟨y,hy⟩:=gn (c0D b);rw[hx]at R0 |-;rw[hy]at R1 |-;clear hx hy ha hb;by_cases h0:x=0
 .subst h0;rw[J2 (by simp)];go_enter func140,ntmps140;go_wp2_with fail;refine nz (R0 _) fun w0 y0=>?_;go_wp2_with fail;refine zx (R1 _) ?_;go_wp2_with fail;go_ret
  exact⟨rfl,y0.out⟩
 .rw[J3 h0];have q0:(x != 0)=true:=by simpa using h0
  clear h0;go_enter func140,ntmps140;go_wp2_with fail;refine nz (R0 _) fun w0 y0=>?_;go_wp2_with fail;go_ret
  exact⟨rfl,y0.out⟩
open Go.Shelf
def r0l (w:World)(v:Value)(c:List Int)(hv:Row w v (zs c)):
 qb 45 #[v] w (.int .i64 (zE c)):=by
 obtain⟨s,cp,rfl,q1,q2,q3⟩:=hv.openZ;obtain⟨n,hn⟩:=gn (c.length);unfold zE;rw[hn]at q1 |-;by_cases h1:256<n
 .have t1:decide ((256:Int)<(n:Int))=true:=Z7 (by omega);rw[J3 h1];clear hv q3 hn h1;go_enter func45,ntmps45;go_wp2_with fail;go_ret
  exact⟨rfl,J4 _ _⟩
 have t1:decide ((256:Int)<(n:Int))=false:=Z6 (by omega);rw[J2 h1];obtain⟨X,hX⟩:∃ X:Int,(if c.any d0z=true then (2:Int) else 0)=X:=⟨_,rfl⟩;have HX1:Hid (c.any d0z=true->X=2):=fun h=>by rw[<- hX,J3 h]
 have HX0:Hid ((∀ x∈c,d0z x=false)->X=0):=fun h=>by
  rw[<- hX,J2 (fun k=>by
   obtain⟨x,hx,hp⟩:=Dt.1 k;rw[h x hx]at hp;cases hp)]
 rw[hX];obtain⟨Q3,HN⟩:=zu q3 hn;clear hv q3 hn hX;go_enter func45,ntmps45;go_wp2_with fail
 go_loop [3] (fun ii=>∃ i:Nat,ii=.int .i64 i/\i<=n/\Hid (∀ j x,j<i->c[j]?=some x->d0z x=false)) (fun ii=>n-(intOf ii).toNat)
 case atStart=>exact⟨0,rfl,K5 _,fun j x hj=>absurd hj (by omega)⟩
 case round=>
  obtain⟨i,rfl,hi,hI⟩:=hrel;by_cases hlt:i<n
  .obtain⟨x,hx⟩:∃ x,c[i]?=some x:=⟨_,Q0 (by rw[HN.out];exact hlt)⟩;obtain⟨g,o,rfl,hg,hc⟩:=Q3.out i x hx;have HX:=hid hx;have b1:=qw i
   have b2:(i:Int)<(n:Int):=by omega
   have wi:=qy i (by omega)
   have hz:d0z x=(decide (x < -1125899906842624) || decide (1125899906842624<x)):=rfl;obtain⟨p,hp⟩:=gn (decide (x < -1125899906842624));obtain⟨q,hq⟩:=gn (decide (1125899906842624<x));rw[hp,hq]at hz;have HZ:=hid hz;have HA:Hid (d0z x=true->X=2):=fun h=>HX1.out (Dt.2 ⟨x,U7 hx,h⟩)
   clear hx hz;cases p
   .cases q
    .go_wp2_with fail;go_round
     case rel=>exact⟨i+1,by go_num,by omega,fun j y hj hy=>by
      rcases Ct j i with h | h
      .exact hI.out j y h hy
      .obtain rfl:j=i:=by omega
       rw[HX.out]at hy;cases hy;exact HZ.out⟩
     case measure=>simp[intOf]<;>omega
    .have HE:=hid (HA.out HZ.out);go_wp2_with fail;go_ret
     exact⟨by rw[HE.out];rfl,J4 _ _⟩
   .have HE:=hid (HA.out HZ.out);clear hq;go_wp2_with fail;go_ret
    exact⟨by rw[HE.out];rfl,J4 _ _⟩
  .obtain rfl:i=n:=by omega
   have HE:=hid (HX0.out (fun x hx=>by
    obtain⟨j,hj⟩:=Bi hx;exact hI.out j x (by rw[<- HN.out];exact (U4.1 hj).1) hj))
   clear hlt;go_wp2_with fail;go_ret
   exact⟨by rw[HE.out];rfl,J4 _ _⟩
def m0j (w:World)(v:Value)(l:List ByteArray)(m:Int)(h:Row w v (i0i l))(hsz:∀ b∈l,b.size<=100000000):
 qb 47 #[v,.int .i64 m] w (.int .i64 (wdE l m)):=by
 obtain⟨a,c,rfl,h1,h2,h3⟩:=h.openS;obtain⟨n,hn⟩:=gn (l.length);unfold wdE;rw[hn]at h1 |-;by_cases hm:(n:Int)=m
 .rw[J3 hm];obtain⟨H3,HN,HSZ⟩:=zg h3 hn hsz;have q0:((n:Int)==m)=true:=by rw[Fi];exact hm
  obtain⟨X,hX⟩:∃ X:Int,bsE l=X:=⟨_,rfl⟩;have HX:=hid hX;rw[hX];subst hm;clear h h3 hn hX hsz q0;go_enter func47,ntmps47;go_wp2_with fail
  go_loop [5] (fun ii=>∃ i:Nat,ii=.int .i64 i/\i<=n/\Hid (∀ (j:Nat) (b:ByteArray),j<i->l[j]?=some b->c0D b=0)) (fun ii=>n-(intOf ii).toNat)
  case atStart=>exact⟨0,rfl,K5 _,fun j b hj=>absurd hj (by omega)⟩
  case round=>
   obtain⟨i,rfl,hi,hI⟩:=hrel;by_cases hlt:i<n
   .obtain⟨x,hx⟩:∃ x,l[i]?=some x:=⟨_,Q0 (by rw[HN.out];exact hlt)⟩;obtain⟨g,o,rfl,hg,hc⟩:=H3.out i x hx;have b1:=qw i
    have b2:(i:Int)<(n:Int):=by omega
    have wi:IntKind.i64.wrap ((i:Int)+1)=(i:Int)+1:=by rw[U0 _ ⟨by omega,by omega⟩]
    have PN:=fun W=>hid (u0x W x (HSZ.out x (U7 hx)))
    have HXX:=hid hx;have hdrop:l.drop i=x::l.drop (i+1):=by
     have hil:i<l.length:=by rw[HN.out];exact hlt
     rw[S9 hil];have:=Q0 hil;rw[hx]at this;rw[Ag this]
    have HD:=hid hdrop;obtain⟨y,hy⟩:=gn (c0D x);rw[hy]at PN;have HY:=hid hy;clear hx hdrop hy;by_cases hy0:y=0
    .subst hy0;go_wp2_with fail;refine (PN _).out.mono ?_;rintro e w1 ⟨rfl,rfl⟩;go_wp2_with fail;go_round
     case rel=>exact⟨i+1,rfl,by omega,fun j b hj hjb=>by
      by_cases e:j=i
      .subst e;rw[HXX.out]at hjb;cases hjb;exact HY.out
      .exact hI.out j b (by omega) hjb⟩
     case measure=>simp[intOf]<;>omega
    .have q3:(y==0)=false:=by rw[M5];exact hy0
     have HE:Hid (X=y):=by
      show X=y
      rw[<- HX.out,i0S hI.out,HD.out,bsE,HY.out,J3 hy0]
     clear hy0;go_wp2_with fail;refine zx (PN _) ?_;go_wp2_with fail;go_ret
     exact⟨by rw[HE.out];rfl,J4 _ _⟩
   .obtain rfl:i=n:=by omega
    have HE:Hid (X=0):=by
     show X=0
     have hd:l.drop i = []:=Ia (by rw[HN.out];exact O4 _);rw[<- HX.out,i0S hI.out,hd];rfl
    go_wp2_with fail;go_ret
    exact⟨by rw[HE.out];rfl,J4 _ _⟩
 .rw[J2 hm];have q0:((n:Int)==m)=false:=by rw[M5];exact hm
  clear h h3 hn hsz hm;go_enter func47,ntmps47;go_wp2_with fail;go_ret
  exact⟨rfl,J4 _ _⟩
def p0h (w:World)(v:Value)(c:List Int)(hv:Row w v (zs c)):
 qb 181 #[v] w (.int .i64 (ctE c)):=by
 have HC:=hid (r0l w v c hv);obtain⟨s,cp,rfl,q1,q2,q3⟩:=hv.openZ;obtain⟨n,hn⟩:=gn (c.length);unfold ctE;obtain⟨z,hz⟩:=gn (zE c);rw[hz]at HC |-;rw[hn]at HC |-;clear hv q1 q2 q3 hn hz;by_cases h0:n=0
 .subst h0;rw[J3 rfl];go_enter func181,ntmps181;go_wp2_with fail;go_ret
  exact⟨rfl,J4 _ _⟩
 .have t0:((n:Int)==0)=false:=by rw[M5];omega
  rw[J2 h0];clear h0;go_enter func181,ntmps181;go_wp2_with fail;refine ny HC fun w1 hb1=>?_;go_wp2_with fail;go_ret
  exact⟨rfl,hb1⟩
def h0p (w:World)(a:ByteArray)(ha:a.size<=1000000):
 qb 91 #[.string a] w (.int .i64 (g0J a)):=by
 have HC:=hid (b0K w a ha);unfold g0J;obtain⟨z,hz⟩:=gn (gPE a);rw[hz]at HC |-;clear hz ha;by_cases h0:z=0
 .subst h0;rw[J2 (by simp)];by_cases h1:a=⟨#[48]⟩
  .subst h1;rw[J3 rfl];go_enter func91,ntmps91;go_wp2_with fail;refine ny HC fun w1 hb1=>?_;go_wp2_with fail;go_ret
   exact⟨rfl,hb1⟩
  .have t1:(a.toList == [48])=false:=a0O h1;rw[J2 h1];clear h1;go_enter func91,ntmps91;go_wp2_with fail;refine ny HC fun w1 hb1=>?_;go_wp2_with fail;go_ret
   exact⟨rfl,hb1⟩
 .have t0:(z==0)=false:=by rw[M5];exact h0
  rw[J3 h0];clear h0;go_enter func91,ntmps91;go_wp2_with fail;refine ny HC fun w1 hb1=>?_;go_wp2_with fail;go_ret
  exact⟨rfl,hb1⟩
end
section
def w0a (N D K T:Nat)(v:Nat)(b:Bool):Prop:=(decide (b0g (N*T) (K*D)<=0)=true/\v=0/\b=true)\/(decide (b0g (N*T) (K*D)<=0)=false/\v=1/\b=decide (b0g (K*D+D) (N*T)<=0))
def w0A (a b:Nat):decide (b0g a b<=0)=decide (a<=b):=by
 unfold b0g
 split
 .rw[Gc];omega
 .split<;>(rw[Gc];omega)
def b1X (N D K T:Nat):w0a N D K T (sdV N D K T) (sdB N D K T):=by
 unfold w0a sdV sdB;rw[w0A,w0A];by_cases h:N*T<=K*D
 .exact .inl ⟨by simpa using h,J3 h,by simp[h]⟩
 .exact .inr ⟨by simpa using h,J2 h,by simp[h]⟩
def m0h (w:World)(m:Bool)(N D:Value)(n d v:Nat)(b:Bool)(s:ByteArray)(hs:s.size<=100000)(hN:IsN .i64 w N n)(hD:IsN .i64 w D d)
 (l1:(limbs n).length<=100000) (l2:(limbs d).length<=100000) (key:w0a n d (bv s.data.toList) (2 ^ s.size) v b):
 qb 272 #[.agg #[.bool m,N,D],.string s] w (.tuple #[.int .i64 v,.bool b]):=by
 have RV:=fun V=>hid (u0y V s hs)
 have RT:=fun V=>hid (n0I V s.size hs)
 have hsl:s.data.toList.length=s.size:=by simp
 have bl:=z0H (l:=s.data.toList) s.data.toList.length nr;rw[Ei,hsl]at bl;obtain⟨K,hK⟩:=gn (bv s.data.toList);obtain⟨T,hT⟩:=gn (2 ^ s.size);have lK:(limbs K).length<=100000:=by rw[<- hK];exact J0 (d0a bl) hs
 have lT:(limbs T).length<=100001:=by rw[<- hT];exact J0 (d0a (k:=s.size+1) (Hg (by omega) (by omega))) (by omega)
 rw[hK]at RV key;rw[hT]at RT key;obtain⟨L1,L2,L3,L4,L5⟩:=zd (J0 l1 (show 100000<=1000000 by omega)) (J0 l2 (show 100000<=1000000 by omega)) (J0 lK (show 100000<=1000000 by omega)) (J0 lT (show 100001<=1000000 by omega)) (J0 (a0H lK l2) (show 100000+100000<=1000000 by omega));clear hsl bl hK hT lK lT l1 l2 hs;obtain⟨HN,HD⟩:=zu hN hD;obtain⟨a1,c1,rfl,_⟩:=hN.openI;obtain⟨a2,c2,rfl,_⟩:=hD.openI;obtain⟨k1,hk1⟩:=gn ((limbs n).length);obtain⟨k2,hk2⟩:=gn ((limbs d).length);rw[hk1]at HN |-;rw[hk2]at HD |-;clear hN hD hk1 hk2;unfold w0a at key;obtain⟨t,ht⟩:=gn (b0g (n*T) (K*d));obtain⟨u,hu⟩:=gn (b0g (K*d+d) (n*T));rw[ht,hu]at key;obtain⟨HT,HU⟩:=zu ht hu;clear ht hu;obtain⟨W,hW⟩:=gn (w.alloc (.cells #[.bool m,.slice a1 k1 c1,.slice a2 k2 c2] 81));have X0:Below w.heap.size w W:=by rw[<- hW];exact br0.alloc nr _
 have Y0:Blk W w.heap.size #[.bool m,.slice a1 k1 c1,.slice a2 k2 c2] 81:=by rw[<- hW];exact Blk.new w _ _
 obtain⟨HX0,HY0,XN,XD,HW⟩:=zd X0 Y0 (HN.out.call X0) (HD.out.call X0) hW;clear X0 Y0 hW HN HD;rcases key with ⟨key,rfl,rfl⟩ | ⟨key,rfl,rfl⟩
 .go_enter func272,ntmps272;go_wp2_with fail;rw[HW.out];refine nu (RV _) fun v1 w1 hv1 hb1=>?_;obtain⟨bb1,V1⟩:=zu hb1 hv1;have g1:=(HY0.out.call hb1).cell 1;simp at g1;clear hv1 hb1;go_wp2_with fail;have K1:Hid (∀ w',Below w1.heap.size w1 w'->w'.cell? ⟨w.heap.size,1,none⟩=some (.slice a1 k1 c1)):=fun w' hb=>by
   have:=(HY0.out.call (a0a bb1.out hb)).cell 1;simpa using this
  go_region_held3 (fun w'=>w'.cell? ⟨w.heap.size,1,none⟩=some (.slice a1 k1 c1))
   (first
    | exact K1.out _ br0.drew
    | exact K1.out _ cc3.out
    | exact K1.out _ cc2.out)
   (first
    | (go_at_call 221;refine nu (RT _) fun v2 w2 hv2 hb2=>?_;have cc2:=hid (a0a br0.drew hb2);have V2:=hid hv2)
    | (go_at_call 176;refine ng (b0n _ _ _ n T (XN.out.call (a0a bb1.out cc2.out)) V2.out L1.out L4.out) fun v3 w3 hv3 hb3=>?_;have cc3:=qx cc2 hb3;have V2':=hid hv3))
  have bb3:=qx bb1 cc3.out;have V1':=hid (V1.out.call cc3.out);have g3:=(HY0.out.call bb3.out).cell 2;simp at g3;clear hv2 hb2 hv3 hb3 V2 V1 cc2 cc3 K1 g1;go_wp2_with fail;refine ng (b0n _ _ _ K d V1'.out (XD.out.call bb3.out) L3.out L2.out) fun v4 w4 hv4 hb4=>?_;have bb4:=qx bb3 hb4;obtain⟨V3,V2q⟩:=zu hv4 (V2'.out.call hb4);clear hv4 hb4 g3 V2';have V2':=V2q;clear V2q;go_wp2_with fail;refine nj (b0k _ _ _ _ _ V2'.out V3.out) fun w5 hb5=>?_;have bb5:=qx bb4 hb5;rw[HT.out];go_wp2_with fail;go_ret2
  exact⟨rfl,a0a HX0.out bb5.out⟩
 .go_enter func272,ntmps272;go_wp2_with fail;rw[HW.out];refine nu (RV _) fun v1 w1 hv1 hb1=>?_;obtain⟨bb1,V1⟩:=zu hb1 hv1;have g1:=(HY0.out.call hb1).cell 1;simp at g1;clear hv1 hb1;go_wp2_with fail;have K1:Hid (∀ w',Below w1.heap.size w1 w'->w'.cell? ⟨w.heap.size,1,none⟩=some (.slice a1 k1 c1)):=fun w' hb=>by
   have:=(HY0.out.call (a0a bb1.out hb)).cell 1;simpa using this
  go_region_held3 (fun w'=>w'.cell? ⟨w.heap.size,1,none⟩=some (.slice a1 k1 c1))
   (first
    | exact K1.out _ br0.drew
    | exact K1.out _ cc3.out
    | exact K1.out _ cc2.out)
   (first
    | (go_at_call 221;refine nu (RT _) fun v2 w2 hv2 hb2=>?_;have cc2:=hid (a0a br0.drew hb2);have V2:=hid hv2)
    | (go_at_call 176;refine ng (b0n _ _ _ n T (XN.out.call (a0a bb1.out cc2.out)) V2.out L1.out L4.out) fun v3 w3 hv3 hb3=>?_;have cc3:=qx cc2 hb3;have V2':=hid hv3))
  have bb3:=qx bb1 cc3.out;have V1':=hid (V1.out.call cc3.out);have g3:=(HY0.out.call bb3.out).cell 2;simp at g3;clear hv2 hb2 hv3 hb3 V2 V1 cc2 cc3 K1 g1;go_wp2_with fail;refine ng (b0n _ _ _ K d V1'.out (XD.out.call bb3.out) L3.out L2.out) fun v4 w4 hv4 hb4=>?_;have bb4:=qx bb3 hb4;obtain⟨V3,V2q⟩:=zu hv4 (V2'.out.call hb4);clear hv4 hb4 g3 V2';have V2':=V2q;clear V2q;go_wp2_with fail;refine nj (b0k _ _ _ _ _ V2'.out V3.out) fun w5 hb5=>?_;have bb5:=qx bb4 hb5;rw[HT.out];have g5:=(HY0.out.call bb5.out).cell 2;simp at g5;obtain⟨V2'',V3''⟩:=zu (V2'.out.call hb5) (V3.out.call hb5);clear hb5;go_wp2_with fail;refine ng (d0E _ _ _ _ _ V3''.out (XD.out.call bb5.out) L5.out L2.out) fun v6 w6 hv6 hb6=>?_;have bb6:=qx bb5 hb6;obtain⟨V6,W2⟩:=zu hv6 (V2''.out.call hb6);clear hv6 hb6;go_wp2_with fail;refine nk (b0k _ _ _ _ _ V6.out W2.out) bb6 fun w7 bb7=>?_;rw[HU.out];go_wp2_with fail;go_ret2
  exact⟨rfl,a0a HX0.out bb7.out⟩
def p0d (w:World)(v:Value)(q:Rat)(s:ByteArray)(hs:s.size<=100000)(h:IsQ .i64 w v q)(l1:(limbs q.num.natAbs).length<=100000)(l2:(limbs q.den).length<=100000):
 qb 272 #[v,.string s] w (.tuple #[.int .i64 (sdV q.num.natAbs q.den (bv s.data.toList) (2 ^ s.size):Nat),.bool (sdB q.num.natAbs q.den (bv s.data.toList) (2 ^ s.size))]):=by
 obtain⟨N,D,rfl,hN,hD⟩:=h.ex;exact m0h w _ N D _ _ _ _ s hs hN hD l1 l2 (b1X _ _ _ _)
structure TsI (N D:Nat)(L:List UInt8)(i:Nat):Prop where
 le:i<=L.length+1
 eq:i<=L.length->b0u N D L (bv (L.take i)) (2 ^ i) i=b0u N D L 0 1 0
 last:i=L.length+1->b0u N D L 0 1 0=(false,0,L.length)
theorem TsI.start (N D:Nat)(L:List UInt8):TsI N D L 0:=⟨by omega,fun _=>by simp[bv],fun h=>by omega⟩
theorem TsI.next {N D:Nat}{L:List UInt8}{i:Nat}(h:TsI N D L i)(hi:i<=L.length)(hn:sdB N D (bv (L.take i)) (2 ^ i)=false):TsI N D L (i+1):=by
 refine⟨by omega,fun hlt=>?_,fun he=>?_⟩
 .have:=h.eq hi;rw[g0X hn (by omega)]at this;rw[<- this,m0X (l:=L) (i:=i) (b:=L[i]) (Q0 (by omega)),E9,Nat.mul_two]
 .have:=h.eq hi;obtain rfl:i=L.length:=by omega
  rw[g0Y hn]at this;exact this.symm
theorem TsI.done {N D:Nat}{L:List UInt8}{i:Nat}(h:TsI N D L i)(hi:i<=L.length)(hn:sdB N D (bv (L.take i)) (2 ^ i)=true):b0u N D L 0 1 0=(true,sdV N D (bv (L.take i)) (2 ^ i),i):=by
 rw[<- h.eq hi,g0Z hn]
theorem IsQ.keep2 {k:IntKind}{w w':World}{v:Value}{q:Rat}(h:IsQ k w v q)(hb:Below w.heap.size w w'):IsQ k w' v q:=h.call hb
def b1Z (x:Bool×Nat×Nat):Value:=.agg #[.bool x.1,.int .i64 (x.2.1:Nat),.int .i64 (x.2.2:Nat)]
def n0k (s:ByteArray){i:Nat}(h:i<=s.size):(s.extract 0 i).data.toList=s.data.toList.take i/\(s.extract 0 i).size=i:=by
 refine⟨by rw[a0J];simp,by simp;omega⟩
def x0Q (w:World)(v:Value)(q:Rat)(s:ByteArray)(hs:s.size<=100000)(h:IsQ .i64 w v q)(l1:(limbs q.num.natAbs).length<=100000)(l2:(limbs q.den).length<=100000):
 qb 208 #[v,.string s] w (b1Z (b0u q.num.natAbs q.den s.data.toList 0 1 0)):=by
 obtain⟨m,a,n,c,a',n',c',rfl⟩:=h.qv;have RE:=fun V i (hi:i<=s.size) (hV:IsQ .i64 V (.agg #[.bool m,.slice a n c,.slice a' n' c']) q)=>hid (p0d V (.agg #[.bool m,.slice a n c,.slice a' n' c']) q (s.extract 0 i) (by rw[(n0k s hi).2];omega) hV l1 l2)
 obtain⟨N,hN⟩:=gn (q.num.natAbs);obtain⟨D,hD⟩:=gn (q.den);obtain⟨L,hL⟩:=gn (s.data.toList);obtain⟨hlen,hx⟩:=zu (show L.length=s.size from by rw[<- hL];simp) (fun i (hi:i<=s.size)=>n0k s hi);rw[hL]at hx;simp only[hN,hD]at RE;rw[hN,hD,hL];have HQ:=hid h;clear h l1 l2 hN hD hL;obtain⟨x0,x1,b1⟩:=zg ((Blk.new w #[.bool m,.slice a n c,.slice a' n' c'] 81).alloc (.cells #[.bool false,.int .i64 0,.int .i64 0] 62)) (Blk.made (w.alloc (.cells #[.bool m,.slice a n c,.slice a' n' c'] 81)) #[.bool false,.int .i64 0,.int .i64 0] 62 (n:=w.heap.size+1) (by simp)) (((J4 w.heap.size w).alloc nr (.cells #[.bool m,.slice a n c,.slice a' n' c'] 81)).alloc (by simp) (.cells #[.bool false,.int .i64 0,.int .i64 0] 62));go_enter func208,ntmps208;go_wp2_with fail
 go_loopw [5] (fun ii wr=>∃ i:Nat,ii=.int .i64 i/\Hid (TsI N D L i)/\i<=s.size+1/\Hid (Blk wr w.heap.size #[.bool m,.slice a n c,.slice a' n' c'] 81)/\Hid (Blk wr (w.heap.size+1) #[.bool false,.int .i64 0,.int .i64 0] 62)/\Hid (Below w.heap.size w wr)) (fun ii wr=>s.size+1-(intOf ii).toNat)
 case atStart=>exact⟨0,rfl,TsI.start _ _ _,by omega,x0,x1,b1⟩
 case round=>
  obtain⟨i,rfl,hI,hi,k0,k1,hB⟩:=hrel;by_cases hle:i<=s.size
  .have RI:=fun V hV=>RE V i hle hV
   obtain⟨ex1,ex2⟩:=hx.out i hle;simp only[ex1,ex2]at RI;obtain⟨vv,hvv⟩:=gn (sdV N D (bv (L.take i)) (2 ^ i));obtain⟨bb,hbb⟩:=gn (sdB N D (bv (L.take i)) (2 ^ i));simp only[hvv,hbb]at RI;obtain⟨HVV,HBB⟩:=zu hvv hbb;have iq:Hid (IsQ .i64 wr (.agg #[.bool m,.slice a n c,.slice a' n' c']) q):=HQ.out.keep2 hB.out;obtain⟨d0,d1,d2⟩:=qz k0.out;clear ex1 ex2 hvv hbb;have KK:Hid (∀ w',Below wr.heap.size wr w'->w'.cell? ⟨w.heap.size,0,none⟩=some (.bool m)/\w'.cell? ⟨w.heap.size,1,none⟩=some (.slice a n c)/\w'.cell? ⟨w.heap.size,2,none⟩=some (.slice a' n' c')):=fun w' hb=>by
    have y:=k0.out.call hb;exact⟨y.cell 0,y.cell 1,y.cell 2⟩
   go_wp2_with fail
   go_region_held3 (fun w'=>w'.cell? ⟨w.heap.size,0,none⟩=some (.bool m)/\w'.cell? ⟨w.heap.size,1,none⟩=some (.slice a n c)/\w'.cell? ⟨w.heap.size,2,none⟩=some (.slice a' n' c'))
    (first
     | exact KK.out _ br0.drew
     | exact KK.out _ cc2.out)
    (first
     | (go_at_call 272;refine ny (RI _ (iq.out.call br0.drew)) fun w2 hb2=>?_;have cc2:=hid (a0a br0.drew hb2)))
   have B2:=qx hB cc2.out;obtain⟨k02,k12⟩:=zu (k0.out.call cc2.out) (k1.out.call cc2.out);clear hb2 cc2 KK d0 d1 d2 RI iq;cases bb
   .have NX:=hid (hI.out.next (by rw[hlen.out];exact hle) HBB.out);go_wp2_with fail;go_roundw
    case rel=>exact⟨i+1,by go_num,NX,by omega,k02,k12,B2⟩
    case measure=>simp[intOf]<;>omega
   .have DN:=hid (hI.out.done (by rw[hlen.out];exact hle) HBB.out);rw[HVV.out]at DN;obtain⟨r0,r1,r2⟩:=qz k12.out;obtain⟨f0,f1,f2⟩:=qq k12.out;go_wp2_with fail;have s3:=((k12.out.set 0 (.bool true)).set 1 (.int .i64 (vv:Nat))).set 2 (.int .i64 (i:Nat));obtain⟨z0,z1,z2⟩:=qz s3;refine C7 (v:=.agg #[.bool true,.int .i64 (vv:Nat),.int .i64 (i:Nat)]) (by simp[results,results208,go_sem,z0,z1,z2]) rfl ⟨by rw[DN.out];rfl,?_⟩;exact ((B2.out.setCell (Fm _) _).setCell (Fm _) _).setCell (Fm _) _
  .obtain rfl:i=s.size+1:=by omega
   have LS:=hid (hI.out.last (by rw[hlen.out]));obtain⟨r0,r1,r2⟩:=qz k1.out;obtain⟨f0,f1,f2⟩:=qq k1.out;go_wp2_with fail;have s3:=((k1.out.set 0 (.bool false)).set 1 (.int .i64 0)).set 2 (.int .i64 (s.size:Nat));obtain⟨z0,z1,z2⟩:=qz s3;refine C7 (v:=.agg #[.bool false,.int .i64 0,.int .i64 (s.size:Nat)]) (by simp[results,results208,go_sem,z0,z1,z2]) rfl ⟨by rw[LS.out,hlen.out];rfl,?_⟩;exact ((hB.out.setCell (Fm _) _).setCell (Fm _) _).setCell (Fm _) _
open Go.Shelf
def x0G {N D:Nat}{l:List UInt8}{p n:Nat}(hd:(a0B N D l p).1=false):s1 N D l p n=none:=by
 unfold s1;rw[b0w (O4 1) hd]
def x0F {N D:Nat}(h:N<D){l:List UInt8}{p n:Nat}(hp:p<=l.length)(hd:(a0B N D l p).1=true)(hv:(a0B N D l p).2.1=1):s1 N D l p n=s1 N D l (p+(a0B N D l p).2.2) (n+1):=by
 unfold s1;rw[e0o h (O4 1) hp hd hv]
def x0E {N D:Nat}{l:List UInt8}{p n:Nat}(hd:(a0B N D l p).1=true)(hv:¬ (a0B N D l p).2.1=1):s1 N D l p n=some (n,p+(a0B N D l p).2.2):=by
 unfold s1;rw[b0M hd hv];rfl
end
def c1x (o:Option (Nat×Nat)):Value:=match o with
 | none=>.tuple #[.int .i64 0,.int .i64 0,.bool false]
 | some (n,p)=>.tuple #[.int .i64 (n:Nat),.int .i64 (p:Nat),.bool true]
def p0S (N D:Nat)(l:List UInt8)(p:Nat):b0u N D (l.drop p) 0 1 0=a0B N D l p:=by
 unfold a0B b0u;simp
def t0k (N D:Nat)(l:List UInt8)(p:Nat):(a0B N D l p).2.1<=1:=by
 rw[g0P];exact n0i _ _ _ _ _
def h0o (w:World)(v:Value)(q:Rat)(s:ByteArray)(hs:s.size<=100000)(h:IsQ .i64 w v q)(l1:(limbs q.num.natAbs).length<=100000)(l2:(limbs q.den).length<=100000)(hlt:q.num.natAbs<q.den):
 qb 141 #[v,.string s] w (c1x (s1 q.num.natAbs q.den s.data.toList 0 0)):=by
 obtain⟨m,a,n,c,a',n',c',rfl⟩:=h.qv;have RT:=fun V p (hV:IsQ .i64 V (.agg #[.bool m,.slice a n c,.slice a' n' c']) q)=>hid (x0Q V (.agg #[.bool m,.slice a n c,.slice a' n' c']) q (s.extract p s.size) (by simp;omega) hV l1 l2)
 obtain⟨N,hN⟩:=gn (q.num.natAbs);obtain⟨D,hD⟩:=gn (q.den);have hx:∀ p,(s.extract p s.size).data.toList=s.data.toList.drop p:=fun p=>by
  rw[a0J];refine E7 ?_;rw[Af];simp
 obtain⟨L,hL⟩:=gn (s.data.toList);have hlen:=hid (show L.length=s.size from by rw[<- hL];simp);simp only[hN,hD,hx,hL,p0S]at RT;rw[hN,hD]at hlt;rw[hN,hD,hL];obtain⟨HQ,HS,HLT⟩:=zg h hs hlt;clear h l1 l2 hN hD hL hx hlt;obtain⟨x0,b1⟩:=zu (Blk.new w #[.bool m,.slice a n c,.slice a' n' c'] 81) ((J4 w.heap.size w).alloc nr (.cells #[.bool m,.slice a n c,.slice a' n' c'] 81));go_enter func141,ntmps141;go_wp2_with fail
 go_loopw [7,8] (fun nn pp wr=>∃ n0 p:Nat,nn=.int .i64 n0/\pp=.int .i64 p/\n0<=p/\p<=s.size/\Hid (s1 N D L p n0=s1 N D L 0 0)/\Hid (Blk wr w.heap.size #[.bool m,.slice a n c,.slice a' n' c'] 81)/\Hid (Below w.heap.size w wr)) (fun nn pp wr=>s.size-(intOf pp).toNat)
 case atStart=>exact⟨0,0,rfl,rfl,O4 _,K5 _,rfl,x0,b1⟩
 case round=>
  obtain⟨n0,p,rfl,rfl,hnp,hp,hS,k0,hB⟩:=hrel;have RI:=fun V hV=>RT V p hV
  obtain⟨x,hx⟩:=gn (a0B N D L p);have HX:=hid hx;have hle:=a0Z (N:=N) (D:=D) (l:=L) (p:=p) (by rw[hlen.out];exact hp);rw[hx,hlen.out]at hle;simp only[hx]at RI;obtain⟨d,vv,u⟩:=x;simp only[b1Z]at RI;have iq:Hid (IsQ .i64 wr (.agg #[.bool m,.slice a n c,.slice a' n' c']) q):=HQ.out.keep2 hB.out;have HLE:=hid hle;simp only at hle;obtain⟨d0,d1,d2⟩:=qz k0.out;clear hx;have h0:=qw p
  have h1:(p:Int)<=(s.size:Int):=by omega
  go_upto_region 3 with fail
  go_cut [9] (fun s9 wx=>∃ g:Nat,s9=.pointer (some ⟨g,0,none⟩)/\Blk wx g #[.bool d,.int .i64 (vv:Nat),.int .i64 (u:Nat)] 62/\Below wr.heap.size wr wx)
  case first=>
   have KK:Hid (∀ w',Below wr.heap.size wr w'->w'.cell? ⟨w.heap.size,0,none⟩=some (.bool m)/\w'.cell? ⟨w.heap.size,1,none⟩=some (.slice a n c)/\w'.cell? ⟨w.heap.size,2,none⟩=some (.slice a' n' c')):=fun w' hb=>by
    have y:=k0.out.call hb;exact⟨y.cell 0,y.cell 1,y.cell 2⟩
   refine a0j [0,1,2,3] 3 (fun w'=>w'.cell? ⟨w.heap.size,0,none⟩=some (.bool m)/\w'.cell? ⟨w.heap.size,1,none⟩=some (.slice a n c)/\w'.cell? ⟨w.heap.size,2,none⟩=some (.slice a' n' c')) (by kernel_rfl) (by kernel_rfl) (by kernel_rfl) (by kernel_rfl) (KK.out _ br0.drew) ?_
   iterate 4
    refine⟨_,rfl,?_⟩;apply Exists.intro
    refine⟨.inl ⟨by rfl,?_⟩,?_⟩
    .rintro W' ⟨q1,q2,q3⟩;go_simp;try with_reducible rfl
    go_frame
   refine c0M (i:=4) (j:=5) (by kernel_rfl) (by rfl) (by rfl) (by rfl) (by rfl) ?_ ?_
   .go_wp2_with fail;refine ny (RI _ (iq.out.call br0.drew)) fun w2 hb2=>?_;have y2:=hid (show Below wr.heap.size wr w2 from br0.drew.trans hb2);clear hb2;go_wp2_with fail;refine⟨KK.out _ y2.out,?_⟩;refine a0c (i:=5) (by kernel_rfl) rfl rfl ?_;go_wp2_with fail;refine⟨KK.out _ (y2.out.alloc y2.out.size _),?_⟩;refine a0c (i:=6) (by kernel_rfl) rfl rfl ?_;go_wp2_with fail;refine⟨KK.out _ (y2.out.alloc y2.out.size _),?_⟩;refine J8 (by kernel_rfl) ?_ _;simp only[b0b];go_wp2_with fail
    go_meet
    exact⟨w2.heap.size,rfl,Blk.new w2 _ _,y2.out.alloc y2.out.size _⟩
   .go_wp2_with fail;obtain⟨A0,b0⟩:=zu (show Below wr.heap.size wr (wr.alloc (.cells #[.bool false,.int .i64 0,.int .i64 0] 62)).drew from (br0.alloc nr _).drew) (show Blk (wr.alloc (.cells #[.bool false,.int .i64 0,.int .i64 0] 62)).drew wr.heap.size #[.bool false,.int .i64 0,.int .i64 0] 62 from Blk.new wr _ _);refine⟨KK.out _ A0.out,?_⟩;refine a0c (i:=4) (by kernel_rfl) rfl rfl ?_;go_wp2_with fail;refine ny (RI _ (iq.out.call A0.out)) fun w2 hb2=>?_;obtain⟨y2,BK⟩:=zu (A0.out.trans (hb2.mono A0.out.size)) (b0.out.call hb2);obtain⟨r0,r1,r2⟩:=qz BK.out;obtain⟨f0,f1,f2⟩:=qq BK.out;clear hb2 A0 b0;go_wp2_with fail;refine⟨KK.out _ y2.out,?_⟩;refine a0c (i:=6) (by kernel_rfl) rfl rfl ?_;go_wp2_with fail;refine⟨KK.out _ (((y2.out.setCell nr _).setCell nr _).setCell nr _),?_⟩;refine J8 (by kernel_rfl) ?_ _;simp only[b0b];have bk:=((BK.out.set 0 (.bool d)).set 1 (.int .i64 (vv:Nat))).set 2 (.int .i64 (u:Nat));simp at bk;have bkk:=hid bk;clear bk r0 r1 r2 f0 f1 f2;go_wp2_with fail
    go_meet
    exact⟨wr.heap.size,rfl,bkk.out,((y2.out.setCell nr _).setCell nr _).setCell nr _⟩
  case rest=>
   obtain⟨g,rfl,hg,hb⟩:=hcut;have B2:=qx hB hb;have k2:=hid (k0.out.call hb);obtain⟨r0,r1,r2⟩:=qz hg;clear hg hb d0 d1 d2 RI RT iq;cases d
   .have E:=hid (x0G (N:=N) (D:=D) (l:=L) (p:=p) (n:=n0) (by rw[HX.out]));go_wp2_with fail;refine C7 (v:=.tuple #[.int .i64 0,.int .i64 0,.bool false]) (by simp[results,results141,go_sem]) rfl ⟨by rw[<- hS.out,E.out];rfl,B2.out⟩
   .have hv:=t0k N D L p;rw[HX.out]at hv;simp only at hv;have w1:IntKind.i64.wrap ((p:Int)+(u:Nat))=((p+u:Nat):Int):=by
     have:=HS.out;rw[U0 _ ⟨by omega,by omega⟩];omega
    have w2:IntKind.i64.wrap ((n0:Int)+1)=((n0+1:Nat):Int):=by
     have:=HS.out;rw[U0 _ ⟨by omega,by omega⟩];omega
    by_cases h0:vv=0
    .subst h0;have E:=hid (x0E (N:=N) (D:=D) (l:=L) (p:=p) (n:=n0) (by rw[HX.out]) (by rw[HX.out];simp));rw[HX.out]at E;go_wp2_with fail;refine C7 (v:=.tuple #[.int .i64 (n0:Nat),.int .i64 ((p+u:Nat):Int),.bool true]) (by simp[results,results141,go_sem]) rfl ⟨by rw[<- hS.out,E.out];rfl,B2.out⟩
    .obtain rfl:vv=1:=by omega
     have hge:=b0i (N:=N) (D:=D) (l:=L) (p:=p) HLT.out (by rw[HX.out]) (by rw[HX.out]);rw[HX.out]at hge;simp only at hge;have E:=hid (x0F (n:=n0) HLT.out (by rw[hlen.out];exact hp) (by rw[HX.out]) (by rw[HX.out]));rw[HX.out]at E;have E2:Hid (s1 N D L (p+u) (n0+1)=s1 N D L 0 0):=by rw[<- hS.out];exact E.out.symm
     go_wp2_with fail;go_roundw
     case rel=>exact⟨n0+1,p+u,rfl,rfl,by omega,hle,E2,k2,B2⟩
     case measure=>simp[intOf]<;>omega
end Go.Proofs.YtfkpfpobmobnbaaGreatDoor
