/- Texts that the proof rests on, merged: Lr0, Fx0, Df0, KoA, Tz, Nz2, Nz3, Er1, Er2, Er3, Er3x, Er4, R2r, R2b, R2p. -/
import Derived.Test.YtfkpfpobmobnbaaGreatDoorPc9
import Derived.WalkLawsBesides
import Derived.Lib.SliceRun
import Derived.Deep.DeepCutAuto
import Derived.Deep.AppendLies
import Derived.Maps.AppendAt
import Derived.IntWalk
import Derived.Deep.RegionHeld3
set_option linter.defProp false
set_option linter.unusedVariables false
set_option linter.unusedSimpArgs false
set_option linter.unusedSectionVars false
set_option maxRecDepth 100000
set_option maxHeartbeats 8000000
namespace Go.Proofs.YtfkpfpobmobnbaaGreatDoor
section
open Go.RowKit
open Go.Lib (decDigits nDigits)
def p0O {D:Nat}(hD:0<D)(l:List UInt8):s1 0 D l 0 0=some (0,0):=by
 have ht:b0R 0 D 0 1 l=(true,0,0):=by
  rw[b0R.eq_def];simp[sdB,sdV]
 rw[g0E hD,ht]
 rfl
def g0u {D:Nat}(hD:0<D)(two:Bool)(l:List UInt8):h0K 0 D two l=some 0:=by
 unfold h0K;rw[p0O hD];simp only;rw[p0O hD];cases two<;>rfl
def r0F {D:Nat}(hD:0<D)(two:Bool)(n:Nat):gL 0 D two n=0:=by
 unfold gL;rw[a0D (Q:=fun _=>false) (fun l _=>by rw[g0u hD];rfl)];exact c0s n
def j0m {D:Nat}(hD:0<D)(two:Bool)(n:Nat)(v:Int):gV 0 D two n v=if v=0 then 2 ^ n else 0:=by
 unfold gV;by_cases h:v=0
 .rw[U0 h,a0D (Q:=fun _=>true) (fun l _=>by rw[g0u hD,h];rfl)];exact j0t n
 .rw[Q0 h,a0D (Q:=fun _=>false) (fun l _=>by rw[g0u hD];simp;exact fun e=>h e.symm)];exact c0s n
def i0D {a:ByteArray}(h:gPE a=0):qE a=0/\iM (cW a)=false:=by
 unfold gPE at h
 split at h
 .rename_i he;exact absurd h he
 .rename_i he
  split at h
  .cases h
  .rename_i hm
   refine⟨by simpa using he,?_⟩;cases hi:iM (cW a)
   .rfl
   .exact absurd (.inl hi) hm
def g0K {a:ByteArray}(h:gPE a=0)(h0:a≠⟨#[48]⟩):0<bN (cW a):=by
 obtain⟨h1,h2⟩:=i0D h;obtain⟨v1,v2,-,-,-,v6⟩:=s0N h1;rw[b0P h2]at v1 v6;rcases H7 (bN (cW a)) with e | e
 .refine absurd ?_ h0;rw[e,Nat.gcd_zero_left]at v1;rw[v6,e,v1,h2];apply a0M
  rw[b0Y,c0b]
  rfl
 .exact e
def h0R {a:ByteArray}(h:a=⟨#[48]⟩):bN (cW a)=0/\bN (qD a)=1:=by
 subst h;have e:(⟨#[48]⟩:ByteArray)=txB false 0 1:=by
  apply a0M
  rw[b0Y,c0b]
  rfl
 have h1:=y0G false 0 1;have h2:=y0H false 0 1;rw[<- e]at h1 h2
 constructor
 .unfold bN;rw[h1];show dv (decDigits 0)=0
  rw[f0C]
 .unfold qD;rw[h2]
  rfl
def k0d {a:ByteArray}(h:gPE a=0){j:Nat}(hj:j<=256):nDigits (bN (cW a)*2 ^ j)<=4000:=by
 have h1:=h;unfold gPE at h1
 split at h1
 .rename_i he;exact absurd h1 he
 .rename_i he
  split at h1
  .cases h1
  .rename_i hm
   split at h1
   .cases h1
   .rename_i hl
    have hp:=g0b (by simpa using he) (fun e=>hm (.inl e)) hl;have a1:nDigits (bN (cW a))<=eN:=a0j (by unfold eN;omega) hp.2.2.1;have a2:nDigits (2 ^ j)<=78:=a0j (by omega) (Cn (Z4 (by omega) hj) (by decide));exact E0 (z0Y a1 a2 (by omega)) (by unfold eN;omega)
def glI (c:Int->Nat)(t n i:Nat):List (ByteArray×ByteArray):=(List.range i).filterMap fun (j:Nat)=>if c ((j:Int)-n)=0 then none else some (zB ((j:Int)-n),shB (c ((j:Int)-n)) t)
def x0R (c:Int->Nat)(t n:Nat):glI c t n (2*n+1)=glM c t n:=rfl
def l0H {c:Int->Nat}{t n i:Nat}{p:ByteArray×ByteArray}(h:p∈glI c t n i):∃ j:Nat,j<i/\p.1=zB ((j:Int)-n):=by
 unfold glI at h;rw[List.mem_filterMap]at h;obtain⟨j,hj,h⟩:=h;rw[Dv]at hj
 split at h
 .cases h
 .simp only[At]at h;exact⟨j,hj,by rw[<- h]⟩
def j0h (c:Int->Nat)(t n i:Nat):glI c t n (i+1)=glI c t n i++if c ((i:Int)-n)=0 then [] else [(zB ((i:Int)-n),shB (c ((i:Int)-n)) t)]:=by
 unfold glI;rw[List.range_succ,Lb]
 congr 1
 by_cases h:c ((i:Int)-n)=0
 .simp[h]
 .simp[h]
theorem r0B (c:Int->Nat)(t n:Nat):∀ i,(glI c t n i).Pairwise (fun x y=>x.1≠y.1)
 | 0=>List.Pairwise.nil
 | i+1=>by
  rw[j0h,Lo];refine⟨r0B c t n i,by split<;>simp,fun x hx y hy e=>?_⟩;obtain⟨j,hj,e1⟩:=l0H hx
  split at hy
  .cases hy
  .simp only[Co]at hy;rw[hy,e1]at e;have:=g0s e;omega
def r0C (c:Int->Nat)(t n i:Nat):(glI c t n i).length<=i:=by
 unfold glI;refine E0 (Hd _ _) ?_;simp
def x0S {c:Int->Nat}{t n i:Nat}(ht:t≠0)(h1:nDigits (c ((i:Int)-n))<=4000)(h2:nDigits t<=4000):h0G (a0B (glI c t n i)) (zB ((i:Int)-n)) (shB (c ((i:Int)-n)) t)=a0B (glI c t n (i+1)):=by
 by_cases h0:c ((i:Int)-n)=0
 .rw[j0h,U0 h0,h0,f0U,h0G,U0 rfl,Bw]
 .rw[j0h,Q0 h0];refine h0q (p0H ht h1 h2 h0) ?_ (r0B c t n i);intro x hx e;obtain⟨j,hj,e1⟩:=l0H hx;rw[e1]at e;have:=g0s e;omega
def u0t {c:Int->Nat}{t n r:Nat}(ht:t≠0)(h1:nDigits r<=4000)(h2:nDigits t<=4000):h0G (a0B (glI c t n (2*n+1))) b0h (shB r t)=a0B (glP c t n r):=by
 unfold glP;rw[<- x0R];by_cases h0:r=0
 .rw[U0 h0,h0,f0U,h0G,U0 rfl,Bw]
 .rw[Q0 h0];refine h0q (p0H ht h1 h2 h0) ?_ (r0B c t n _);intro x hx e;obtain⟨j,hj,e1⟩:=l0H hx;rw[e1]at e;exact g0r _ (by rw[e])
def lfI (c:Int->Nat)(t n i:Nat):Nat:=t-a0n (fun j=>c ((j:Int)-n)) i
def u0h (c:Int->Nat)(t n:Nat):lfI c t n 0=t:=by simp[lfI,a0n]
def u0i (c:Int->Nat)(t n i:Nat):lfI c t n i-c ((i:Int)-n)=lfI c t n (i+1):=by unfold lfI;rw[a0n];omega
section
variable {N D : Nat} (h : N < D)
include h
theorem a1j {two:Bool}{n i:Nat}(hi:i<=2*n):gV N D two n ((i:Int)-n)<=lfI (gV N D two n) (2 ^ n) n i:=by
 have h1:=h0k h two n;have h2:=a0S (f:=fun j=>gV N D two n ((j:Int)-n)) (show i+1<=2*n+1 by omega);rw[a0n]at h2;unfold lfI;omega
theorem x0E (two:Bool)(n:Nat):lfI (gV N D two n) (2 ^ n) n (2*n+1)=gL N D two n:=by
 have h1:=h0k h two n;unfold lfI;omega
def o3 (N D n i j:Nat):Nat:=if n<=j/\j<n+i then gV N D false n ((j:Int)-n) else 0
omit h in
theorem x0q (N D n j:Nat):o3 N D n 0 j=0:=by unfold o3;rw[Q0 (by omega)]
theorem x0r (n i j:Nat):o3 N D n (i+1) j=if j=n+i then cvo (edn N D i) pw2 n else o3 N D n i j:=by
 by_cases e:j=n+i
 .rw[U0 e];unfold o3;rw[U0 (by omega),<- e0n h,e];rw[show (((n+i:Nat):Int)-n)=(i:Int) by omega,v0O,U0 (by omega),An]
 .rw[Q0 e];unfold o3;by_cases h1:n<=j/\j<n+i
  .rw[U0 h1,U0 (by omega)]
  .rw[Q0 h1,Q0 (by omega)]
theorem z0U {n j:Nat}(hj:j<=2*n):o3 N D n (n+1) j=gV N D false n ((j:Int)-n):=by
 unfold o3;by_cases h1:n<=j/\j<n+(n+1)
 .rw[U0 h1]
 .rw[Q0 h1];unfold gV;rw[a0D (Q:=fun _=>false) (fun l _=>?_),c0s];rw[F9];unfold h0K;cases s1 N D l 0 0 with
  | none=>simp
  | some xp=>simp;omega
theorem a1A (two:Bool){n:Nat}(hn:n<=256):nDigits (gL N D two n)<=4000:=p0r (E0 (a1z h two n) (Z4 (by omega) hn))
theorem a1y (two:Bool){n:Nat}(v:Int)(hn:n<=256):nDigits (gV N D two n v)<=4000:=p0r (E0 (l0J h two n v) (Z4 (by omega) hn))
end
def u0s {D:Nat}(hD:0<D)(two:Bool)(n:Nat):a0B (glP (gV 0 D two n) (2 ^ n) n (gL 0 D two n)) = [(⟨#[48]⟩,⟨#[49]⟩)]:=by
 have h1:shB (2 ^ n) (2 ^ n)=⟨#[49]⟩:=by
  have e1:shB (2 ^ n) (2 ^ n)=shB 1 1:=by
   have:=Iu (n:=1) (d:=1) (m0j n);rw[Ds,Int.one_mul]at this;unfold shB;rw[f0b,f0b,this]
   rfl
  rw[e1,h0P (by omega) (by rw[b0p];omega) (by rw[b0p];omega)];have e2:mkRat ((1:Nat):Int) 1=1:=by decide
  rw[e2];apply a0M
  rw[txQ,b0Y,show (1:Rat).num.natAbs=1 from rfl,show (1:Rat).den=1 from rfl,show decide ((1:Rat).num<0)=false from by decide,f0r]
  rfl
 have z0:zB 0=⟨#[48]⟩:=by rw[show (0:Int)=((0:Nat):Int) from rfl,p0h,a0q]
 have h2:a0B (glP (gV 0 D two n) (2 ^ n) n (gL 0 D two n))=a0B [(⟨#[48]⟩,⟨#[49]⟩)]:=by
  refine d0D (r0z _ _ _ _) (by simp) fun p=>?_
  rw[f0m,Co]
  constructor
  .rintro (⟨v,-,-,hv,rfl⟩ | ⟨hr,-⟩)
   .by_cases h0:v=0
    .rw[j0m hD,U0 h0,h0,z0,h1]
    .exact absurd (by rw[j0m hD,Q0 h0]) hv
   .exact absurd (r0F hD two n) hr
  .rintro rfl;refine .inl ⟨0,by omega,by omega,?_,?_⟩
   .rw[j0m hD,U0 rfl];exact m0j n
   .rw[j0m hD,U0 rfl,z0,h1]
 rw[h2];unfold a0B;simp
def t0G (n:Nat)(s:ByteArray):ByteArray:=z0S (fun q=>q⁻¹ ^ n) s
def t0F (n:Nat)(s:ByteArray):Int:=z0R (fun q=>q⁻¹ ^ n) s
def p0f (a:ByteArray):Int:=if gPE a≠0 then gPE a else if a=⟨#[48]⟩ then 6 else 0
def ffX (a:ByteArray)(reach:Int):Int:=if p0f a≠0 then p0f a else if reach<0\/10000<reach then 2 else 0
def ffM (reach:Int)(one:Bool):Nat:=if one=true then reach.toNat else 2*reach.toNat
def ffB (a:ByteArray)(reach:Int)(one:Bool):ByteArray:=if ffX a reach≠0 then ⟨#[]⟩ else t0G (ffM reach one) a
def ffE (a:ByteArray)(reach:Int)(one:Bool):Int:=if ffX a reach≠0 then ffX a reach else t0F (ffM reach one) a
def n0g (a:ByteArray)(n:Int)(two:Bool):(glB a n two).size<=10000:=by
 unfold glB
 split
 .exact e0E _
 .exact J5 _
def r0H (f:Rat->Rat->Rat)(s t:ByteArray):(f0y f s t).size<=10000:=by
 unfold f0y
 split
 .exact e0E _
 .exact J5 _
def h0g {a:ByteArray}(h:p0f a=0):gPE a=0/\a≠⟨#[48]⟩:=by
 unfold p0f at h
 split at h
 .rename_i h1;exact absurd h h1
 .rename_i h1
  refine⟨J8 h1,fun e=>?_⟩;rw[U0 e]at h;cases h
def r0l {a:ByteArray}(h:p0f a=0):qE a=0/\0<(vQ a).num:=by
 obtain⟨h1,h2⟩:=h0g h;obtain⟨hq,hm⟩:=i0D h1;obtain⟨e1,e2,e3⟩:=i0t hq;refine⟨hq,?_⟩;have hp:=g0K h1 h2;have e4:iD (cW a)=cW a:=b0P hm;rw[e4]at e2;have h3:¬ (vQ a).num<0:=by
  have:=e1;rw[hm]at this;simpa using this
 omega
def b1N {a:ByteArray}(h:p0f a=0):vQ a≠0:=fun e=>by
 have:=(r0l h).2;rw[e]at this;exact absurd this (by decide)
end
section
open Go.RowKit Go.Shelf
def k0n {W:World}{base:Nat}{e:TypeId}{k g n cap:Nat}{xs:List Value}(h:W.ownsRow base e k (.slice (some ⟨g,0,none⟩) n cap) n xs):base<=g/\g<W.heap.size/\(∀ i,W.frozen? ⟨g,i,none⟩=false)/\(∀ (i:Nat) (x:Value),xs[i]?=some x->W.cell? ⟨g,i,none⟩=some x)/\cap<=9223372036854775807/\n<=cap:=by
 have hh:=h;rcases h.2 with ⟨e1,_⟩ | ⟨g',cap',cur,e1,hb,hg,h1,h2,h3,h4⟩
 .simp at e1
 .simp at e1;obtain⟨rfl,rfl⟩:=e1;refine⟨hb,(S4.1 hg).1,fun i=>Blk.free hg i,fun i x hx=>?_,by unfold maxLen at h2;omega,h1⟩;have:=hh.cells rfl i x hx;rw[Addr.add_lit,U7]at this;exact this
end
section
open Go.RowKit
def h0w {P:Program}(w:World)(base:Nat)(t ty e:TypeId)(i:TypeInfo)(z:Value)(size bytes:Nat)(ht:P.underlying t=some (.slice e))(hi:P.info? e=some i)(hz:i.zero=some z)
 (hsize:i.size=size) (hby:i.bytes=bytes) (hzs:z.cells.size=size) (hsz:0<size)
 (v:Value) (n:Nat) (xs:List Value) (hown:w.ownsRow base e size v n xs) (hv:v ≠ .slice none 0 0)
 (ao:Option Addr) (m c:Nat) (news:List Value) (hl:news.length=m*size) (hnews:∀ j u,news[j]?=some u->∃ ad,ao=some ad/\w.cell? (ad.add j)=some u) (h1:∀ u∈news,u.oneCell'=true)
 (h63:n+m<=maxLen) (hbytes:(n+m)*bytes<=140737488355328) (hbase:base<=w.heap.size):
 ∃ v' w',(Builtin.append_ #[t,t] ty #[v,.slice ao m c]).run P w=.ok v' w'/\w'.ownsRow base e size v' (n+m) (xs++news)/\w.grownBy w' v.ownBlock/\v' ≠ .slice none 0 0:=by
 cases ao with
 | some ad=>
  obtain⟨v',w',hr,k1,k2,k3,-⟩:=run_append_own_at (P:=P) w base t ty e i z size bytes ht hi hz hsize hby hzs hsz v n xs hown ad m c news hl (fun j u hu=>by obtain⟨ad',e',hc⟩:=hnews j u hu;cases e';exact hc) h1 h63 hbytes hbase;exact⟨v',w',hr,k1,k2,fun e=>hv (k3.1 e).1⟩
 | none=>
  have hn:news = []:=by
   cases news with
   | nil=>rfl
   | cons u r=>obtain⟨ad,e,_⟩:=hnews 0 u rfl;cases e
  subst hn;have hm:m=0:=by
   rcases H7 m with h | h
   .exact h
   .have:=Eb h hsz;simp at hl;omega
  subst hm;refine⟨v,w,?_,by simpa using hown,⟨rfl,rfl,rfl,Z3 _,fun _ _ _=>rfl⟩,hv⟩;rcases hown.2 with ⟨e,_⟩ | ⟨g,cap,cur,rfl,hb,hg,h1',h2',h3',h4'⟩
  .exact absurd e hv
  .simp[Builtin.append_,run_underlying ht,sizeOf,typeInfo,hi,Builtin.lenOf,Builtin.firstCells,loadCells,loadCellsFrom,storeCells,h1']
def c0L {P:Program}{w:World}{ops:Array Oper}{rest:List Oper}{o:Oper}{a:Act}{Q:Exit->Act->World->Prop}(hgd:o.guard=none)(s x:Operand)(t:TypeId)
 (ho:o.op=.call { callee:=.builtin .append,args:=#[s,x],argTypes:=#[t,t] })
 (base:Nat) (e:TypeId) (i:TypeInfo) (z:Value) (size bytes:Nat) (ht:P.underlying t=some (.slice e)) (hi:P.info? e=some i) (hz:i.zero=some z)
 (hsize:i.size=size) (hby:i.bytes=bytes) (hzs:z.cells.size=size) (hsz:0<size)
 (v:Value) (n:Nat) (xs:List Value) (hs:a.eval s=v) (hown:w.ownsRow base e size v n xs) (hv:v ≠ .slice none 0 0)
 (ao:Option Addr) (m c:Nat) (news:List Value) (hx:a.eval x=.slice ao m c) (hl:news.length=m*size) (hnews:∀ j u,news[j]?=some u->∃ ad,ao=some ad/\w.cell? (ad.add j)=some u) (h1:∀ u∈news,u.oneCell'=true)
 (h63:n+m<=maxLen) (hbytes:(n+m)*bytes<=140737488355328) (hbase:base<=w.heap.size)
 (h:∀ v' w',w'.ownsRow base e size v' (n+m) (xs++news)->w.grownBy w' v.ownBlock->v' ≠ .slice none 0 0->wpList P ops Q rest (a.put o.dst v') w'):
 wpList P ops Q (o::rest) a w:=by
 refine wpList_plain hgd fun K hK=>?_
 obtain⟨v',w',hr,h2,h3,h4⟩:=h0w (P:=P) w base t o.type e i z size bytes ht hi hz hsize hby hzs hsz v n xs hown hv ao m c news hl hnews h1 h63 hbytes hbase;unfold Oper.wp execOp;simp only[ho,resolve,invoke,builtin,Sem.run_bind,Sem.run_pure,Result.andThen_ok,Nz,Jr,Oc,hs,hx,hr];exact hK _ _ (h v' w' h2 h3 h4)
def b0V {w W w3:World}{t:TypeId}{z:Nat}{v:Value}{m:Nat}{vs:List Value}(h:W.ownsRow w.heap.size t z v m vs)(h0:Below w.heap.size w W)(hg:W.grownBy w3 v.ownBlock):Below w.heap.size w w3:=by
 refine h0.trans ⟨hg.os,hg.tape,hg.output,hg.size,fun j hj=>hg.block j (H6 hj h0.size) fun e=>?_⟩;have:=(h.lt j e.symm).1;omega
open Go.Shelf
def t0W {W:World}{g:Nat}{x:Value}{t:TypeId}(h:Blk W g #[x] t):∀ j u,[x][j]?=some u->W.cell? ((⟨g,0,none⟩:Addr).add j)=some u:=fun j u hj=>by
 match j,hj with
 | 0,hj=>
  simp at hj;subst hj;rw[Addr.add_lit];exact h.cell 0
end
section
open Go.RowKit
open Go.Lib (decDigits nDigits)
def t0j (g:Int->Nat)(n:Nat):y0V g n (chA g n):=fun f hf=>p0G hf n
def naE (c:List Int)(a:ByteArray)(l:List ByteArray):Int:=if zE c≠0 then zE c else if gPE a≠0 then gPE a else wdE l (c.length:Nat)
def nlE (c:List Int)(a:ByteArray)(n:Int):Int:=if zE c≠0 then zE c else if glE a n 32≠0 then glE a n 32 else if 5000<(2*n.toNat+1) ^ c.length then 5 else 0
def nlG (a:ByteArray)(n:Int):Int->Nat:=gV (bN (cW a)) (bN (qD a)) true n.toNat
def nlR (c:List Int)(a:ByteArray)(n:Int):List (ByteArray×ByteArray):=if nlE c a n=0 then a0B (nyP (nlG a n) (chA (nlG a n) n.toNat) n.toNat c) else []
def ntX (a:ByteArray)(n many:Int):Int:=if glE a n 256≠0 then glE a n 256 else if many<0\/256<many then 2 else 0
def ntT (a:ByteArray)(n many:Int):ByteArray:=f0y (· * ·) (glB a n true) (a0g many.toNat)
def ntB (a:ByteArray)(n many:Int):ByteArray:=if ntX a n many≠0 then ⟨#[]⟩ else mnB (ntT a n many) ⟨#[49]⟩
def ntE (a:ByteArray)(n many:Int):Int:=if ntX a n many≠0 then ntX a n many else cmE (ntT a n many) ⟨#[49]⟩
def r0D {a:ByteArray}{n m:Int}(h:glE a n m=0):gPE a=0/\0<=n/\n<=m:=by
 unfold glE at h
 split at h
 .rename_i h1;exact absurd h h1
 .rename_i h1
  split at h
  .cases h
  .exact⟨J8 h1,by omega,by omega⟩
def h0W {c:List Int}{a:ByteArray}{n:Int}(h:nlE c a n=0):zE c=0/\gPE a=0/\0<=n/\n<=32/\(2*n.toNat+1) ^ c.length<=5000:=by
 unfold nlE at h
 split at h
 .rename_i h1;exact absurd h h1
 .rename_i h1
  split at h
  .rename_i h2;exact absurd h h2
  .rename_i h2
   obtain⟨g1,g2,g3⟩:=r0D (J8 h2)
   split at h
   .cases h
   .exact⟨J8 h1,g1,g2,g3,by omega⟩
def q0J {c:List Int}{a:ByteArray}{n:Int}(h:nlE c a n=0):nlR c a n=a0B (nyP (nlG a n) (chA (nlG a n) n.toNat) n.toNat c):=U0 h
def q0K {a:ByteArray}(h:gPE a=0)(n:Int):∀ v:Int,v < -(n.toNat:Int)\/(n.toNat:Int)<v->nlG a n v=0:=fun v hv=>d0n (b0S h).2 hv
def x0x {a:ByteArray}(h:gPE a=0)(n:Int):zS n.toNat (nlG a n)+gL (bN (cW a)) (bN (qD a)) true n.toNat=2 ^ n.toNat:=v0P (b0S h).2 true n.toNat
open Go.Shelf
def g0J (V:World):Calls Tryz.prog 151 #[.string ⟨#[48]⟩] V fun e w'=>RetFr V.heap.size .i64 0 e w'/\Below V.heap.size V w':=by
 have:=c0B V 0 (E0 (a0j (k:=1) (by omega) (by omega)) (by omega));rwa[a0q]at this
def i0C (V:World):Calls Tryz.prog 151 #[.string ⟨#[49]⟩] V fun e w'=>RetFr V.heap.size .i64 1 e w'/\Below V.heap.size V w':=by
 have:=c0B V 1 (E0 (a0j (k:=1) (by omega) (by omega)) (by omega));rwa[c0a]at this
def e0R (w:World)(n:Nat)(hn:n<=1000):
 Calls Tryz.prog 242 #[.int .i64 (n:Nat)] w fun e w'=>(∃ g c,e=.returned (.slice (some ⟨g,0,none⟩) (n+1) c)/\NTab w.heap.size w' g (n+1) c (fun _=>0))/\Below w.heap.size w w':=by
 obtain⟨i0,hi,hz0,hz1,hz2⟩:=Cl x0L;have HR:=fun V=>hid (g0J V)
 go_enter Tryz.func242,Tryz.ntmps242;go_wp2_with fail
 go_loopw [3,4] (fun o ii wr=>∃ i:Nat,ii=.int .i64 i/\i<=n+1/\Hid (NOwn w.heap.size wr o i (fun _=>0))/\Hid (Below w.heap.size w wr)) (fun o ii wr=>n+1-(intOf ii).toNat)
 case atStart=>exact⟨0,rfl,J5 _,NOwn.nil _ _ _,J3 _ _⟩
 case round=>
  obtain⟨i,rfl,hi',hO,hB⟩:=hrel;by_cases hlt:i<n+1
  .have d1:decide (i<=n)=true:=by simp;omega
   have wi:IntKind.i64.wrap ((i:Int)+1)=((i+1:Nat):Int):=by rw[O0 _ ⟨by omega,by omega⟩];omega
   have IL:=hid hlt;clear hlt hi';go_wp2_with fail;refine (HR _).out.mono ?_;rintro e wm ⟨⟨vm,rfl,hvm,hfm⟩,hbm⟩;obtain⟨am,cm,rfl,-,-,-⟩:=hvm.openI;rw[show (limbs 0).length=0 from by rw[limbs_zero];rfl]at hvm hfm |-;obtain⟨VM,BRM,FM⟩:=zc hvm hbm hfm;clear hvm hbm hfm;obtain⟨vs,HO0,HO1⟩:=id hO.out;obtain⟨HOO,HO9⟩:=zg HO0 HO1;obtain⟨ar,cr,rfl⟩:=b0k HO0;clear HO0 HO1;have hi9:=IL.out;go_wp2_with (at_builtin;refine Ft _ rfl _ _ 204 rfl w.heap.size 79 i0 (.slice none 0 0) 1 24 Tryz.underlying204 hi hz0 hz1 hz2 rfl (by decide) _ i vs rfl ((HOO.out.kept (b0W BRM.out none) (by cases ar<;>simp[Value.ownBlock])).alloc _) ⟨wm.heap.size,0,none⟩ 1 1 [.slice am 0 cm] rfl rfl (Eh wm (.slice am 0 cm) 79) (by simp[Value.oneCell']) (by unfold maxLen;omega) (by omega) (by have:=hB.out.size;have:=BRM.out.size;simp;omega) ?_;intro v' w5 hown hgrow _ hat;have HO5:=hid hown;have HG5:=hid hgrow;have HA5:=hid hat;clear hown hgrow hat)
   obtain⟨N5,B5⟩:=zg (NOwn.next (f:=fun _=>0) HOO.out HO9.out BRM.out VM.out nr FM.out HO5.out HG5.out HA5.out) (k0o HOO.out hB.out BRM.out HG5.out);clear HO5 HG5 HA5 hi9;go_wp2_with fail;go_roundw
   case rel=>exact⟨i+1,by go_num,by have:=IL.out;omega,N5,B5⟩
   case measure=>simp[intOf]<;>(have:=IL.out;omega)
  .obtain rfl:i=n+1:=by omega
   have d1:decide ((n:Int)+1<=(n:Int))=false:=by simp;omega
   obtain⟨g,c,rfl,ht⟩:=NTab.of hO.out;have HT:=hid ht;clear hlt hi' ht;go_wp2_with fail;go_ret
   exact⟨⟨g,c,rfl,HT.out⟩,hB.out⟩
def j0o (f:Nat->Nat)(i:Nat):f i<=cvo f pw2 i:=by
 cases i with
 | zero=>rw[s0b];exact Z3 _
 | succ i=>rw[l0U];omega
theorem NRow.openA {w:World}{v:Value}{m:Nat}{f:Nat->Nat}(h:NRow w v m f):∃ a c,v=.slice a m c/\m<=c/\c<=9223372036854775807:=by
 obtain⟨a,c,h1,h2,h3,-⟩:=h.open;exact⟨a,c,h1,h2,h3⟩
theorem NRow.el {w:World}{a:Option Addr}{m c:Nat}{f:Nat->Nat}(h:NRow w (.slice a m c) m f){i:Nat}(hi:i<m):∃ g o x,a=some ⟨g,o,none⟩/\g<w.heap.size/\w.cell? ⟨g,o+i,none⟩=some x/\IsN .i64 w x (f i):=by
 obtain⟨a',c',e,-,-,h3⟩:=h.open;simp only[Ic]at e;obtain⟨rfl,-,rfl⟩:=e;exact h3 i hi
def aF (c:Nat->Bool)(f:Nat->Nat)(i j k:Nat):Nat:=a0n (fun i'=>if i'<=k/\c (k-i')=true then f i' else 0) i+(if i<=k/\k<i+j/\c (k-i)=true then f i else 0)
def s0B {c:Nat->Bool}(f:Nat->Nat)(h0:c 0=false)(k:Nat):aF c f 0 1 k=0:=by
 unfold aF;rw[a0n,Q0];intro ⟨_,h2,h3⟩;obtain rfl:k=0:=by omega
 rw[h0]at h3;cases h3
def s0D {c:Nat->Bool}{f:Nat->Nat}{i j:Nat}(h:c j=false)(k:Nat):aF c f i (j+1) k=aF c f i j k:=by
 unfold aF
 congr 1
 by_cases hc:i<=k/\k<i+j/\c (k-i)=true
 .rw[U0 hc,U0 ⟨hc.1,by omega,hc.2.2⟩]
 .rw[Q0 hc,Q0];intro ⟨h1,h2,h3⟩;by_cases he:k=i+j
  .rw[he,show i+j-i=j by omega,h]at h3;cases h3
  .exact hc ⟨h1,by omega,h3⟩
def s0C {c:Nat->Bool}{f:Nat->Nat}{i j:Nat}(h:c j=true)(k:Nat):aF c f i (j+1) k=if k=i+j then aF c f i j k+f i else aF c f i j k:=by
 by_cases he:k=i+j
 .rw[U0 he];unfold aF;rw[U0 ⟨by omega,by omega,by rw[he,show i+j-i=j by omega];exact h⟩,Q0 (by omega)]
  rfl
 .rw[Q0 he];unfold aF
  congr 1
  by_cases hc:i<=k/\k<i+j/\c (k-i)=true
  .rw[U0 hc,U0 ⟨hc.1,by omega,hc.2.2⟩]
  .rw[Q0 hc,Q0];intro ⟨h1,h2,h3⟩;exact hc ⟨h1,by omega,h3⟩
def s0E {c:Nat->Bool}{f:Nat->Nat}{n i k:Nat}(h0:c 0=false)(hi:i<=n)(hk:k<=n):aF c f i (n+1-i) k=aF c f (i+1) 1 k:=by
 have e1:(if i+1<=k/\k<i+1+1/\c (k-(i+1))=true then f (i+1) else 0)=0:=Q0 fun ⟨h1,h2,h3⟩=>by
  obtain rfl:k=i+1:=by omega
  rw[Bh,h0]at h3;cases h3
 have e2:(if i<=k/\k<i+(n+1-i)/\c (k-i)=true then f i else 0)=(if i<=k/\c (k-i)=true then f i else 0):=by
  by_cases hc:i<=k/\c (k-i)=true
  .rw[U0 hc,U0 ⟨hc.1,by omega,hc.2⟩]
  .rw[Q0 hc,Q0 (fun ⟨h1,_,h3⟩=>hc ⟨h1,h3⟩)]
 unfold aF;rw[e1,e2,Ao]
 rfl
def w0d {c:Nat->Bool}{f:Nat->Nat}{n k:Nat}(hk:k<=n):aF c f (n+1) 1 k=cvo (chi c) f k:=by
 unfold aF;rw[Q0 (by omega),Ao];exact f0R (by omega)
def b1b {c:Nat->Bool}{f:Nat->Nat}{n i j k:Nat}(hi:i<=n)(hk:k<=n):aF c f i j k<=cvo (chi c) f k:=by
 rw[<- f0R (c:=c) (f:=f) (k:=k) (m:=n+1) (by omega)];refine E0 ?_ (a0S (show i+1<=n+1 by omega));unfold aF;rw[a0n];refine Is ?_ _;by_cases hc:i<=k/\k<i+j/\c (k-i)=true
 .rw[U0 hc,U0 ⟨hc.1,hc.2.2⟩];exact Z3 _
 .rw[Q0 hc];exact J5 _
def k0F (w:World)(v:Value)(n:Nat)(f:Nat->Nat)(hn:n<=1000)(hv:NRow w v (n+1) f)(hd:∀ i,i<=n->nDigits (cvo f pw2 i)<=4000):
 Calls Tryz.prog 219 #[v] w fun e w'=>(∃ g c,e=.returned (.slice (some ⟨g,0,none⟩) (n+1) c)/\NTab w.heap.size w' g (n+1) c (cvo f pw2))/\Below w.heap.size w w':=by
 obtain⟨a,cv,rfl,q1,q2⟩:=hv.openA;have HEL:Hid (∀ i,i<n+1->∃ g o x,a=some ⟨g,o,none⟩/\g<w.heap.size/\w.cell? ⟨g,o+i,none⟩=some x/\IsN .i64 w x (f i)):=fun i hi=>hv.el hi
 have HLF:Hid (∀ i,i<=n->(limbs (f i)).length<=1000000/\(limbs (cvo f pw2 i)).length<=1000000):=fun i hi=>⟨a0w (E0 (a0r (j0o f i)) (hd i hi)),a0w (hd i hi)⟩
 have HL2:Hid (∀ i,i+1<=n->(limbs (cvo f pw2 i+cvo f pw2 i)).length<=1000000):=fun i hi=>a0w (E0 (a0r (by rw[l0U];omega)) (hd (i+1) hi))
 have HZ:=fun V=>hid (e0R V n hn)
 have HN:=hid hn;have wn:IntKind.i64.wrap (((n+1:Nat):Int)-1)=(n:Int):=by rw[O0 _ ⟨by omega,by omega⟩];omega
 have wn':IntKind.i64.wrap ((n:Int)+1-1)=(n:Int):=by rw[O0 _ ⟨by omega,by omega⟩];omega
 clear hn hv hd;go_enter Tryz.func219,Tryz.ntmps219;go_wp2_with fail;refine (HZ _).out.mono ?_;rintro e w1 ⟨⟨g,c,rfl,ht⟩,hb1⟩;have T0:Hid (NTab w.heap.size w1 g (n+1) c (fun j=>if j<0 then cvo f pw2 j else 0)):=ht.fn fun i _=>by rw[Q0 (by omega)]
 have B1:=hid hb1;clear ht hb1;go_wp2_with fail
 go_loopw [4] (fun s4 wr=>∃ i:Nat,s4=.int .i64 (i:Nat)/\i<=n+1/\Hid (NTab w.heap.size wr g (n+1) c (fun j=>if j<i then cvo f pw2 j else 0))/\Hid (Below w.heap.size w wr)) (fun s4 wr=>n+1-(intOf s4).toNat)
 case atStart=>exact⟨0,rfl,J5 _,T0,B1⟩
 case round=>
  clear T0 B1;obtain⟨i,rfl,hi,hT,hB⟩:=hrel;by_cases hlt:i<n+1
  .have q0:decide ((i:Int)<((n+1:Nat):Int))=true:=by simp;omega
   have d0:decide ((i:Int)<(n:Int)+1)=true:=by simp;omega
   have f0:(0:Int)<=(i:Int):=by omega
   have f1:(i:Int)<((n+1:Nat):Int):=by omega
   have f1':(i:Int)<(n:Int)+1:=by omega
   have IL:=hid hlt;obtain⟨gl,ol,y,rfl,hgl,hy1,hy2⟩:=HEL.out i hlt;have cy:=(hB.out.cell (a0e hy1)).trans hy1;obtain⟨YN,YW,CY⟩:=zc (hy2.call hB.out) hy2 hy1;have wi:IntKind.i64.wrap ((i:Int)+1)=((i+1:Nat):Int):=by have:=HN.out;rw[O0 _ ⟨by omega,by omega⟩];omega
   rcases H7 i with h0 | h0
   .have d2:decide ((0:Int)<(i:Int))=false:=by simp;omega
    have d2':decide (0<i)=false:=by simp;omega
    obtain⟨x,cx,hx,-⟩:=hT.out.at hlt;rw[Q0 (by omega)]at hx;obtain⟨XN,I0⟩:=zg hx h0;clear hi hlt hx hy1 hy2 hgl h0;go_wp2_with fail;refine b0b 11 2 [0,1,2,3,4,5,6,7,8,9] 1 (fun W'=>W'.cell? ⟨g,i,none⟩=some x/\W'.cell? ⟨gl,ol+i,none⟩=some y) (by kernel_rfl) rfl (by kernel_rfl) (by kernel_rfl) (by kernel_rfl) (by kernel_rfl) ⟨cx,cy⟩ ?_
    iterate 10
     refine⟨_,rfl,?_⟩;apply Exists.intro
     refine⟨.inl ⟨by rfl,?_⟩,?_⟩
     .rintro W' ⟨r1,r2⟩;go_simp;try with_reducible rfl
     go_frame
    refine a0c (i:=10) (by kernel_rfl) rfl rfl ?_;go_wp2_with fail;refine (c0C _ _ _ _ _ (XN.out.call br0.drew) (YN.out.call br0.drew) (by rw[limbs_zero];simp) (HLF.out i (by have:=IL.out;omega)).1).mono ?_;rintro e w5 ⟨⟨zz,rfl,hz,hf⟩,hbc⟩;obtain⟨az1,cz1,rfl,-,-,-⟩:=hz.openI;obtain⟨lz1,hlz⟩:=gn ((limbs (0+f i)).length);rw[hlz]at hz hf |-;clear hlz;have C1:=hid (show Below wr.heap.size wr w5 from br0.drew.trans hbc);obtain⟨T1,Z1⟩:=zg (hT.out.call C1.out) hz;have FZ1:Hid (∀ g',(Value.slice az1 lz1 cz1).ownBlock=some g'->w.heap.size<=g'/\g'≠g):=fun g' hg=>by
     have h1:wr.heap.size<=g':=hf g' hg;have h2:=hT.out.slot;have h3:=hB.out.size;exact⟨by omega,by omega⟩
    have m1:=(C1.out.cell (a0e cx)).trans cx;have m2:=(C1.out.cell (a0e cy)).trans cy;have B5:=hid (hB.out.trans (C1.out.mono hB.out.size));clear hz hf hbc cx cy;go_wp2_with fail;refine⟨⟨m1,m2⟩,?_⟩;refine Z7 (by kernel_rfl) ?_ _;simp only[a0Z,b0K,Ab,A9];have m3:=T1.out.slot.2.2.2.2 i;have T2:Hid (NTab w.heap.size (w5.setCell ⟨g,i,none⟩ (.slice az1 lz1 cz1)) g (n+1) c (fun j=>if j<i+1 then cvo f pw2 j else 0)):=(T1.out.put i Z1.out (.inr FZ1.out)).fn fun j hj=>by
     have:=I0.out;by_cases e:j=i
     .rw[U0 e,U0 (by omega),e,this,s0b,U7]
     .rw[Q0 e,Q0 (by omega),Q0 (by omega)]
    have B6:=hid (B5.out.setCell (p:=⟨g,i,none⟩) (by have:=hT.out.slot.1;exact this) (.slice az1 lz1 cz1));go_wp2_with fail
    try simp only[a0Z]
    go_roundw
    case rel=>exact⟨i+1,by go_num,by have:=IL.out;omega,T2,B6⟩
    case measure=>simp[intOf]<;>(have:=IL.out;omega)
   .obtain⟨i',rfl⟩:∃ i',i=i'+1:=⟨i-1,by omega⟩;have d2:decide ((0:Int)<((i'+1:Nat):Int))=true:=by simp<;>omega
    have d2':decide (0<i'+1)=true:=by simp
    have d2'':decide ((0:Int)<(i':Int)+1)=true:=by simp<;>omega
    have w5a:IntKind.i64.wrap (i':Int)=(i':Int):=by have:=HN.out;rw[O0 _ ⟨by omega,by omega⟩]
    have w5':IntKind.i64.wrap (((i'+1:Nat):Int)-1)=(i':Int):=by have:=HN.out;rw[O0 _ ⟨by omega,by omega⟩]<;>omega
    have w5'':IntKind.i64.wrap ((i':Int)+1-1)=(i':Int):=by have:=HN.out;rw[O0 _ ⟨by omega,by omega⟩]<;>omega
    have f2:(0:Int)<=(i':Int):=by omega
    have f3':(i':Int)<(n:Int)+1:=by omega
    have f8:(0:Int)<=(i':Int)+1:=by omega
    have f9':(i':Int)+1<(n:Int)+1:=by omega
    have f10:((i':Int)+1).toNat=i'+1:=by omega
    obtain⟨x1,cx1,hx1,-⟩:=hT.out.at (i:=i') (by omega);rw[U0 (by omega)]at hx1;have XN1:=hid hx1;obtain⟨x0,cx0,-,-⟩:=hT.out.at hlt;clear hi hlt hx1 hy1 hy2 hgl h0;go_wp2_with fail;refine b0b 13 2 [0,1,2,3,4,5,6,7,8,9,10,11] 1 (fun W'=>W'.cell? ⟨g,i',none⟩=some x1/\W'.cell? ⟨g,i'+1,none⟩=some x0) (by kernel_rfl) rfl (by kernel_rfl) (by kernel_rfl) (by kernel_rfl) (by kernel_rfl) ⟨cx1,cx0⟩ ?_
    iterate 12
     refine⟨_,rfl,?_⟩;apply Exists.intro
     refine⟨.inl ⟨by rfl,?_⟩,?_⟩
     .rintro W' ⟨r1,r2⟩;go_simp;try with_reducible rfl
     go_frame
    refine a0c (i:=12) (by kernel_rfl) rfl rfl ?_;go_wp2_with fail;refine (c0C _ _ _ _ _ (XN1.out.call br0.drew) (XN1.out.call br0.drew) (HLF.out i' (by have:=IL.out;omega)).2 (HLF.out i' (by have:=IL.out;omega)).2).mono ?_;rintro e w5 ⟨⟨zz,rfl,hz,hf⟩,hbc⟩;obtain⟨az1,cz1,rfl,-,-,-⟩:=hz.openI;obtain⟨lz1,hlz⟩:=gn ((limbs (cvo f pw2 i'+cvo f pw2 i')).length);rw[hlz]at hz hf |-;clear hlz;have C1:=hid (show Below wr.heap.size wr w5 from br0.drew.trans hbc);obtain⟨T1,Z1⟩:=zg (hT.out.call C1.out) hz;have FZ1:Hid (∀ g',(Value.slice az1 lz1 cz1).ownBlock=some g'->w.heap.size<=g'/\g'≠g):=fun g' hg=>by
     have h1:wr.heap.size<=g':=hf g' hg;have h2:=hT.out.slot;have h3:=hB.out.size;exact⟨by omega,by omega⟩
    have m1:=(C1.out.cell (a0e cx1)).trans cx1;have m2:=(C1.out.cell (a0e cx0)).trans cx0;have B5:=hid (hB.out.trans (C1.out.mono hB.out.size));have cy5:=(C1.out.cell (a0e cy)).trans cy;clear hz hf hbc;go_wp2_with fail;refine⟨⟨m1,m2⟩,?_⟩;refine Z7 (by kernel_rfl) ?_ _;simp only[a0Z,b0K,Ab,A9];have m3:=T1.out.slot.2.2.2.2 (i'+1);obtain⟨T2,B6⟩:=zg (T1.out.put (i'+1) Z1.out (.inr FZ1.out)) (B5.out.setCell (p:=⟨g,i'+1,none⟩) (by have:=hT.out.slot.1;exact this) (.slice az1 lz1 cz1));have NEL:Hid (gl≠g):=by
     have h1:=a0e CY.out;have h2:=hT.out.slot.1;show gl≠g
     intro e;rw[e]at h1;simp at h1;omega
    have cy6:(w5.setCell ⟨g,i'+1,none⟩ (.slice az1 lz1 cz1)).cell? ⟨gl,ol+(i'+1),none⟩=some y:=by
     rw[<- cy5];unfold World.setCell World.cell?;simp[Cp,Od NEL.out]
    have YN6:Hid (IsN .i64 (w5.setCell ⟨g,i'+1,none⟩ (.slice az1 lz1 cz1)) y (f (i'+1))):=YW.out.call B6.out;obtain⟨w6,hw6⟩:=gn (w5.setCell ⟨g,i'+1,none⟩ (.slice az1 lz1 cz1));clear m1 cy5 cx1 cx0 cy;go_wp2_with fail
    try simp only[a0Z]
    rw[hw6]at T2 B6 cy6 YN6
    try rw[hw6]
    clear hw6 m2 m3;obtain⟨x,cx,hx,-⟩:=T2.out.at (i:=i'+1) IL.out;simp only[Fp]at hx;have XN:=hid hx;clear hx;refine b0b 11 2 [0,1,2,3,4,5,6,7,8,9] 1 (fun W'=>W'.cell? ⟨g,i'+1,none⟩=some x/\W'.cell? ⟨gl,ol+(i'+1),none⟩=some y) (by kernel_rfl) rfl (by kernel_rfl) (by kernel_rfl) (by kernel_rfl) (by kernel_rfl) ⟨cx,cy6⟩ ?_
    iterate 10
     refine⟨_,rfl,?_⟩;apply Exists.intro
     refine⟨.inl ⟨by rfl,?_⟩,?_⟩
     .rintro W' ⟨r1,r2⟩;go_simp;try with_reducible rfl
     go_frame
    refine a0c (i:=10) (by kernel_rfl) rfl rfl ?_;go_wp2_with fail;refine (c0C _ _ _ _ _ (XN.out.call br0.drew) (YN6.out.call br0.drew) (HL2.out i' (by have:=IL.out;omega)) (HLF.out (i'+1) (by have:=IL.out;omega)).1).mono ?_;rintro e w7 ⟨⟨zz,rfl,hz,hf⟩,hbc⟩;obtain⟨az2,cz2,rfl,-,-,-⟩:=hz.openI;obtain⟨lz2,hlz⟩:=gn ((limbs (cvo f pw2 i'+cvo f pw2 i'+f (i'+1))).length);rw[hlz]at hz hf |-;clear hlz;have C2:=hid (show Below w6.heap.size w6 w7 from br0.drew.trans hbc);obtain⟨T3,Z2⟩:=zg (T2.out.call C2.out) hz;have FZ2:Hid (∀ g',(Value.slice az2 lz2 cz2).ownBlock=some g'->w.heap.size<=g'/\g'≠g):=fun g' hg=>by
     have h1:w6.heap.size<=g':=hf g' hg;have h2:=T2.out.slot;have h3:=B6.out.size;exact⟨by omega,by omega⟩
    have m1:=(C2.out.cell (a0e cx)).trans cx;have m2:=(C2.out.cell (a0e cy6)).trans cy6;have B7:=hid (B6.out.trans (C2.out.mono B6.out.size));clear hz hf hbc cx cy6;go_wp2_with fail;refine⟨⟨m1,m2⟩,?_⟩;refine Z7 (by kernel_rfl) ?_ _;simp only[a0Z,b0K,Ab,A9];have m3:=T3.out.slot.2.2.2.2 (i'+1);have T4:Hid (NTab w.heap.size (w7.setCell ⟨g,i'+1,none⟩ (.slice az2 lz2 cz2)) g (n+1) c (fun j=>if j<i'+1+1 then cvo f pw2 j else 0)):=(T3.out.put (i'+1) Z2.out (.inr FZ2.out)).fn fun j hj=>by
     by_cases e:j=i'+1
     .rw[U0 e,U0 (by omega),e,l0U]
     .rw[Q0 e,Q0 e];by_cases e2:j<i'+1
      .rw[U0 e2,U0 (by omega)]
      .rw[Q0 e2,Q0 (by omega)]
    have B8:=hid (B7.out.setCell (p:=⟨g,i'+1,none⟩) (by have:=hT.out.slot.1;exact this) (.slice az2 lz2 cz2));go_wp2_with fail
    try simp only[a0Z]
    go_roundw
    case rel=>exact⟨i'+1+1,by go_num,by have:=IL.out;omega,T4,B8⟩
    case measure=>simp[intOf]<;>(have:=IL.out;omega)
  .have q0:decide ((i:Int)<((n+1:Nat):Int))=false:=by simp;omega
   have d0:decide ((i:Int)<(n:Int)+1)=false:=by simp;omega
   have e1:i=n+1:=by omega
   subst e1;have TE:Hid (NTab w.heap.size wr g (n+1) c (cvo f pw2)):=hT.out.fn fun i hi=>by rw[U0 hi]
   clear hi hlt;go_wp2_with fail;go_ret
   exact⟨⟨g,c,rfl,TE.out⟩,hB.out⟩
def Nm:=@List.length_range
def j0p (w:World)(v u:Value)(n:Nat)(f:Nat->Nat)(b:Nat->Bool)(hn:n<=1000)(hv:NRow w v (n+1) f)(hu:Row w u ((List.range (n+1)).map fun j=>.bool (b j)))(h0:b 0=false)(hd:∀ i,i<=n->nDigits (cvo (chi b) f i)<=4000/\nDigits (f i)<=4000):
 Calls Tryz.prog 284 #[v,u] w fun e w'=>(∃ g c,e=.returned (.slice (some ⟨g,0,none⟩) (n+1) c)/\NTab w.heap.size w' g (n+1) c (cvo (chi b) f))/\Below w.heap.size w w':=by
 obtain⟨a,cv,rfl,q1,q2⟩:=hv.openA;have HEL:Hid (∀ i,i<n+1->∃ g o x,a=some ⟨g,o,none⟩/\g<w.heap.size/\w.cell? ⟨g,o+i,none⟩=some x/\IsN .i64 w x (f i)):=fun i hi=>hv.el hi
 obtain⟨ab,cb,rfl,p1,p2,p3⟩:=hu.ex;have HBL:Hid (∀ i,i<n+1->∃ g o,ab=some ⟨g,o,none⟩/\w.cell? ⟨g,o+i,none⟩=some (.bool (b i))):=fun i hi=>by
  obtain⟨g,o,h1,h2,h3⟩:=p3 i (.bool (b i)) (by rw[Ck,Hg hi];rfl);exact⟨g,o,h1,h3⟩
 rw[Aa,Nm]at p1 |-;have HLF:Hid (∀ i,i<=n->(limbs (f i)).length<=1000000):=fun i hi=>a0w (hd i hi).2
 have HLA:Hid (∀ i j k,i<=n->k<=n->(limbs (aF b f i j k)).length<=1000000):=fun i j k hi hk=>a0w (E0 (a0r (b1b hi hk)) (hd k hk).1)
 have HZ:=fun V=>hid (e0R V n hn)
 obtain⟨HN,H0⟩:=zg hn h0;have wn:IntKind.i64.wrap (((n+1:Nat):Int)-1)=(n:Int):=by rw[O0 _ ⟨by omega,by omega⟩];omega
 have wn':IntKind.i64.wrap ((n:Int)+1-1)=(n:Int):=by rw[O0 _ ⟨by omega,by omega⟩];omega
 clear hn hv hd hu p3 h0;go_enter Tryz.func284,Tryz.ntmps284;go_wp2_with fail;refine (HZ _).out.mono ?_;rintro e w1 ⟨⟨g,c,rfl,ht⟩,hb1⟩;have T0:Hid (NTab w.heap.size w1 g (n+1) c (aF b f 0 1)):=ht.fn fun i _=>(s0B f H0.out i).symm
 have B1:=hid hb1;clear ht hb1;go_wp2_with fail
 go_loopw [6] (fun s6 wr=>∃ i:Nat,s6=.int .i64 (i:Nat)/\i<=n+1/\Hid (NTab w.heap.size wr g (n+1) c (aF b f i 1))/\Hid (Below w.heap.size w wr)) (fun s6 wr=>n+1-(intOf s6).toNat)
 case atStart=>exact⟨0,rfl,J5 _,T0,B1⟩
 case round=>
  clear T0 B1;obtain⟨i,rfl,hi,hT,hB⟩:=hrel;by_cases hlt:i<n+1
  .have q0:decide ((i:Int)<((n+1:Nat):Int))=true:=by simp;omega
   have d0:decide ((i:Int)<(n:Int)+1)=true:=by simp;omega
   have f0:(0:Int)<=(i:Int):=by omega
   have f1:(i:Int)<((n+1:Nat):Int):=by omega
   have f1':(i:Int)<(n:Int)+1:=by omega
   have f9:(i:Int)<=1000:=by have:=HN.out;omega
   have IL:=hid hlt;obtain⟨gl,ol,y,rfl,hgl,hy1,hy2⟩:=HEL.out i hlt;obtain⟨YW,CY⟩:=zg hy2 hy1;clear hi hlt hy1 hy2 hgl;go_wp2_with fail
   go_loopw [7] (fun s7 wq=>∃ j:Nat,s7=.int .i64 (j:Nat)/\1<=j/\(i+j<=n+1\/j=1)/\Hid (NTab w.heap.size wq g (n+1) c (aF b f i j))/\Hid (Below w.heap.size w wq)) (fun s7 wq=>n+2-(intOf s7).toNat)
   case atStart=>exact⟨1,rfl,Z3 _,.inr rfl,hT,hB⟩
   case round=>
    clear hT hB;obtain⟨j,rfl,hj1,hj,hT,hB⟩:=hrel;have wij:IntKind.i64.wrap ((i:Int)+(j:Int))=(i:Int)+(j:Int):=by have:=HN.out;rw[O0 _ ⟨by omega,by omega⟩]
    by_cases hlt:i+j<n+1
    .have q1:decide ((i:Int)+(j:Int)<((n+1:Nat):Int))=true:=by simp;omega
     have d1:decide ((i:Int)+(j:Int)<(n:Int)+1)=true:=by simp;omega
     have f2:(0:Int)<=(j:Int):=by omega
     have f3:(j:Int)<((n+1:Nat):Int):=by omega
     have f3':(j:Int)<(n:Int)+1:=by omega
     have f4:(0:Int)<=(i:Int)+(j:Int):=by omega
     have f5:(i:Int)+(j:Int)<((n+1:Nat):Int):=by omega
     have f5':(i:Int)+(j:Int)<(n:Int)+1:=by omega
     have f6:(j:Int)<=1000:=by have:=HN.out;omega
     have et:((i:Int)+(j:Int)).toNat=i+j:=by omega
     have JL:=hid hlt;obtain⟨gb,ob,rfl,hb1⟩:=HBL.out j (by omega);have cb1:=(hB.out.cell (a0e hb1)).trans hb1;obtain⟨bj,hbj⟩:=gn (b j);rw[hbj]at cb1;obtain⟨HBJ,J1⟩:=zg hbj hj1;clear hj hlt hb1 hbj;cases bj
     .have T2:Hid (NTab w.heap.size wr g (n+1) c (aF b f i (j+1))):=hT.out.fn fun k _=>(s0D HBJ.out k).symm
      clear hj1;go_wp2_with fail;go_roundw
      case rel=>exact⟨j+1,by go_num,by omega,.inl (by have:=JL.out;omega),T2,hB⟩
      case measure=>simp[intOf]<;>(have:=JL.out;omega)
     .obtain⟨x,cx,hx,-⟩:=hT.out.at (i:=i+j) JL.out;have XN:=hid hx;have cy:=(hB.out.cell (a0e CY.out)).trans CY.out;have YN:=hid (YW.out.call hB.out);clear hx hj1;go_wp2_with fail;refine b0b 15 2 [0,1,2,3,4,5,6,7,8,9,10,11,12,13] 1 (fun W'=>W'.cell? ⟨g,i+j,none⟩=some x/\W'.cell? ⟨gl,ol+i,none⟩=some y) (by kernel_rfl) rfl (by kernel_rfl) (by kernel_rfl) (by kernel_rfl) (by kernel_rfl) ⟨cx,cy⟩ ?_
      iterate 14
       refine⟨_,rfl,?_⟩;apply Exists.intro
       refine⟨.inl ⟨by rfl,?_⟩,?_⟩
       .rintro W' ⟨r1,r2⟩;go_simp;try with_reducible rfl
       go_frame
      refine a0c (i:=14) (by kernel_rfl) rfl rfl ?_;go_wp2_with fail;refine (c0C _ _ _ _ _ (XN.out.call br0.drew) (YN.out.call br0.drew) (HLA.out i j (i+j) (by have:=IL.out;omega) (by have:=JL.out;omega)) (HLF.out i (by have:=IL.out;omega))).mono ?_;rintro e w5 ⟨⟨zz,rfl,hz,hf⟩,hbc⟩;obtain⟨az1,cz1,rfl,-,-,-⟩:=hz.openI;obtain⟨lz1,hlz⟩:=gn ((limbs (aF b f i j (i+j)+f i)).length);rw[hlz]at hz hf |-;clear hlz;have C1:=hid (show Below wr.heap.size wr w5 from br0.drew.trans hbc);obtain⟨T1,Z1⟩:=zg (hT.out.call C1.out) hz;have FZ1:Hid (∀ g',(Value.slice az1 lz1 cz1).ownBlock=some g'->w.heap.size<=g'/\g'≠g):=fun g' hg=>by
       have h1:wr.heap.size<=g':=hf g' hg;have h2:=hT.out.slot;have h3:=hB.out.size;exact⟨by omega,by omega⟩
      have m1:=(C1.out.cell (a0e cx)).trans cx;have m2:=(C1.out.cell (a0e cy)).trans cy;have B5:=hid (hB.out.trans (C1.out.mono hB.out.size));clear hz hf hbc cx cy cb1;go_wp2_with fail;refine⟨⟨m1,m2⟩,?_⟩;refine Z7 (by kernel_rfl) ?_ _;simp only[a0Z,b0K,Ab,A9];have m3:=T1.out.slot.2.2.2.2 (i+j);have T2:Hid (NTab w.heap.size (w5.setCell ⟨g,i+j,none⟩ (.slice az1 lz1 cz1)) g (n+1) c (aF b f i (j+1))):=(T1.out.put (i+j) Z1.out (.inr FZ1.out)).fn fun k hk=>by
       rw[s0C HBJ.out];by_cases e:k=i+j
       .rw[U0 e,U0 e,e]
       .rw[Q0 e,Q0 e]
      have B6:=hid (B5.out.setCell (p:=⟨g,i+j,none⟩) (by have:=hT.out.slot.1;exact this) (.slice az1 lz1 cz1));go_wp2_with fail
      try simp only[a0Z]
      go_roundw
      case rel=>exact⟨j+1,by go_num,by have:=J1.out;omega,.inl (by have:=JL.out;omega),T2,B6⟩
      case measure=>simp[intOf]<;>(have:=JL.out;omega)
    .have q1:decide ((i:Int)+(j:Int)<((n+1:Nat):Int))=false:=by simp;omega
     have d1:decide ((i:Int)+(j:Int)<(n:Int)+1)=false:=by simp;omega
     have f6:(j:Int)<=1002:=by have:=HN.out;omega
     have e1:j=n+1-i\/(i=n/\j=1):=by have:=IL.out;omega
     have e2:j=n+1-i:=by have:=IL.out;omega
     subst e2;have T2:Hid (NTab w.heap.size wr g (n+1) c (aF b f (i+1) 1)):=hT.out.fn fun k hk=>s0E H0.out (by have:=IL.out;omega) (by omega)
     clear hj hlt hj1 e1;go_wp2_with fail;go_roundw
     case rel=>exact⟨i+1,by go_num,by have:=IL.out;omega,T2,hB⟩
     case measure=>simp[intOf]<;>(have:=IL.out;omega)
  .have q0:decide ((i:Int)<((n+1:Nat):Int))=false:=by simp;omega
   have d0:decide ((i:Int)<(n:Int)+1)=false:=by simp;omega
   have e1:i=n+1:=by omega
   subst e1;have TE:Hid (NTab w.heap.size wr g (n+1) c (cvo (chi b) f)):=hT.out.fn fun i hi=>w0d (by omega)
   clear hi hlt;go_wp2_with fail;go_ret
   exact⟨⟨g,c,rfl,TE.out⟩,hB.out⟩
def bls (f:Nat->Bool)(j:Nat):List Value:=(List.range j).map fun i=>Value.bool (f i)
def s0w (f:Nat->Bool)(j:Nat):(bls f j).length=j:=by simp[bls]
def n0C (f:Nat->Bool)(j:Nat):bls f (j+1)=bls f j ++ [.bool (f j)]:=by simp[bls,List.range_succ]
structure TsS (W:World)(B gc:Nat)(v1 v2:Value)(j:Nat)(f1 f2:Nat->Bool):Prop where
 blk:Blk W gc #[v1,v2] 268
 o1:W.ownsRow B 4 1 v1 j (bls f1 j)
 o2:W.ownsRow B 4 1 v2 j (bls f2 j)
 n1:v1.ownBlock≠some gc
 n2:v2.ownBlock≠some gc
 n12:∀ g,v1.ownBlock=some g->v2.ownBlock≠some g
 b1:∀ g,v1.ownBlock=some g->B+1<g
 b2:∀ g,v2.ownBlock=some g->B+1<g
theorem TsS.call {W W':World}{B gc:Nat}{v1 v2:Value}{j:Nat}{f1 f2:Nat->Bool}(h:TsS W B gc v1 v2 j f1 f2)(hb:Below W.heap.size W W'):TsS W' B gc v1 v2 j f1 f2:=
 ⟨h.blk.call hb,a0T h.o1 hb,a0T h.o2 hb,h.n1,h.n2,h.n12,h.b1,h.b2⟩
def w0j {W w5 w6:World}{B gc J:Nat}{v1 v2 v1' v2':Value}{f1 f2:Nat->Bool}{o1 o2:Obj}{x1 x2:Bool}(h:TsS W B gc v1 v2 J f1 f2)(hgc:B+1<gc)(e1:f1 J=x1)(e2:f2 J=x2)
 (own1:w5.ownsRow B 4 1 v1' (J+1) (bls f1 J ++ [.bool x1])) (g1:(W.alloc o1).grownBy w5 v1.ownBlock) (at1:v1'.ownBlock=v1.ownBlock\/v1'.ownBlock=some (W.heap.size+1))
 (own2:w6.ownsRow B 4 1 v2' (J+1) (bls f2 J ++ [.bool x2])) (g2:(w5.alloc o2).grownBy w6 v2.ownBlock) (at2:v2'.ownBlock=v2.ownBlock\/v2'.ownBlock=some (w5.heap.size+1)):
 TsS ((w6.setCell ⟨gc,0,none⟩ v1').setCell ⟨gc,1,none⟩ v2') B gc v1' v2' (J+1) f1 f2:=by
 have hlt:=h.blk.lt;have s5:W.heap.size+1<=w5.heap.size:=by have:=g1.size;simpa using this
 have n1:v1'.ownBlock≠some gc:=by
  rcases at1 with e | e
  .rw[e];exact h.n1
  .rw[e];intro e';have:=K9 e';omega
 have n2:v2'.ownBlock≠some gc:=by
  rcases at2 with e | e
  .rw[e];exact h.n2
  .rw[e];intro e';have:=K9 e';omega
 have k1:v1'.ownBlock=none\/v1'.ownBlock≠v2.ownBlock:=by
  cases hv:v1'.ownBlock with
  | none=>exact .inl rfl
  | some g=>
   right
   intro e;rcases at1 with e' | e'
   .rw[hv]at e';exact h.n12 g e'.symm e.symm
   .rw[hv]at e';have h1:=(h.o2.lt g e.symm).2;have:=K9 e';omega
 have oo1:w6.ownsRow B 4 1 v1' (J+1) (bls f1 J ++ [.bool x1]):=(own1.alloc o2).kept g2 k1;have bk:Blk w6 gc #[v1,v2] 268:=Blk.grown ((Blk.grown (h.blk.alloc o1) g1 h.n1).alloc o2) g2 h.n2;refine⟨?_,?_,?_,n1,n2,?_,?_,?_⟩
 .have:=(bk.set 0 v1').set 1 v2';simpa using this
 .rw[n0C,e1];exact b0Z (b0Z oo1 (a:=⟨gc,0,none⟩) n1 _) (a:=⟨gc,1,none⟩) n1 _
 .rw[n0C,e2];exact b0Z (b0Z own2 (a:=⟨gc,0,none⟩) n2 _) (a:=⟨gc,1,none⟩) n2 _
 .intro g hg hg2;rcases at2 with e | e
  .rw[e]at hg2;rcases k1 with k | k
   .rw[k]at hg;cases hg
   .exact k (hg.trans hg2.symm)
  .rw[e]at hg2;have h1:=(own1.lt g hg).2;have:=K9 hg2;omega
 .intro g hg;rcases at1 with e | e
  .rw[e]at hg;exact h.b1 g hg
  .rw[e]at hg;have:=K9 hg;omega
 .intro g hg;rcases at2 with e | e
  .rw[e]at hg;exact h.b2 g hg
  .rw[e]at hg;have:=K9 hg;omega
def r0v:(Tryz.prog.info? 4).map (fun i=>(i.zero,i.size,i.bytes))=some (some (.bool false),1,1):=by kernel_rfl
def x0k (x:Nat):(b0e (x%2) 1==0)=decide (x%2=1):=by
 have h:=Nat.mod_two_eq_zero_or_one x;rcases h with h | h
 .rw[h,b0H (by omega)];rfl
 .rw[h,c0K];rfl
def x0l (x:Nat):(b0e x 0==0)=decide (x=0):=by
 rcases H7 x with h | h
 .rw[h,c0K];rfl
 .rw[c0j h];have:decide (x=0)=false:=by simp;omega
  rw[this];rfl
def numB_two':a0g 2=⟨#[50]⟩:=by unfold a0g;rw[a0u (by omega)];rfl
def o0D {W w5:World}{b:Option Nat}(h:W.drew.grownBy w5 b):W.grownBy w5 b:=⟨h.os,h.tape,h.output,h.size,h.block⟩
def f0I {w W w5:World}{b:Option Nat}(h:Below w.heap.size w W)(g:W.grownBy w5 b)(hb:∀ k,b=some k->w.heap.size<=k):Below w.heap.size w w5:=
 h.trans ⟨g.os,g.tape,g.output,g.size,fun i hi=>g.block i (by have:=h.size;omega) (fun e=>by have:=hb _ e.symm;omega)⟩
def k0G (w:World)(m:Bool)(vN vD:Value)(N D n:Nat)(hn:n<=300)(h0:0<N)(hND:N<D)(hN:IsN .i64 w vN N)(hD:IsN .i64 w vD D)(hd:∀ j,j<=n->nDigits (N*2 ^ j)<=4000):
 Calls Tryz.prog 283 #[.agg #[.bool m,vN,vD],.int .i64 (n:Nat)] w fun e w'=>(∃ u1 u2,e=.returned (.agg #[u1,u2])/\Row w' u1 (bls (a0C N D) (n+1))/\Row w' u2 (bls (a0i N D) (n+1)))/\Below w.heap.size w w':=by
 obtain⟨i0,hi,hz0,hz1,hz2⟩:=Cl r0v;obtain⟨aN,cN,rfl,-,-,-⟩:=hN.openI;obtain⟨aD,cD,rfl,-,-,-⟩:=hD.openI;obtain⟨lN,hlN⟩:=gn ((limbs N).length);obtain⟨lD,hlD⟩:=gn ((limbs D).length);rw[hlN]at hN |-;rw[hlD]at hD |-;have HT:=hid (fun j=>t0o hND j);have HL1:Hid (∀ j,j<=n->(limbs (N*2 ^ j)).length<=1000000/\(limbs (2 ^ j)).length<=1000000/\(limbs (N*2 ^ j / D)).length<=1000000):=fun j hj=>⟨a0w (hd j hj),a0w (E0 (a0r (Ka _ h0)) (hd j hj)),a0w (E0 (a0r (Dx _ _)) (hd j hj))⟩
 have HLN:Hid ((limbs N).length<=1000000):=a0w (by have:=hd 0 (J5 _);simpa using this);have HD0:Hid (0<D):=by show 0<D;omega
 have S0:Hid ((sdx N D 0).2=true/\a0C N D 0=false/\a0i N D 0=false):=⟨by simp[sdx];omega,rfl,by simp[a0i];omega⟩;have H2:=fun V=>hid (c0B V 2 (E0 (a0j (k:=1) (by omega) (by omega)) (by omega)))
 rw[numB_two']at H2;have H1:=fun V=>hid (i0C V)
 have H0:=fun V=>hid (g0J V)
 obtain⟨NN,ND,HN⟩:=zc hN hD hn;obtain⟨W1,hW1⟩:=gn ((((((w.alloc (.cells #[.bool m,.slice aN lN cN,.slice aD lD cD] 81)).alloc (.cells #[.slice none 0 0,.slice none 0 0] 268)).alloc (.cells #[.bool false] 4)).alloc (.cells #[.bool false] 4)).alloc (.cells #[.slice (some ⟨w.heap.size+1+1,0,none⟩) 1 1,.slice (some ⟨w.heap.size+1+1+1,0,none⟩) 1 1] 268)));have B1:Hid (Below w.heap.size w W1):=by
  show Below w.heap.size w W1
  rw[<- hW1];exact ((((br0.alloc nr _).alloc (by simp) _).alloc (by simp<;>omega) _).alloc (by simp<;>omega) _).alloc (by simp<;>omega) _
 have K0:Hid (Blk W1 w.heap.size #[.bool m,.slice aN lN cN,.slice aD lD cD] 81):=by
  show Blk _ _ _ _
  rw[<- hW1];have h:=Blk.new w #[.bool m,.slice aN lN cN,.slice aD lD cD] 81;exact (((h.alloc _).alloc _).alloc _).alloc _
 have K1:Hid (Blk W1 (w.heap.size+1) #[.slice none 0 0,.slice none 0 0] 268):=by
  show Blk _ _ _ _
  rw[<- hW1];have h:=Blk.new (w.alloc (.cells #[.bool m,.slice aN lN cN,.slice aD lD cD] 81)) #[.slice none 0 0,.slice none 0 0] 268;rw[show (w.alloc (.cells #[.bool m,.slice aN lN cN,.slice aD lD cD] 81)).heap.size=w.heap.size+1 by simp]at h;exact ((h.alloc _).alloc _).alloc _
 have K2:Blk W1 (w.heap.size+1+1) #[.bool false] 4:=by
  rw[<- hW1];have h:=Blk.new ((w.alloc (.cells #[.bool m,.slice aN lN cN,.slice aD lD cD] 81)).alloc (.cells #[.slice none 0 0,.slice none 0 0] 268)) #[.bool false] 4;rw[show ((w.alloc (.cells #[.bool m,.slice aN lN cN,.slice aD lD cD] 81)).alloc (.cells #[.slice none 0 0,.slice none 0 0] 268)).heap.size=w.heap.size+1+1 by simp]at h;exact (h.alloc _).alloc _
 have K3:Blk W1 (w.heap.size+1+1+1) #[.bool false] 4:=by
  rw[<- hW1];have h:=Blk.new (((w.alloc (.cells #[.bool m,.slice aN lN cN,.slice aD lD cD] 81)).alloc (.cells #[.slice none 0 0,.slice none 0 0] 268)).alloc (.cells #[.bool false] 4)) #[.bool false] 4;rw[show (((w.alloc (.cells #[.bool m,.slice aN lN cN,.slice aD lD cD] 81)).alloc (.cells #[.slice none 0 0,.slice none 0 0] 268)).alloc (.cells #[.bool false] 4)).heap.size=w.heap.size+1+1+1 by simp]at h;exact h.alloc _
 have K4:Blk W1 (w.heap.size+1+1+1+1) #[.slice (some ⟨w.heap.size+1+1,0,none⟩) 1 1,.slice (some ⟨w.heap.size+1+1+1,0,none⟩) 1 1] 268:=by
  rw[<- hW1];have h:=Blk.new ((((w.alloc (.cells #[.bool m,.slice aN lN cN,.slice aD lD cD] 81)).alloc (.cells #[.slice none 0 0,.slice none 0 0] 268)).alloc (.cells #[.bool false] 4)).alloc (.cells #[.bool false] 4)) #[.slice (some ⟨w.heap.size+1+1,0,none⟩) 1 1,.slice (some ⟨w.heap.size+1+1+1,0,none⟩) 1 1] 268;rw[show ((((w.alloc (.cells #[.bool m,.slice aN lN cN,.slice aD lD cD] 81)).alloc (.cells #[.slice none 0 0,.slice none 0 0] 268)).alloc (.cells #[.bool false] 4)).alloc (.cells #[.bool false] 4)).heap.size=w.heap.size+1+1+1+1 by simp]at h;exact h
 have T1:Hid (TsS W1 w.heap.size (w.heap.size+1+1+1+1) (.slice (some ⟨w.heap.size+1+1,0,none⟩) 1 1) (.slice (some ⟨w.heap.size+1+1+1,0,none⟩) 1 1) 1 (a0C N D) (a0i N D)):=by
  refine⟨K4,⟨rfl,.inr ⟨_,1,_,rfl,by omega,K2,Z3 _,by unfold maxLen;omega,rfl,?_⟩⟩,⟨rfl,.inr ⟨_,1,_,rfl,by omega,K3,Z3 _,by unfold maxLen;omega,rfl,?_⟩⟩,?_,?_,?_,?_,?_⟩
  .show [Value.bool false] = [Value.bool (a0C N D 0)]
   rw[S0.out.2.1]
  .show [Value.bool false] = [Value.bool (a0i N D 0)]
   rw[S0.out.2.2]
  .simp[Value.ownBlock]
  .simp[Value.ownBlock]
  .intro g hg e;simp[Value.ownBlock]at hg e;omega
  .intro g hg;simp[Value.ownBlock]at hg;omega
  .intro g hg;simp[Value.ownBlock]at hg;omega
 clear hN hD hd hn h0 hND K2 K3 K4 hlN hlD;go_enter Tryz.func283,Tryz.ntmps283;go_wp2_with fail
 try rw[hW1]
 clear hW1;obtain⟨gc,hgc⟩:=gn (w.heap.size+1+1+1+1);rw[hgc]at T1 |-;have HGC:Hid (w.heap.size+1<gc):=by show w.heap.size+1<gc;omega
 clear hgc
 go_loopw [6,7] (fun s6 s7 wr=>∃ J v1 v2,s6=.bool ((sdx N D (J-1)).2)/\s7=.int .i64 (J:Nat)/\1<=J/\J<=n+1/\Hid (TsS wr w.heap.size gc v1 v2 J (a0C N D) (a0i N D))/\Hid (Blk wr w.heap.size #[.bool m,.slice aN lN cN,.slice aD lD cD] 81)/\Hid (Blk wr (w.heap.size+1) #[.slice none 0 0,.slice none 0 0] 268)/\Hid (Below w.heap.size w wr)) (fun s6 s7 wr=>n+1-(intOf s7).toNat)
 case atStart=>exact⟨1,_,_,by rw[S0.out.1],rfl,Z3 _,by omega,T1,K0,K1,B1⟩
 case round=>
  clear T1 K0 K1 B1;obtain⟨J,v1,v2,rfl,rfl,hJ1,hJ2,hT,hK0,hK1,hB⟩:=hrel;by_cases hlt:J<=n
  .have d0:decide ((J:Int)<=(n:Int))=true:=by simp;omega
   have d0':decide (J<=n)=true:=by simp;omega
   obtain⟨t1,t2,t3⟩:=HT.out (J-1);rw[show J-1+1=J by omega]at t1 t2 t3;obtain⟨l1,l2,l3⟩:=HL1.out J hlt;have wi:IntKind.i64.wrap ((J:Int)+1)=((J+1:Nat):Int):=by have:=HN.out;rw[O0 _ ⟨by omega,by omega⟩];omega
   have JL:=hid hlt;obtain⟨o,ho⟩:=gn ((sdx N D (J-1)).2);rw[ho]at t1 t2 t3 |-;have KB:Hid (∀ W,Below wr.heap.size wr W->W.cell? ⟨w.heap.size,1,none⟩=some (.slice aN lN cN)/\W.cell? ⟨w.heap.size,2,none⟩=some (.slice aD lD cD)):=fun W hW=>⟨(hK0.out.call hW).cell 1,(hK0.out.call hW).cell 2⟩
   obtain⟨RN,RD,L1,L2,L3,HT1,HT2,HT3⟩:=kw (NN.out.call hB.out) (ND.out.call hB.out) l1 l2 l3 t1 t2 t3;clear hlt hJ1 hJ2 ho t1 t2 t3 l1 l2 l3;go_wp2_with fail;refine a0k [0,1,2,5,6] 8 (fun W'=>W'.cell? ⟨w.heap.size,1,none⟩=some (.slice aN lN cN)/\W'.cell? ⟨w.heap.size,2,none⟩=some (.slice aD lD cD)) (by kernel_rfl) (by kernel_rfl) (by kernel_rfl) (by kernel_rfl) (KB.out _ br0.drew) ?_
   iterate 5
    refine⟨_,rfl,?_⟩;apply Exists.intro
    refine⟨.inl ⟨by rfl,?_⟩,?_⟩
    .rintro W' ⟨r1,r2⟩;go_simp;try with_reducible rfl
    go_frame
   refine a0c (i:=3) (by kernel_rfl) rfl rfl ?_;go_wp2_with fail;refine (m0E _ J (by have:=JL.out;have:=HN.out;omega)).mono ?_;rintro e wa ⟨⟨vt,rfl,hvt⟩,hba⟩;obtain⟨A1,VT⟩:=zg (show Below wr.heap.size wr wa from br0.drew.trans hba) hvt;clear hba hvt;go_wp2_with fail;refine⟨KB.out _ A1.out,?_⟩;refine a0c (i:=4) (by kernel_rfl) rfl rfl ?_;go_wp2_with fail;refine (b0n _ _ _ _ _ (RN.out.call A1.out) VT.out HLN.out L2.out).mono ?_;rintro e wb ⟨⟨vp,rfl,hvp⟩,hbb⟩;obtain⟨A2,VP⟩:=zg (a0a A1.out hbb) hvp;clear hbb hvp VT;go_wp2_with fail;refine⟨KB.out _ A2.out,?_⟩;refine a0c (i:=7) (by kernel_rfl) rfl rfl ?_;go_wp2_with fail;refine (g0P _ _ _ _ _ VP.out (RD.out.call A2.out) HD0.out L1.out).mono ?_;rintro e wc ⟨⟨vk,vr,rfl,hvk,hvr⟩,hbc⟩;obtain⟨A3,VK,VR⟩:=zc (a0a A2.out hbc) hvk hvr;clear hbc hvk hvr VP;go_wp2_with fail;refine⟨KB.out _ A3.out,?_⟩;refine b0d (is:=[8,9,10,11,12]) (g:=0) (by kernel_rfl) rfl (KB.out _ A3.out) (by kernel_rfl) ?_
   iterate 5
    refine⟨_,rfl,?_⟩;apply Exists.intro
    refine⟨.inl ⟨by rfl,?_⟩,?_⟩
    .rintro W' ⟨r1,r2⟩;go_simp;try with_reducible rfl
    go_frame
   refine Z7 (by kernel_rfl) ?_ _;simp only[a0Z];go_wp2_with fail;refine (H2 _).out.mono ?_;rintro e wd ⟨⟨v2',rfl,hv2,-⟩,hbd⟩;obtain⟨A4,VK4,VR4,V2⟩:=zd (a0a A3.out hbd) (VK.out.call hbd) (VR.out.call hbd) hv2;clear hbd hv2;go_wp2_with fail;refine (g0P _ _ _ _ _ VK4.out V2.out (by omega) L3.out).mono ?_;rintro e we ⟨⟨vq,vo,rfl,-,hvo⟩,hbe⟩;obtain⟨A5,VR5,VO⟩:=zc (a0a A4.out hbe) (VR4.out.call hbe) hvo;clear hbe hvo;go_wp2_with fail;refine (H1 _).out.mono ?_;rintro e wf ⟨⟨v1',rfl,hv1,-⟩,hbf⟩;obtain⟨A6,VR6,VO6,V1⟩:=zd (a0a A5.out hbf) (VR5.out.call hbf) (VO.out.call hbf) hv1;clear hbf hv1;have oa:=x0k (N*2 ^ J / D);obtain⟨ab,hab⟩:=gn (decide (N*2 ^ J / D%2=1));rw[hab]at oa;have HAB:=hid hab;clear hab;go_wp2_with fail;refine (b0j _ _ _ _ _ VO6.out V1.out).mono ?_;rintro e wg ⟨rfl,hbg⟩;obtain⟨A7,VR7⟩:=zg (a0a A6.out hbg) (VR6.out.call hbg);clear hbg VO VO6 V1 V2;obtain⟨za,hza⟩:=gn (b0e (N*2 ^ J / D%2) 1);rw[hza]at oa |-;clear hza;cases ab
   focus
    have E1:Hid (a0C N D J=false/\a0i N D J=o/\(sdx N D J).2=o):=by
     refine⟨?_,?_,?_⟩
     .rw[HT1.out,HAB.out];cases o<;>rfl
     .rw[HT2.out,HAB.out];cases o<;>rfl
     .rw[HT3.out,HAB.out];cases o<;>rfl
    go_wp2_with fail;cases o
   rotate_left 2
   focus
    have oz:=x0l (N*2 ^ J%D);obtain⟨eq0,heq⟩:=gn (decide (N*2 ^ J%D=0));rw[heq]at oz;have HEQ:=hid heq;clear heq;go_wp2_with fail;refine (H0 _).out.mono ?_;rintro e wh ⟨⟨v0',rfl,hv0,-⟩,hbh⟩;obtain⟨A8,VR8,V0⟩:=zc (a0a A7.out hbh) (VR7.out.call hbh) hv0;clear hbh hv0;go_wp2_with fail;refine (b0j _ _ _ _ _ VR8.out V0.out).mono ?_;rintro e wg ⟨rfl,hbi⟩;have A7:=hid (a0a A8.out hbi);clear hbi V0 VR8;obtain⟨zb,hzb⟩:=gn (b0e (N*2 ^ J%D) 0);rw[hzb]at oz |-;clear hzb;cases eq0
    focus
     have E1:Hid (a0C N D J=o/\a0i N D J=false/\(sdx N D J).2=o):=by
      refine⟨?_,?_,?_⟩
      .rw[HT1.out,HAB.out];cases o<;>rfl
      .rw[HT2.out,HAB.out,HEQ.out];cases o<;>rfl
      .rw[HT3.out,HAB.out,HEQ.out];cases o<;>rfl
     go_wp2_with fail;cases o
    rotate_left 2
    focus
     have E1:Hid (a0C N D J=o/\a0i N D J=o/\(sdx N D J).2=false):=by
      refine⟨?_,?_,?_⟩
      .rw[HT1.out,HAB.out];cases o<;>rfl
      .rw[HT2.out,HAB.out,HEQ.out];cases o<;>rfl
      .rw[HT3.out,HAB.out,HEQ.out];cases o<;>rfl
     go_wp2_with fail;cases o
   all_goals
    obtain⟨x1,x2,x3⟩:=E1.out;have KC:Hid (∀ W,Below wr.heap.size wr W->W.cell? ⟨gc,0,none⟩=some v1/\W.cell? ⟨gc,1,none⟩=some v2):=fun W hW=>⟨(hT.out.call hW).blk.cell 0,(hT.out.call hW).blk.cell 1⟩
    have TA:=hid (hT.out.call A7.out);have jn:=JL.out;have hn9:=HN.out;have hgc9:=HGC.out;obtain⟨K0A,K1A,BA⟩:=zc (hK0.out.call A7.out) (hK1.out.call A7.out) (hB.out.trans (A7.out.mono hB.out.size));refine h0j 21 3 [] [(18,19),(17,18),(16,17),(11,17),(15,16),(14,16),(13,14),(12,13),(10,11)] [0,1,2,3,4,5,8,9,10] 12 (fun W'=>W'.cell? ⟨gc,0,none⟩=some v1/\W'.cell? ⟨gc,1,none⟩=some v2) (by kernel_rfl) (by kernel_rfl) (by kernel_rfl) (by kernel_rfl) (by kernel_rfl) (by kernel_rfl) (by kernel_rfl) (by kernel_rfl) (by kernel_rfl) (by kernel_rfl) (by kernel_rfl) (by kernel_rfl) (KC.out _ A7.out.drew) ?_;show d0j _ _ _ _ _ _
    iterate 9
     refine⟨_,rfl,?_⟩;apply Exists.intro
     first
      | (refine⟨.inl ⟨by rfl,?_⟩,?_⟩
         ·(rintro W' ⟨r1,r2⟩;go_simp;try with_reducible rfl))
      | refine⟨.inr ⟨by rfl,rfl⟩,?_⟩
     go_frame
    refine a0c (i:=6) (by kernel_rfl) rfl rfl ?_;go_wp2_with fail;refine⟨KC.out _ (a0a A7.out (br0.alloc nr _).drew),?_⟩;refine a0c (i:=7) (by kernel_rfl) rfl rfl ?_;refine Ft _ rfl _ _ 261 rfl w.heap.size 4 i0 (.bool false) 1 1 Tryz.underlying261 hi hz0 hz1 hz2 rfl (by decide) v1 J (bls (a0C N D) J) rfl (TA.out.o1.alloc _) ⟨wg.heap.size,0,none⟩ 1 1 [_] rfl rfl (Eh wg _ _) (by simp[Value.oneCell']) (by unfold maxLen;omega) (by omega) (by have:=BA.out.size;simp;omega) ?_;intro v1' w5 hown1 hgrow1 _ hat1;have hat1':v1'.ownBlock=v1.ownBlock\/v1'.ownBlock=some (wg.heap.size+1):=by simpa using hat1
    obtain⟨G1,OW1,AT1⟩:=zc (o0D hgrow1) hown1 hat1';obtain⟨p1,q1,rfl,-,-⟩:=hown1.form (Ew J);clear hown1 hgrow1 hat1 hat1';have Bk5:Hid (Blk w5 gc #[v1,v2] 268):=Blk.grown (TA.out.blk.alloc _) G1.out TA.out.n1;have Bb5:Hid (Blk w5 w.heap.size #[.bool m,.slice aN lN cN,.slice aD lD cD] 81):=Blk.grown (K0A.out.alloc _) G1.out (fun e=>by have:=TA.out.b1 _ e;omega);have Br5:Hid (Blk w5 (w.heap.size+1) #[.slice none 0 0,.slice none 0 0] 268):=Blk.grown (K1A.out.alloc _) G1.out (fun e=>by have:=TA.out.b1 _ e;omega);have Be5:=hid (f0I (BA.out.alloc BA.out.size _) G1.out (fun k e=>by have:=TA.out.b1 _ e;omega))
    have o25:w5.ownsRow w.heap.size 4 1 v2 J (bls (a0i N D) J):=(TA.out.o2.alloc _).kept G1.out (by
     cases hv:v2.ownBlock with
     | none=>exact .inl rfl
     | some g=>exact .inr fun e=>TA.out.n12 g e.symm hv)
    have O25:=hid o25;clear o25;go_wp2_with fail;refine⟨⟨Bk5.out.cell 0,Bk5.out.cell 1⟩,?_⟩;refine b0d (is:=[11,12,13,14,15,16,17,20]) (g:=2) (by kernel_rfl) rfl ⟨Bk5.out.cell 0,Bk5.out.cell 1⟩ (by kernel_rfl) ?_
    iterate 8
     refine⟨_,rfl,?_⟩;apply Exists.intro
     first
      | (refine⟨.inl ⟨by rfl,?_⟩,?_⟩
         ·(rintro W' ⟨r1,r2⟩;go_simp;try with_reducible rfl))
      | refine⟨.inr ⟨by rfl,rfl⟩,?_⟩
     go_frame
    refine a0c (i:=18) (by kernel_rfl) rfl rfl ?_;go_wp2_with fail;refine⟨⟨(Bk5.out.alloc _).cell 0,(Bk5.out.alloc _).cell 1⟩,?_⟩;refine a0c (i:=19) (by kernel_rfl) rfl rfl ?_;refine Ft _ rfl _ _ 261 rfl w.heap.size 4 i0 (.bool false) 1 1 Tryz.underlying261 hi hz0 hz1 hz2 rfl (by decide) v2 J (bls (a0i N D) J) rfl (O25.out.alloc _) ⟨w5.heap.size,0,none⟩ 1 1 [_] rfl rfl (Eh w5 _ _) (by simp[Value.oneCell']) (by unfold maxLen;omega) (by omega) (by have:=Be5.out.size;simp;omega) ?_;intro v2' w6 hown2 hgrow2 _ hat2;have hat2':v2'.ownBlock=v2.ownBlock\/v2'.ownBlock=some (w5.heap.size+1):=by simpa using hat2
    obtain⟨G2,OW2,AT2⟩:=zc hgrow2 hown2 hat2';obtain⟨p2,q2,rfl,-,-⟩:=hown2.form (Ew J);clear hown2 hgrow2 hat2 hat2';have Bk6:Hid (Blk w6 gc #[v1,v2] 268):=Blk.grown (Bk5.out.alloc _) G2.out TA.out.n2;have Bb6:Hid (Blk w6 w.heap.size #[.bool m,.slice aN lN cN,.slice aD lD cD] 81):=Blk.grown (Bb5.out.alloc _) G2.out (fun e=>by have:=TA.out.b2 _ e;omega);have Br6:Hid (Blk w6 (w.heap.size+1) #[.slice none 0 0,.slice none 0 0] 268):=Blk.grown (Br5.out.alloc _) G2.out (fun e=>by have:=TA.out.b2 _ e;omega);have Be6:=hid (f0I (Be5.out.alloc Be5.out.size _) G2.out (fun k e=>by have:=TA.out.b2 _ e;omega));go_wp2_with fail;refine⟨⟨Bk6.out.cell 0,Bk6.out.cell 1⟩,?_⟩;refine Z7 (by kernel_rfl) ?_ _;simp only[a0Z,b0K,Ab,A9];have TN:=hid (w0j TA.out HGC.out x1 x2 OW1.out G1.out AT1.out OW2.out G2.out AT2.out);have c0:=Bk6.out.cell 0;have f0:=Bk6.out.free 0;have Bk7:=Bk6.out.set 0 (.slice (some ⟨p1,0,none⟩) (J+1) q1);have c1:=Bk7.cell 1;have f1:=Bk7.free 1;simp at c0 c1;obtain⟨B7,Bb7,Br7⟩:=zc ((Be6.out.setCell (p:=⟨gc,0,none⟩) (by simp;omega) (.slice (some ⟨p1,0,none⟩) (J+1) q1)).setCell (p:=⟨gc,1,none⟩) (by simp;omega) (.slice (some ⟨p2,0,none⟩) (J+1) q2)) ((Bb6.out.other (a:=⟨gc,0,none⟩) (by simp;omega) (.slice (some ⟨p1,0,none⟩) (J+1) q1)).other (a:=⟨gc,1,none⟩) (by simp;omega) (.slice (some ⟨p2,0,none⟩) (J+1) q2)) ((Br6.out.other (a:=⟨gc,0,none⟩) (by simp;omega) (.slice (some ⟨p1,0,none⟩) (J+1) q1)).other (a:=⟨gc,1,none⟩) (by simp;omega) (.slice (some ⟨p2,0,none⟩) (J+1) q2));clear Bk7;go_wp2_with fail;simp only[a0Z];go_wp2_with fail;go_roundw
    case rel=>exact⟨J+1,_,_,by rw[Fm,x3],by go_num,by omega,by omega,TN,Bb7,Br7,B7⟩
    case measure=>simp[intOf]<;>omega
  .have d0:decide ((J:Int)<=(n:Int))=false:=by simp;omega
   have d0':decide (J<=n)=false:=by simp;omega
   obtain rfl:J=n+1:=by omega
   obtain⟨p1,q1,rfl,-,-⟩:=hT.out.o1.form (Ew n);obtain⟨p2,q2,rfl,-,-⟩:=hT.out.o2.form (Ew n);have k0:=hT.out.blk.cell 0;have k1:=hT.out.blk.cell 1;simp at k0 k1;have m0:=hK1.out.cell 0;have m1:=(hK1.out.set 0 (.slice (some ⟨p1,0,none⟩) (n+1) q1)).cell 1;have g0:=hK1.out.free 0;have g1:=(hK1.out.set 0 (.slice (some ⟨p1,0,none⟩) (n+1) q1)).free 1;simp at m0 m1;obtain⟨BF,KF,RF1,RF2⟩:=zd ((hB.out.setCell (p:=⟨w.heap.size+1,0,none⟩) (by simp) (.slice (some ⟨p1,0,none⟩) (n+1) q1)).setCell (p:=⟨w.heap.size+1,1,none⟩) (by simp) (.slice (some ⟨p2,0,none⟩) (n+1) q2)) ((hK1.out.set 0 (.slice (some ⟨p1,0,none⟩) (n+1) q1)).set 1 (.slice (some ⟨p2,0,none⟩) (n+1) q2)) (Row.of_owns (b0Z (b0Z hT.out.o1 (a:=⟨w.heap.size+1,0,none⟩) (fun e=>absurd (hT.out.b1 _ e) (Jt _)) (.slice (some ⟨p1,0,none⟩) (n+1) q1)) (a:=⟨w.heap.size+1,1,none⟩) (fun e=>absurd (hT.out.b1 _ e) (Jt _)) (.slice (some ⟨p2,0,none⟩) (n+1) q2))) (Row.of_owns (b0Z (b0Z hT.out.o2 (a:=⟨w.heap.size+1,0,none⟩) (fun e=>absurd (hT.out.b2 _ e) (Jt _)) (.slice (some ⟨p1,0,none⟩) (n+1) q1)) (a:=⟨w.heap.size+1,1,none⟩) (fun e=>absurd (hT.out.b2 _ e) (Jt _)) (.slice (some ⟨p2,0,none⟩) (n+1) q2)));clear hlt hJ1 hJ2;go_wp2_with fail;have f0:=KF.out.cell 0;have f1:=KF.out.cell 1;simp at f0 f1;refine J6 (v:=.agg #[.slice (some ⟨p1,0,none⟩) (n+1) q1,.slice (some ⟨p2,0,none⟩) (n+1) q2]) (by simp[results,Tryz.results283,go_sem,f0,f1]) rfl ⟨⟨_,_,rfl,RF1.out,RF2.out⟩,BF.out⟩
def dF (c:Nat->Bool)(u:Nat->Nat)(i j k:Nat):Nat:=dlt k+aF c u i j k
def a1P {N D n i j:Nat}(h0:a0C N D 0=false)(hi:i<=n):dF (a0C N D) (uT (a0C N D) (a0i N D) n) i j i=uT (a0C N D) (a0i N D) n i:=by
 have h:=(f0Q (zs:=a0i N D) h0 (n:=n) (i:=i) (by omega) i hi).1;unfold dF aF;have e:(if i<=i/\i<i+j/\a0C N D (i-i)=true then uT (a0C N D) (a0i N D) n i else 0)=0:=Q0 fun hh=>by rw[Bh,h0]at hh;cases hh.2.2
 rw[e,Ao];exact h.symm
def b1X {N D n i j k:Nat}(h0:a0C N D 0=false)(hi:i<=n)(hk:k<=n):dF (a0C N D) (uT (a0C N D) (a0i N D) n) i j k<=uT (a0C N D) (a0i N D) n k:=by
 rw[s0O h0 hk];exact Is (b1b hi hk) _
def z0f {N D n k:Nat}(h0:a0C N D 0=false)(hk:k<=n):uT (a0C N D) (a0i N D) n k<=2 ^ k:=(TB.outer (zs:=a0i N D) h0 n k (by omega)).src
def z0n {N D n k:Nat}(h0:a0C N D 0=false)(hk:k<=n):cvo (chi (a0i N D)) (uT (a0C N D) (a0i N D) n) k<=2 ^ (n+2):=by
 rw[<- m0l h0 hk];exact (TB.outer (zs:=a0i N D) h0 n (n+1) nr).up2 k
def o0K (w:World)(m:Bool)(vN vD:Value)(N D n:Nat)(hn:n<=300)(h0:0<N)(hND:N<D)(hN:IsN .i64 w vN N)(hD:IsN .i64 w vD D)(hd:∀ j,j<=n->nDigits (N*2 ^ j)<=4000):
 Calls Tryz.prog 218 #[.agg #[.bool m,vN,vD],.int .i64 (n:Nat)] w fun e w'=>(∃ g c,e=.returned (.slice (some ⟨g,0,none⟩) (n+1) c)/\NTab w.heap.size w' g (n+1) c (fun k=>(b0L (a0C N D) (a0i N D) n (n+1)).2.getD k 0))/\Below w.heap.size w w':=by
 obtain⟨aN,cN,rfl,-,-,-⟩:=hN.openI;obtain⟨aD,cD,rfl,-,-,-⟩:=hD.openI;obtain⟨lN,hlN⟩:=gn ((limbs N).length);obtain⟨lD,hlD⟩:=gn ((limbs D).length);rw[hlN]at hN |-;rw[hlD]at hD |-;have HT:=fun V hV1 hV2=>hid (k0G V m (.slice aN lN cN) (.slice aD lD cD) N D n hn h0 hND hV1 hV2 hd)
 obtain⟨NN,ND,HN⟩:=zc hN hD hn;clear hN hD hd;go_enter Tryz.func218,Tryz.ntmps218;go_wp2_with fail;have C0:=hid ((J3 w.heap.size w).alloc nr (.cells #[.bool m,.slice aN lN cN,.slice aD lD cD] 81));refine (HT _ (NN.out.call C0.out) (ND.out.call C0.out)).out.mono ?_;rintro e w1 ⟨⟨u1,u2,rfl,hu1,hu2⟩,hb1⟩;obtain⟨a1,c1,rfl,p1,p2,-⟩:=hu1.ex;obtain⟨a2,c2,rfl,p3,p4,-⟩:=hu2.ex;simp only[s0w]at p1 p3 hu1 hu2 |-;have HZ:=fun V=>hid (e0R V n (by omega))
 have HR:=fun V=>hid (i0C V)
 have Z1:Hid (a0C N D 0=false/\a0i N D 0=false):=⟨rfl,by simp[a0i];omega⟩;have EQ:Hid (∀ k,k<=n->dF (a0C N D) (uT (a0C N D) (a0i N D) n) (n+1) 1 k=uT (a0C N D) (a0i N D) n k):=fun k hk=>by
  unfold dF;rw[w0d hk,<- s0O Z1.out.1 hk]
 obtain⟨WA,hWA⟩:=gn ((w1.alloc (.cells #[.slice a1 (n+1) c1,.slice a2 (n+1) c2] 268)));have BA:Hid (Below w.heap.size w WA):=by
  show Below w.heap.size w WA
  rw[<- hWA];have h1:=(C0.out.trans (hb1.mono C0.out.size));exact h1.alloc h1.size _
 have BB:Hid (Below w1.heap.size w1 WA):=by
  show Below w1.heap.size w1 WA
  rw[<- hWA];exact br0.alloc nr _
 have KA:Hid (Blk WA w1.heap.size #[.slice a1 (n+1) c1,.slice a2 (n+1) c2] 268):=by
  show Blk _ _ _ _
  rw[<- hWA];exact Blk.new w1 _ _
 obtain⟨U1,U2⟩:=zg (hu1.call BB.out) (hu2.call BB.out);obtain⟨gc,hgc⟩:=gn (w1.heap.size);rw[hgc]at KA;clear hu1 hu2 hb1 BB;go_wp2_with fail
 try rw[hWA]
 try rw[hgc]
 clear hWA hgc;refine (HZ _).out.mono ?_;rintro e w2 ⟨⟨g,c,rfl,ht⟩,hb2⟩;obtain⟨T0,B2⟩:=zg ht hb2;clear ht hb2;go_wp2_with fail;refine (HR _).out.mono ?_;rintro e w3 ⟨⟨v1,rfl,hv1,hf1⟩,hb3⟩;obtain⟨av,cv,rfl,-,-,-⟩:=hv1.openI;obtain⟨lv,hlv⟩:=gn ((limbs 1).length);rw[hlv]at hv1 hf1 |-;obtain⟨B3,T1⟩:=zg (a0a B2.out hb3) (T0.out.call hb3);have F1:Hid (∀ g',(Value.slice av lv cv).ownBlock=some g'->WA.heap.size<=g'/\g'≠g):=fun g' hg=>by
  have h1:w2.heap.size<=g':=hf1 g' hg;have h2:=T0.out.slot;have h3:=B2.out.size;exact⟨by omega,by omega⟩
 have V1:=hid hv1;have fr:=T1.out.slot.2.2.2.2 0;obtain⟨x0,cx0,-,-⟩:=T1.out.at (i:=0) (by omega);have e0':(0:Int)<(n:Int)+1:=by omega
 have T2:Hid (NTab WA.heap.size (w3.setCell ⟨g,0,none⟩ (.slice av lv cv)) g (n+1) c (dF (a0C N D) (uT (a0C N D) (a0i N D) n) 0 1)):=(T1.out.put 0 V1.out (.inr F1.out)).fn fun k hk=>by
  unfold dF;rw[s0B _ Z1.out.1,Ao]
  rfl
 have B4:=hid (B3.out.setCell (p:=⟨g,0,none⟩) (by have:=T1.out.slot.1;exact this) (.slice av lv cv));clear hlv hv1 hf1 hb3;go_wp2_with fail;clear cx0 T0 T1 fr e0' F1 V1 B2 B3 HR HT HZ;have SZ:Hid (gc<WA.heap.size):=KA.out.lt;obtain⟨CC,CC2⟩:=zg (KA.out.cell 0) (KA.out.cell 1);have HDF:Hid (∀ i j k,i<=n->k<=n->(limbs (dF (a0C N D) (uT (a0C N D) (a0i N D) n) i j k)).length<=1000000):=fun i j k hi hk=>a0w (a0b (E0 (b1X Z1.out.1 hi hk) (z0f Z1.out.1 hk)) (by omega))
 have HBL:Hid (∀ j,j<n+1->∃ gb ob,a1=some ⟨gb,ob,none⟩/\gb<WA.heap.size/\WA.cell? ⟨gb,ob+j,none⟩=some (.bool (a0C N D j))):=fun j hj=>U1.out.at (by unfold bls;rw[Ck,Hg hj];rfl)
 go_loopw [7] (fun s7 wr=>∃ i:Nat,s7=.int .i64 (i:Nat)/\i<=n+1/\Hid (NTab WA.heap.size wr g (n+1) c (dF (a0C N D) (uT (a0C N D) (a0i N D) n) i 1))/\Hid (Below WA.heap.size WA wr)) (fun s7 wr=>n+1-(intOf s7).toNat)
 case atStart=>exact⟨0,rfl,J5 _,T2,B4⟩
 case round=>
  clear T2 B4;obtain⟨i,rfl,hi,hT,hB⟩:=hrel;by_cases hlt:i<=n
  .have d0:decide (i<=n)=true:=by simp;omega
   have f0:(0:Int)<=(i:Int):=by omega
   have f1:(i:Int)<((n+1:Nat):Int):=by omega
   have f1':(i:Int)<(n:Int)+1:=by omega
   have f9:(i:Int)<=1000:=by have:=HN.out;omega
   have IL:=hid hlt;clear hi hlt;go_wp2_with fail
   go_loopw [8] (fun s8 wq=>∃ j:Nat,s8=.int .i64 (j:Nat)/\1<=j/\(i+j<=n+1\/j=1)/\Hid (NTab WA.heap.size wq g (n+1) c (dF (a0C N D) (uT (a0C N D) (a0i N D) n) i j))/\Hid (Below WA.heap.size WA wq)) (fun s8 wq=>n+2-(intOf s8).toNat)
   case atStart=>exact⟨1,rfl,Z3 _,.inr rfl,hT,hB⟩
   case round=>
    clear hT hB;obtain⟨j,rfl,hj1,hj,hT,hB⟩:=hrel;have wij:IntKind.i64.wrap ((i:Int)+(j:Int))=(i:Int)+(j:Int):=by have:=HN.out;rw[O0 _ ⟨by omega,by omega⟩]
    by_cases hlt:i+j<n+1
    .have q1:decide ((i:Int)+(j:Int)<=(n:Int))=true:=by simp;omega
     have f2:(0:Int)<=(j:Int):=by omega
     have f3:(j:Int)<((n+1:Nat):Int):=by omega
     have f3':(j:Int)<(n:Int)+1:=by omega
     have f4:(0:Int)<=(i:Int)+(j:Int):=by omega
     have f5:(i:Int)+(j:Int)<((n+1:Nat):Int):=by omega
     have f5':(i:Int)+(j:Int)<(n:Int)+1:=by omega
     have f6:(j:Int)<=1000:=by have:=HN.out;omega
     have et:((i:Int)+(j:Int)).toNat=i+j:=by omega
     have JL:=hid hlt;obtain⟨gb,ob,eb,hgb,hb1⟩:=HBL.out j (by omega);subst eb;have cb1:=(hB.out.cell (p:=⟨gb,ob+j,none⟩) hgb).trans hb1;have cc:=(hB.out.cell (p:=⟨gc,0,none⟩) SZ.out).trans CC.out;obtain⟨bj,hbj⟩:=gn (a0C N D j);rw[hbj]at cb1;obtain⟨HBJ,J1⟩:=zg hbj hj1;clear hj hlt hb1 hbj hgb;cases bj
     .have T2:Hid (NTab WA.heap.size wr g (n+1) c (dF (a0C N D) (uT (a0C N D) (a0i N D) n) i (j+1))):=hT.out.fn fun k _=>by unfold dF;rw[s0D HBJ.out k]
      clear hj1;go_wp2_with fail;go_roundw
      case rel=>exact⟨j+1,by go_num,by omega,.inl (by have:=JL.out;omega),T2,hB⟩
      case measure=>simp[intOf]<;>(have:=JL.out;omega)
     .obtain⟨x,cx,hx,-⟩:=hT.out.at (i:=i+j) JL.out;obtain⟨y,cy,hy,-⟩:=hT.out.at (i:=i) (by have:=IL.out;omega);rw[a1P Z1.out.1 IL.out]at hy;obtain⟨XN,YN⟩:=zg hx hy;clear hx hy hj1;go_wp2_with fail;refine b0b 15 2 [0,1,2,3,4,5,6,7,8,9,10,11,12,13] 1 (fun W'=>W'.cell? ⟨g,i+j,none⟩=some x/\W'.cell? ⟨g,i,none⟩=some y) (by kernel_rfl) rfl (by kernel_rfl) (by kernel_rfl) (by kernel_rfl) (by kernel_rfl) ⟨cx,cy⟩ ?_
      iterate 14
       refine⟨_,rfl,?_⟩;apply Exists.intro
       refine⟨.inl ⟨by rfl,?_⟩,?_⟩
       .rintro W' ⟨r1,r2⟩;go_simp;try with_reducible rfl
       go_frame
      refine a0c (i:=14) (by kernel_rfl) rfl rfl ?_;go_wp2_with fail;refine (c0C _ _ _ _ _ (XN.out.call br0.drew) (YN.out.call br0.drew) (HDF.out i j (i+j) IL.out (by have:=JL.out;omega)) (by have:=HDF.out i 1 i IL.out IL.out;rwa[a1P Z1.out.1 IL.out]at this)).mono ?_;rintro e w5 ⟨⟨zz,rfl,hz,hf⟩,hbc⟩;obtain⟨az1,cz1,rfl,-,-,-⟩:=hz.openI;obtain⟨lz1,hlz⟩:=gn ((limbs (dF (a0C N D) (uT (a0C N D) (a0i N D) n) i j (i+j)+uT (a0C N D) (a0i N D) n i)).length);rw[hlz]at hz hf |-;clear hlz;have C1:=hid (show Below wr.heap.size wr w5 from br0.drew.trans hbc);obtain⟨T1,Z9⟩:=zg (hT.out.call C1.out) hz;have FZ1:Hid (∀ g',(Value.slice az1 lz1 cz1).ownBlock=some g'->WA.heap.size<=g'/\g'≠g):=fun g' hg=>by
       have h1:wr.heap.size<=g':=hf g' hg;have h2:=hT.out.slot;have h3:=hB.out.size;exact⟨by omega,by omega⟩
      have m1:=(C1.out.cell (a0e cx)).trans cx;have m2:=(C1.out.cell (a0e cy)).trans cy;have B5:=hid (hB.out.trans (C1.out.mono hB.out.size));clear hz hf hbc cx cy cb1 cc;go_wp2_with fail;refine⟨⟨m1,m2⟩,?_⟩;refine Z7 (by kernel_rfl) ?_ _;simp only[a0Z,b0K,Ab,A9];have m3:=T1.out.slot.2.2.2.2 (i+j);have T2:Hid (NTab WA.heap.size (w5.setCell ⟨g,i+j,none⟩ (.slice az1 lz1 cz1)) g (n+1) c (dF (a0C N D) (uT (a0C N D) (a0i N D) n) i (j+1))):=(T1.out.put (i+j) Z9.out (.inr FZ1.out)).fn fun k hk=>by
       unfold dF;rw[s0C HBJ.out];by_cases e:k=i+j
       .rw[U0 e,U0 e,e,De]
       .rw[Q0 e,Q0 e]
      have B6:=hid (B5.out.setCell (p:=⟨g,i+j,none⟩) (by have:=hT.out.slot.1;exact this) (.slice az1 lz1 cz1));go_wp2_with fail
      try simp only[a0Z]
      go_roundw
      case rel=>exact⟨j+1,by go_num,by have:=J1.out;omega,.inl (by have:=JL.out;omega),T2,B6⟩
      case measure=>simp[intOf]<;>(have:=JL.out;omega)
    .have q1:decide ((i:Int)+(j:Int)<=(n:Int))=false:=by simp;omega
     have f6:(j:Int)<=1002:=by have:=HN.out;omega
     have e2:j=n+1-i:=by have:=IL.out;omega
     subst e2;have T2:Hid (NTab WA.heap.size wr g (n+1) c (dF (a0C N D) (uT (a0C N D) (a0i N D) n) (i+1) 1)):=hT.out.fn fun k hk=>by
      unfold dF;rw[s0E Z1.out.1 IL.out (by omega)]
     clear hj hlt hj1;go_wp2_with fail;go_roundw
     case rel=>exact⟨i+1,by go_num,by have:=IL.out;omega,T2,hB⟩
     case measure=>simp[intOf]<;>(have:=IL.out;omega)
  .have e1:i=n+1:=by omega
   subst e1;have d0:decide ((n:Int)+1<=(n:Int))=false:=by simp;omega
   have TE:Hid (NRow wr (.slice (some ⟨g,0,none⟩) (n+1) c) (n+1) (uT (a0C N D) (a0i N D) n)):=(hT.out.fn fun k hk=>EQ.out k (by omega)).row;have cc2:=(hB.out.cell (p:=⟨gc,1,none⟩) SZ.out).trans CC2.out;have U3:=hid (U2.out.call hB.out);clear hi hlt;go_wp2_with fail;refine (j0p _ _ _ n (uT (a0C N D) (a0i N D) n) (a0i N D) (by have:=HN.out;omega) TE.out U3.out Z1.out.2 (fun k hk=>⟨a0b (z0n Z1.out.1 hk) (by have:=HN.out;omega),a0b (z0f Z1.out.1 hk) (by have:=HN.out;omega)⟩)).mono ?_;rintro e w9 ⟨⟨g9,c9,rfl,ht9⟩,hb9⟩;have BF:=hid (BA.out.trans ((hB.out.trans (hb9.mono hB.out.size)).mono BA.out.size));have TF:Hid (NTab w.heap.size w9 g9 (n+1) c9 (fun k=>(b0L (a0C N D) (a0i N D) n (n+1)).2.getD k 0)):=(ht9.mono (E0 BA.out.size hB.out.size)).fn fun k hk=>(m0l Z1.out.1 (by omega)).symm
   clear ht9 hb9;go_wp2_with fail;go_ret
   exact⟨⟨g9,c9,rfl,TF.out⟩,BF.out⟩
end
section
open Go.RowKit
open Go.Lib (decDigits nDigits)
structure CutR (s W B D:ByteArray)(S M I fb:Bool)(k:Nat):Prop where
 sl:∀ w,Calls Tryz.prog 171 #[.string s] w fun e w'=>e=.returned (.int .i64 k)/\w=w'
 kle:k<=s.size
 cutW:s.extract 0 k=W
 cutB:S=true->s.extract (k+1) s.size=B
 has:S=decide (k<s.size)
 int:∀ w,Calls Tryz.prog 172 #[.string W] w fun e w'=>e=.returned (.tuple #[.bool M,.string D,.bool I])/\w=w'
 form:∀ w,Calls Tryz.prog 173 #[.string B] w fun e w'=>e=.returned (.bool fb)/\w=w'
def s0i (s:ByteArray)(hs:s.size<=9223372036854775807):CutR s (cW s) (cB s) (iD (cW s)) (cS s) (iM (cW s)) (iB (cW s)) (fB (cB s)) (cW s).size:=by
 have key:∀ k,j0e s.data.toList k->k=(cW s).size:=by
  intro k hk;obtain⟨h1,h2,-⟩:=j0X hk;rw[h2];simp;omega
 have ex:∃ k,j0e s.data.toList k:=by
  rcases f0T s.data.toList with hn | ⟨A,B,hA,e⟩
  .exact⟨s.data.toList.length,Z3 _,fun j b _ hb=>hn b (E7 hb),fun h=>absurd h (Jt _)⟩
  .refine⟨A.length,by rw[e];simp,fun j b hj hb=>?_,fun _=>by rw[e];simp⟩;rw[e,D9 hj]at hb;exact hA b (E7 hb)
 obtain⟨k,hk⟩:=ex;obtain⟨h1,h2,h3,h4⟩:=j0X hk;have hk':=key k hk;subst hk'
 exact {
  sl:=fun w=>(t0u w s (by omega)).mono (by
   rintro e w' ⟨⟨j,rfl,hj⟩,rfl⟩;rw[key j hj];exact⟨rfl,rfl⟩)
  kle:=h1
  cutW:=h2.symm
  cutB:=fun h=>(h4 (by rw[h3]at h;simpa using h)).symm
  has:=h3
  int:=fun w=>h0S w (cW s) (by have:=j0z s;omega)
  form:=fun w=>e0A w (cB s) (by have:=m0b s;omega) }
def RetR (x:Int)(m:Bool)(n d:Nat)(e:Ending)(w':World):Prop:=∃ v,e=.returned (.tuple #[v,.int .i64 x])/\(x=0->∃ N D,v=.agg #[.bool m,N,D]/\IsN .i64 w' N n/\IsN .i64 w' D d)/\(x≠0->v=.agg #[.bool false,.slice none 0 0,.slice none 0 0])
theorem RetR.err {x:Int}{m:Bool}{n d:Nat}{w':World}(h:x≠0):RetR x m n d (.returned (.tuple #[.agg #[.bool false,.slice none 0 0,.slice none 0 0],.int .i64 x])) w':=⟨_,rfl,fun e=>absurd e h,fun _=>rfl⟩
def Ks:=@Go.Proofs.Tryz.results71
def z0z (w:World)(s W B D:ByteArray)(S M I fb:Bool)(k:Nat)(hs:s.size<=9223372036854775807)(HC:CutR s W B D S M I fb k)
 (h:(I && (!S || (decide (D≠⟨#[48]⟩) && fb && decide (B≠⟨#[48]⟩) && decide (B≠⟨#[49]⟩))))=false):
 Calls Tryz.prog 71 #[.string s] w fun e w'=>e=.returned (.tuple #[.agg #[.bool false,.slice none 0 0,.slice none 0 0],.int .i64 3])/\Below w.heap.size w w':=by
 have key:(I=false)\/(I=true/\S=true/\(D=⟨#[48]⟩\/(¬ D=⟨#[48]⟩/\(fb=false\/(fb=true/\(B=⟨#[48]⟩\/(¬ B=⟨#[48]⟩/\B=⟨#[49]⟩))))))):=by
  by_cases h1:D=⟨#[48]⟩<;>by_cases h2:B=⟨#[48]⟩<;>by_cases h3:B=⟨#[49]⟩<;>cases I<;>cases S<;>cases fb<;>simp[h1,h2,h3]at h |-
 have HK:=hid HC;have kle:=HC.kle;have hlt:=HC.has;obtain⟨cw,cb⟩:=zg HC.cutW HC.cutB;clear HC h;obtain⟨t0,t1⟩:=zg (Blk.new w #[.bool false,.slice none 0 0,.slice none 0 0] 81) ((J3 w.heap.size w).alloc nr (.cells #[.bool false,.slice none 0 0,.slice none 0 0] 81));have d0:=t0.out.cell 0;have d1:=t0.out.cell 1;have d2:=t0.out.cell 2;have e0:=t0.out.free 0;have e1:=t0.out.free 1;have e2:=t0.out.free 2;simp at d0 d1 d2;have ht:∀ {b:Bool},b=decide (k<s.size)->decide (k<s.size)=b:=fun h=>h.symm
 have kle2:S=true->k+1<=s.size:=fun h=>by rw[h]at hlt;have:=Ax hlt.symm;omega
 have wk2:S=true->IntKind.i64.wrap ((k:Int)+1)=(k:Int)+1:=fun h=>by have:=kle2 h;rw[O0 _ ⟨by omega,by omega⟩]
 rcases key with rfl | ⟨rfl,rfl,rfl | ⟨h1,rfl | ⟨rfl,rfl | ⟨h2,rfl⟩⟩⟩⟩
 focus
  cases S
  focus
   have q0:=ht hlt
  rotate_left
  focus
   have q0:=ht hlt;have kle3:=kle2 rfl;have wk:=wk2 rfl
 rotate_left 2
 focus
  have q0:=ht hlt;have kle3:=kle2 rfl;have wk:=wk2 rfl
 rotate_left
 focus
  have q0:=ht hlt;have kle3:=kle2 rfl;have wk:=wk2 rfl;have i1:=a0I (l:=[48]) h1
 rotate_left
 focus
  have q0:=ht hlt;have kle3:=kle2 rfl;have wk:=wk2 rfl;have i1:=a0I (l:=[48]) h1
 rotate_left
 focus
  have q0:=ht hlt;have kle3:=kle2 rfl;have wk:=wk2 rfl;have i1:=a0I (l:=[48]) h1
 all_goals
  clear hlt ht kle2 wk2;go_enter Tryz.func71,Tryz.ntmps71
  go_wp2_with (first
   | (go_at_call 171;refine (HK.out.sl _).mono ?_;rintro e w1 ⟨rfl,rfl⟩)
   | (go_at_call 172;rw[cw.out];refine (HK.out.int _).mono ?_;rintro e w2 ⟨rfl,rfl⟩)
   | (go_at_call 173;(first | rw[cb.out trivial] | rw[cb.out rfl]);refine (HK.out.form _).mono ?_;rintro e w3 ⟨rfl,rfl⟩)
   | fail)
  obtain⟨s1,s2⟩:=d0k t0.out false none none 0 0 0 0;have f0:=s2.cell 0;have f1:=s2.cell 1;have f2:=s2.cell 2;simp at f0 f1 f2;refine J6 (v:=.tuple #[.agg #[.bool false,.slice none 0 0,.slice none 0 0],.int .i64 3]) (by simp[results,Ks,go_sem,f0,f1,f2]) rfl ⟨rfl,?_⟩
  first | exact t1.out | exact ((t1.out.setCell nr _).setCell nr _).setCell nr _
def w0N (w:World)(s W B D:ByteArray)(S M fb:Bool)(k:Nat)(hs:s.size<=9223372036854775807)(HC:CutR s W B D S M true fb k)
 (h:S=false\/(S=true/\¬ D=⟨#[48]⟩/\¬ B=⟨#[48]⟩/\¬ B=⟨#[49]⟩/\fb=true)) (hl:4000<D.size\/(¬ 4000<D.size/\S=true/\4000<B.size)):
 Calls Tryz.prog 71 #[.string s] w fun e w'=>e=.returned (.tuple #[.agg #[.bool false,.slice none 0 0,.slice none 0 0],.int .i64 5])/\Below w.heap.size w w':=by
 have HK:=hid HC;have kle:=HC.kle;have hlt:=HC.has;obtain⟨cw,cb⟩:=zg HC.cutW HC.cutB;clear HC;obtain⟨t0,t1⟩:=zg (Blk.new w #[.bool false,.slice none 0 0,.slice none 0 0] 81) ((J3 w.heap.size w).alloc nr (.cells #[.bool false,.slice none 0 0,.slice none 0 0] 81));have d0:=t0.out.cell 0;have d1:=t0.out.cell 1;have d2:=t0.out.cell 2;have e0:=t0.out.free 0;have e1:=t0.out.free 1;have e2:=t0.out.free 2;simp at d0 d1 d2;have kle2:S=true->k+1<=s.size:=fun h=>by rw[h]at hlt;have:=Ax hlt.symm;omega
 have wk2:S=true->IntKind.i64.wrap ((k:Int)+1)=(k:Int)+1:=fun h=>by have:=kle2 h;rw[O0 _ ⟨by omega,by omega⟩]
 have q0:=hlt.symm;clear hlt;rcases h with rfl | ⟨rfl,h1,h2,h3,rfl⟩
 focus
  have q1:decide ((4000:Int)<(D.size:Int))=true:=by
   rcases hl with hl | ⟨_,hl,_⟩
   .simp;omega
   .cases hl
  clear hl kle2 wk2
 rotate_left
 focus
  have kle3:=kle2 rfl;have wk:=wk2 rfl;have i1:=a0I (l:=[48]) h1;have i2:=a0I (l:=[48]) h2;have i3:=a0I (l:=[49]) h3;clear kle2 wk2;rcases hl with hl | ⟨hl,-,hl2⟩
  focus
   have q1:decide ((4000:Int)<(D.size:Int))=true:=by simp;omega
   clear hl
  rotate_left
  focus
   have q1:decide ((4000:Int)<(D.size:Int))=false:=by simp;omega
   have q2:decide ((4000:Int)<(B.size:Int))=true:=by simp;omega
   clear hl hl2
 all_goals
  go_enter Tryz.func71,Tryz.ntmps71
  go_wp2_with (first
   | (go_at_call 171;refine (HK.out.sl _).mono ?_;rintro e w1 ⟨rfl,rfl⟩)
   | (go_at_call 172;rw[cw.out];refine (HK.out.int _).mono ?_;rintro e w2 ⟨rfl,rfl⟩)
   | (go_at_call 173;(first | rw[cb.out trivial] | rw[cb.out rfl]);refine (HK.out.form _).mono ?_;rintro e w3 ⟨rfl,rfl⟩)
   | fail)
  obtain⟨s1,s2⟩:=d0k t0.out false none none 0 0 0 0;have f0:=s2.cell 0;have f1:=s2.cell 1;have f2:=s2.cell 2;simp at f0 f1 f2;refine J6 (v:=.tuple #[.agg #[.bool false,.slice none 0 0,.slice none 0 0],.int .i64 5]) (by simp[results,Ks,go_sem,f0,f1,f2]) rfl ⟨rfl,?_⟩
  first | exact t1.out | exact ((t1.out.setCell nr _).setCell nr _).setCell nr _
def RetRF (B:Nat)(x:Int)(m:Bool)(n d:Nat)(e:Ending)(w':World):Prop:=∃ v,e=.returned (.tuple #[v,.int .i64 x])/\(x=0->∃ N D,v=.agg #[.bool m,N,D]/\IsN .i64 w' N n/\IsN .i64 w' D d/\(∀ g,N.ownBlock=some g->B<=g)/\(∀ g,D.ownBlock=some g->B<=g))/\(x≠0->v=.agg #[.bool false,.slice none 0 0,.slice none 0 0])
theorem RetRF.err {B:Nat}{x:Int}{m:Bool}{n d:Nat}{w':World}(h:x≠0):RetRF B x m n d (.returned (.tuple #[.agg #[.bool false,.slice none 0 0,.slice none 0 0],.int .i64 x])) w':=⟨_,rfl,fun e=>absurd e h,fun _=>rfl⟩
def m0C (w:World)(s W B D:ByteArray)(M:Bool)(k:Nat)(hs:s.size<=1000000)(HC:CutR s W B D true M true true k)
 (h1:¬ D=⟨#[48]⟩) (h2:¬ B=⟨#[48]⟩) (h3:¬ B=⟨#[49]⟩) (hl1:¬ 4000<D.size) (hl2:¬ 4000<B.size) (hd1:allDig D.data.toList) (hd2:allDig B.data.toList):
 Calls Tryz.prog 71 #[.string s] w fun e w'=>RetRF w.heap.size (if Nat.gcd (bN D) (bN B)=1 then 0 else 3) M (bN D) (bN B) e w'/\Below w.heap.size w w':=by
 obtain⟨xc,hxc⟩:∃ x:Int,(if Nat.gcd (bN D) (bN B)=1 then 0 else 3)=x:=⟨_,rfl⟩;rw[hxc];have HXC:=hid hxc;clear hxc;have HK:=hid HC;have kle:=HC.kle;have hlt:=HC.has;obtain⟨cw,cb⟩:=zg HC.cutW HC.cutB;clear HC;obtain⟨t0,t1⟩:=zg (Blk.new w #[.bool false,.slice none 0 0,.slice none 0 0] 81) ((J3 w.heap.size w).alloc nr (.cells #[.bool false,.slice none 0 0,.slice none 0 0] 81));have wk:IntKind.i64.wrap ((k:Int)+1)=(k:Int)+1:=by rw[O0 _ ⟨by omega,by omega⟩]
 have kle3:k+1<=s.size:=by have:=Ax hlt.symm;omega
 have q0:=hlt.symm;clear hlt;have i1:=a0I (l:=[48]) h1;have i2:=a0I (l:=[48]) h2;have i3:=a0I (l:=[49]) h3;have q1:decide ((4000:Int)<(D.size:Int))=false:=by simp;omega
 have q2:decide ((4000:Int)<(B.size:Int))=false:=by simp;omega
 obtain⟨L1,L2⟩:=zg (e0W hd1 hl1) (e0W hd2 hl2);have P1:=fun W=>hid (d0H W D hd1 (by omega))
 have P2:=fun W=>hid (d0H W B hd2 (by omega))
 clear hd1 hd2 h1 h2 h3 hl1 hl2;go_enter Tryz.func71,Tryz.ntmps71
 go_wp2_with (first
  | (go_at_call 171;refine (HK.out.sl _).mono ?_;rintro e w1 ⟨rfl,rfl⟩)
  | (go_at_call 172;rw[cw.out];refine (HK.out.int _).mono ?_;rintro e w2 ⟨rfl,rfl⟩)
  | (go_at_call 173;(first | rw[cb.out trivial] | rw[cb.out rfl]);refine (HK.out.form _).mono ?_;rintro e w3 ⟨rfl,rfl⟩)
  | fail)
 refine (P1 _).out.mono ?_;rintro e w4 ⟨⟨v4,rfl,hv4,hf4⟩,hb4⟩;obtain⟨F4,x4,y4,N4⟩:=zd (fun g hg=>E0 t1.out.size (hf4 g hg)) (t0.out.call hb4) (a0a t1.out hb4) hv4;clear hb4 hv4 hf4;obtain⟨a4,c4,rfl,_⟩:=N4.out.openI;obtain⟨k1,hk1⟩:=gn ((limbs (dv D.data.toList)).length);rw[hk1]at N4 F4 |-;clear P1;go_wp2_with fail;refine (P2 _).out.mono ?_;rintro e w5 ⟨⟨v5,rfl,hv5,hf5⟩,hb5⟩;obtain⟨F5,x5,y5,N5,D5⟩:=zf (fun g hg=>E0 y4.out.size (hf5 g hg)) (x4.out.call hb5) (a0a y4.out hb5) (N4.out.call hb5) hv5;clear hb5 hv5 hf5;obtain⟨a5,c5,rfl,_⟩:=D5.out.openI;obtain⟨k2,hk2⟩:=gn ((limbs (dv B.data.toList)).length);rw[hk2]at D5 F5 |-;clear P2;go_wp2_with fail;obtain⟨z5,b5⟩:=zg (Blk.new w5 #[.bool M,.slice a4 k1 c4,.slice a5 k2 c5] 81) ((J3 w5.heap.size w5).alloc nr (.cells #[.bool M,.slice a4 k1 c4,.slice a5 k2 c5] 81));have g0:=z5.out.cell 0;have g1:=z5.out.cell 1;have g2:=z5.out.cell 2;simp at g0 g1 g2;go_wp2_with fail;refine (g0Q _ _ _ _ _ (N5.out.call b5.out) (D5.out.call b5.out) L1.out L2.out).mono ?_;rintro e w6 ⟨⟨v6,rfl,hv6⟩,hb6⟩;obtain⟨z6,x6,y6,N6,D6,G6⟩:=kx (z5.out.call hb6) ((x5.out.call b5.out).call hb6) (a0a (a0a y5.out b5.out) hb6) ((N5.out.call b5.out).call hb6) ((D5.out.call b5.out).call hb6) hv6;clear hb6 hv6 g0 g1 g2;go_wp2_with fail;refine (m0I _).mono ?_;rintro e w7 ⟨⟨v7,rfl,hv7⟩,hb7⟩;obtain⟨z7,x7,y7,N7,D7,G7,O7⟩:=kq (z6.out.call hb7) (x6.out.call hb7) (a0a y6.out hb7) (N6.out.call hb7) (D6.out.call hb7) (G6.out.call hb7) hv7;clear hb7 hv7;go_wp2_with fail;refine (b0j _ _ _ _ _ G7.out O7.out).mono ?_;rintro e w8 ⟨rfl,hb8⟩;obtain⟨z8,x8,y8,N8,D8⟩:=zf (z7.out.call hb8) (x7.out.call hb8) (a0a y7.out hb8) (N7.out.call hb8) (D7.out.call hb8);clear hb8;have d0:=x8.out.cell 0;have d1:=x8.out.cell 1;have d2:=x8.out.cell 2;have e0:=x8.out.free 0;have e1:=x8.out.free 1;have e2:=x8.out.free 2;have g0:=z8.out.cell 0;have g1:=z8.out.cell 1;have g2:=z8.out.cell 2;simp at d0 d1 d2 g0 g1 g2;by_cases hG:Nat.gcd (bN D) (bN B)=1
 .have hO:b0e (Nat.gcd (dv D.data.toList) (dv B.data.toList)) 1=0:=by rw[show Nat.gcd (dv D.data.toList) (dv B.data.toList)=1 from hG];exact c0K
  have X0:=hid (show xc=0 from by rw[<- HXC.out,U0 hG]);rw[hO];clear hO hG;go_wp2_with fail;obtain⟨s1,s2⟩:=d0k x8.out M a4 a5 k1 c4 k2 c5;have f0:=s2.cell 0;have f1:=s2.cell 1;have f2:=s2.cell 2;simp at f0 f1 f2;refine J6 (v:=.tuple #[.agg #[.bool M,.slice a4 k1 c4,.slice a5 k2 c5],.int .i64 0]) (by simp[results,Ks,go_sem,f0,f1,f2]) rfl ⟨by rw[X0.out];exact⟨_,rfl,fun _=>⟨_,_,rfl,s1 _ _ _ N8.out,s1 _ _ _ D8.out,F4.out,F5.out⟩,fun h=>absurd rfl h⟩,?_⟩;exact ((y8.out.setCell nr _).setCell nr _).setCell nr _
 .have hO:(b0e (Nat.gcd (dv D.data.toList) (dv B.data.toList)) 1 != 0)=true:=by
   have hG':¬ Nat.gcd (dv D.data.toList) (dv B.data.toList)=1:=hG;unfold b0e
   split
   .rfl
   .split
    .rfl
    .omega
  have X0:=hid (show xc=3 from by rw[<- HXC.out,Q0 hG]);obtain⟨t,ht⟩:=gn (b0e (Nat.gcd (dv D.data.toList) (dv B.data.toList)) 1);rw[ht]at hO |-;clear ht hG;go_wp2_with fail;obtain⟨s1,s2⟩:=d0k x8.out false none none 0 0 0 0;have f0:=s2.cell 0;have f1:=s2.cell 1;have f2:=s2.cell 2;simp at f0 f1 f2;refine J6 (v:=.tuple #[.agg #[.bool false,.slice none 0 0,.slice none 0 0],.int .i64 3]) (by simp[results,Ks,go_sem,f0,f1,f2]) rfl ⟨by rw[X0.out];exact RetRF.err (by decide),?_⟩;exact ((y8.out.setCell nr _).setCell nr _).setCell nr _
def p0U (w:World)(s W B D:ByteArray)(M fb:Bool)(k:Nat)(hs:s.size<=1000000)(HC:CutR s W B D false M true fb k)
 (hl1:¬ 4000<D.size) (hd1:allDig D.data.toList):
 Calls Tryz.prog 71 #[.string s] w fun e w'=>RetRF w.heap.size 0 M (bN D) 1 e w'/\Below w.heap.size w w':=by
 have HK:=hid HC;have kle:=HC.kle;have hlt:=HC.has;obtain⟨cw,cb⟩:=zg HC.cutW HC.cutB;clear HC;obtain⟨t0,t1⟩:=zg (Blk.new w #[.bool false,.slice none 0 0,.slice none 0 0] 81) ((J3 w.heap.size w).alloc nr (.cells #[.bool false,.slice none 0 0,.slice none 0 0] 81));have q0:=hlt.symm;clear hlt;have q1:decide ((4000:Int)<(D.size:Int))=false:=by simp;omega
 have L1:=hid (e0W hd1 hl1);have L2:Hid ((limbs 1).length<=1000000):=by show _<=_;rw[c0R];decide
 have P1:=fun W=>hid (d0H W D hd1 (by omega))
 have P2:∀ W,Hid (Calls Tryz.prog 151 #[.string ⟨#[49]⟩] W fun e w'=>RetFr W.heap.size .i64 1 e w'/\Below W.heap.size W w'):=fun W=>hid (d0H W ⟨#[49]⟩ (by intro b hb;simp at hb;subst hb;rfl) (Nu (J5 _)))
 have hO:b0e (Nat.gcd (dv D.data.toList) 1) 1=0:=by rw[Nk];exact c0K
 have HO:=hid hO;clear hd1 hl1 hO;go_enter Tryz.func71,Tryz.ntmps71
 go_wp2_with (first
  | (go_at_call 171;refine (HK.out.sl _).mono ?_;rintro e w1 ⟨rfl,rfl⟩)
  | (go_at_call 172;rw[cw.out];refine (HK.out.int _).mono ?_;rintro e w2 ⟨rfl,rfl⟩)
  | (go_at_call 173;(first | rw[cb.out trivial] | rw[cb.out rfl]);refine (HK.out.form _).mono ?_;rintro e w3 ⟨rfl,rfl⟩)
  | fail)
 refine (P1 _).out.mono ?_;rintro e w4 ⟨⟨v4,rfl,hv4,hf4⟩,hb4⟩;obtain⟨F4,x4,y4,N4⟩:=zd (fun g hg=>E0 t1.out.size (hf4 g hg)) (t0.out.call hb4) (a0a t1.out hb4) hv4;clear hb4 hv4 hf4;obtain⟨a4,c4,rfl,_⟩:=N4.out.openI;obtain⟨k1,hk1⟩:=gn ((limbs (dv D.data.toList)).length);rw[hk1]at N4 F4 |-;clear P1;go_wp2_with fail;refine (P2 _).out.mono ?_;rintro e w5 ⟨⟨v5,rfl,hv5,hf5⟩,hb5⟩;obtain⟨F5,x5,y5,N5,D5⟩:=zf (fun g hg=>E0 y4.out.size (hf5 g hg)) (x4.out.call hb5) (a0a y4.out hb5) (N4.out.call hb5) hv5;clear hb5 hv5 hf5;obtain⟨a5,c5,rfl,_⟩:=D5.out.openI;obtain⟨k2,hk2⟩:=gn ((limbs 1).length);rw[hk2]at D5 F5 |-;clear P2;go_wp2_with fail;obtain⟨z5,b5⟩:=zg (Blk.new w5 #[.bool M,.slice a4 k1 c4,.slice a5 k2 c5] 81) ((J3 w5.heap.size w5).alloc nr (.cells #[.bool M,.slice a4 k1 c4,.slice a5 k2 c5] 81));have g0:=z5.out.cell 0;have g1:=z5.out.cell 1;have g2:=z5.out.cell 2;simp at g0 g1 g2;go_wp2_with fail;refine (g0Q _ _ _ _ _ (N5.out.call b5.out) (D5.out.call b5.out) L1.out L2.out).mono ?_;rintro e w6 ⟨⟨v6,rfl,hv6⟩,hb6⟩;obtain⟨z6,x6,y6,N6,D6,G6⟩:=kx (z5.out.call hb6) ((x5.out.call b5.out).call hb6) (a0a (a0a y5.out b5.out) hb6) ((N5.out.call b5.out).call hb6) ((D5.out.call b5.out).call hb6) hv6;clear hb6 hv6 g0 g1 g2;go_wp2_with fail;refine (m0I _).mono ?_;rintro e w7 ⟨⟨v7,rfl,hv7⟩,hb7⟩;obtain⟨z7,x7,y7,N7,D7,G7,O7⟩:=kq (z6.out.call hb7) (x6.out.call hb7) (a0a y6.out hb7) (N6.out.call hb7) (D6.out.call hb7) (G6.out.call hb7) hv7;clear hb7 hv7;go_wp2_with fail;refine (b0j _ _ _ _ _ G7.out O7.out).mono ?_;rintro e w8 ⟨rfl,hb8⟩;obtain⟨z8,x8,y8,N8,D8⟩:=zf (z7.out.call hb8) (x7.out.call hb8) (a0a y7.out hb8) (N7.out.call hb8) (D7.out.call hb8);clear hb8;have d0:=x8.out.cell 0;have d1:=x8.out.cell 1;have d2:=x8.out.cell 2;have e0:=x8.out.free 0;have e1:=x8.out.free 1;have e2:=x8.out.free 2;have g0:=z8.out.cell 0;have g1:=z8.out.cell 1;have g2:=z8.out.cell 2;simp at d0 d1 d2 g0 g1 g2;rw[HO.out];go_wp2_with fail;obtain⟨s1,s2⟩:=d0k x8.out M a4 a5 k1 c4 k2 c5;have f0:=s2.cell 0;have f1:=s2.cell 1;have f2:=s2.cell 2;simp at f0 f1 f2;refine J6 (v:=.tuple #[.agg #[.bool M,.slice a4 k1 c4,.slice a5 k2 c5],.int .i64 0]) (by simp[results,Ks,go_sem,f0,f1,f2]) rfl ⟨⟨_,rfl,fun _=>⟨_,_,rfl,s1 _ _ _ N8.out,s1 _ _ _ D8.out,F4.out,F5.out⟩,fun h=>absurd rfl h⟩,?_⟩;exact ((y8.out.setCell nr _).setCell nr _).setCell nr _
theorem RetRF.ret {B:Nat}{x:Int}{m:Bool}{n d:Nat}{e:Ending}{w':World}(h:RetRF B x m n d e w'):RetR x m n d e w':=by
 obtain⟨v,h1,h2,h3⟩:=h;refine⟨v,h1,fun h=>?_,h3⟩;obtain⟨N,D,k1,k2,k3,-,-⟩:=h2 h;exact⟨N,D,k1,k2,k3⟩
def w0O (w:World)(s W B D:ByteArray)(M:Bool)(k:Nat)(hs:s.size<=1000000)(HC:CutR s W B D true M true true k)
 (h1:¬ D=⟨#[48]⟩) (h2:¬ B=⟨#[48]⟩) (h3:¬ B=⟨#[49]⟩) (hl1:¬ 4000<D.size) (hl2:¬ 4000<B.size) (hd1:allDig D.data.toList) (hd2:allDig B.data.toList):
 Calls Tryz.prog 71 #[.string s] w fun e w'=>RetR (if Nat.gcd (bN D) (bN B)=1 then 0 else 3) M (bN D) (bN B) e w'/\Below w.heap.size w w':=
 (m0C w s W B D M k hs HC h1 h2 h3 hl1 hl2 hd1 hd2).mono fun _ _ h=>⟨h.1.ret,h.2⟩
def z0y (w:World)(s W B D:ByteArray)(M fb:Bool)(k:Nat)(hs:s.size<=1000000)(HC:CutR s W B D false M true fb k)
 (hl1:¬ 4000<D.size) (hd1:allDig D.data.toList):
 Calls Tryz.prog 71 #[.string s] w fun e w'=>RetR 0 M (bN D) 1 e w'/\Below w.heap.size w w':=
 (p0U w s W B D M fb k hs HC hl1 hd1).mono fun _ _ h=>⟨h.1.ret,h.2⟩
def i0G (w:World)(s:ByteArray)(hs:s.size<=1000000):
 Calls Tryz.prog 71 #[.string s] w fun e w'=>RetR (qE s) (iM (cW s)) (bN (iD (cW s))) (bN (qD s)) e w'/\Below w.heap.size w w':=by
 have HC:=s0i s (by omega);by_cases hq:qB s=true
 .have hi:=c0p hq;rw[hi]at HC;have hdD:=e0P (d0e hi);have hcS:cS s=false\/(cS s=true/\¬ iD (cW s)=⟨#[48]⟩/\¬ cB s=⟨#[48]⟩/\¬ cB s=⟨#[49]⟩/\fB (cB s)=true):=by
   have hq':=hq;unfold qB at hq';simp only[I9,M9,Au,S5]at hq';rcases hq'.2 with h | h
   .exact .inl h
   .cases hc:cS s
    .exact .inl rfl
    .exact .inr ⟨rfl,h.1.1.1,h.1.2,h.2,h.1.1.2⟩
  by_cases hl:qL s=true
  .have e:qE s=5:=by simp[qE,hq,hl]
   rw[e];unfold qL at hl;simp only[M9,S5]at hl;refine (w0N w s _ _ _ _ _ _ _ (by omega) HC hcS ?_).mono ?_
   .by_cases h4:4000<(iD (cW s)).size
    .exact .inl h4
    .refine .inr ⟨h4,?_⟩;rcases hcS with hc | ⟨hc,-⟩
     .rw[d0I hc]at hl;exact absurd (hl.resolve_left h4) (by decide)
     .rw[c0i hc]at hl;exact⟨hc,hl.resolve_left h4⟩
   .rintro e w' ⟨rfl,hb⟩;exact⟨RetR.err (by decide),hb⟩
  .have hl':qL s=false:=by simpa using hl
   have hl1:¬ 4000<(iD (cW s)).size/\¬ 4000<(qD s).size:=by
    unfold qL at hl';simpa using hl'
   rcases hcS with hc | ⟨hc,h1,h2,h3,h4⟩
   .rw[hc]at HC;have e:qE s=0:=by simp[qE,hq,hl',qG,hc]
    rw[e,d0I hc];exact z0y w s _ _ _ _ _ _ hs HC hl1.1 hdD
   .rw[hc,h4]at HC;have hl2:=hl1.2;rw[c0i hc]at hl2;have e:qE s=if Nat.gcd (bN (iD (cW s))) (bN (cB s))=1 then 0 else 3:=by
     simp only[qE,hq,hl',qG,hc,c0i hc];by_cases hg:Nat.gcd (bN (iD (cW s))) (bN (cB s))=1<;>simp[hg]
    rw[e,c0i hc];exact w0O w s _ _ _ _ _ hs HC h1 h2 h3 hl1.1 hl2 hdD (e0P h4)
 .have hq':qB s=false:=by simpa using hq
  have e:qE s=3:=by simp[qE,hq']
  rw[e];refine (z0z w s _ _ _ _ _ _ _ _ (by omega) HC hq').mono ?_;rintro e w' ⟨rfl,hb⟩;exact⟨RetR.err (by decide),hb⟩
def RetQE (s:ByteArray)(e:Ending)(w':World):Prop:=∃ v,e=.returned (.tuple #[v,.int .i64 (qE s)])/\(qE s=0->IsQ .i64 w' v (vQ s))/\(qE s≠0->v=.agg #[.bool false,.slice none 0 0,.slice none 0 0])
def c0I (w:World)(s:ByteArray)(hs:s.size<=1000000):
 Calls Tryz.prog 71 #[.string s] w fun e w'=>RetQE s e w'/\Below w.heap.size w w':=by
 refine (i0G w s hs).mono ?_;rintro e w' ⟨⟨v,rfl,h1,h2⟩,hb⟩;refine⟨⟨v,rfl,fun h=>?_,h2⟩,hb⟩;obtain⟨N,D,rfl,hN,hD⟩:=h1 h;obtain⟨e1,e2,e3⟩:=i0t h;exact⟨N,D,by rw[e1],by rw[e2];exact hN,by rw[e3];exact hD⟩
end
section
open Go.RowKit
def w0U (w:World)(v:Value)(q:Rat)(h:IsQ .i64 w v q)(h0:q≠0):
 Calls Tryz.prog 121 #[v] w fun e w'=>j0C .i64 q⁻¹ e w'/\Below w.heap.size w w':=by
 obtain⟨N,D,rfl,hn,hd⟩:=h.ex;obtain⟨m,hm⟩:=gn (decide (q.num<0));obtain⟨HN,HD,HM,H0⟩:=zd hn hd hm h0;rw[hm];obtain⟨a1,c1,rfl,_⟩:=hn.openI;obtain⟨a2,c2,rfl,_⟩:=hd.openI;clear hn hd hm h0 h;go_enter Tryz.func121,Tryz.ntmps121;go_wp2_with fail;obtain⟨p1,p2,p3⟩:=h0h H0.out;have B:=((J3 w.heap.size w).alloc nr (.cells #[.bool m,.slice a1 (limbs q.num.natAbs).length c1,.slice a2 (limbs q.den).length c2] 81)).alloc (by simp) (.cells #[.bool m,.slice a2 (limbs q.den).length c2,.slice a1 (limbs q.num.natAbs).length c1] 81);refine J6 (v:=.agg #[.bool m,.slice a2 (limbs q.den).length c2,.slice a1 (limbs q.num.natAbs).length c1]) (by simp[results,Tryz.results121,go_sem]) rfl ⟨⟨_,rfl,⟨_,_,rfl.trans ?_,by rw[p2];exact HD.out.call B,by rw[p3];exact HN.out.call B⟩⟩,B⟩;rw[p1,HM.out]
def q0L {q:Rat}{m:Bool}(hm:decide (q.num<0)=m):decide ((-q).num<0)=(!m && decide (0<q.num.natAbs))/\(-q).num.natAbs=q.num.natAbs/\(-q).den=q.den:=by
 refine⟨?_,by rw[It,Ik],Mm q⟩;rw[It,<- hm,Bc];simp only[I9,Au,S5,F9];omega
def g0N (w:World)(v:Value)(q:Rat)(h:IsQ .i64 w v q):
 Calls Tryz.prog 76 #[v] w fun e w'=>j0C .i64 (-q) e w'/\Below w.heap.size w w':=by
 obtain⟨N,D,rfl,hn,hd⟩:=h.ex;obtain⟨m,hm⟩:=gn (decide (q.num<0));obtain⟨HN,HD,HP⟩:=zc hn hd (q0L hm);rw[hm];obtain⟨a1,c1,rfl,_⟩:=hn.openI;obtain⟨a2,c2,rfl,_⟩:=hd.openI;clear hn hd hm h;obtain⟨l,hl⟩:=gn ((limbs q.num.natAbs).length);have hz:decide (0<l)=decide (0<q.num.natAbs):=by
  have h1:l=0↔q.num.natAbs=0:=by rw[<- hl,Ct,b0O]
  exact Fr.2 (by omega)
 obtain⟨HZ,HL⟩:=zg hz hl;rw[hl];clear hz hl;go_enter Tryz.func76,Tryz.ntmps76;go_wp2_with fail
 all_goals
  obtain⟨p1,p2,p3⟩:=HP.out;rw[<- HZ.out]at p1;refine J6 (v:=.agg #[_,.slice a1 l c1,.slice a2 (limbs q.den).length c2]) (by simp[results,Tryz.results76,go_sem];rfl) rfl ⟨⟨_,rfl,⟨.slice a1 l c1,.slice a2 (limbs q.den).length c2,?_,?_,?_⟩⟩,?_⟩
  .rw[p1];clear HP HZ HL HN HD;simp_all
  .have hh:=HN.out;rw[HL.out]at hh;rw[p2];exact hh.call (((J3 w.heap.size w).alloc nr _).alloc (by simp) _)
  .rw[p3];exact HD.out.call (((J3 w.heap.size w).alloc nr _).alloc (by simp) _)
  .exact (((J3 w.heap.size w).alloc nr _).alloc (by simp) _)
def b1g (m1 m2:Bool)(x y:Nat)(m:Bool)(s:Nat):Prop:=
 (m1=m2/\m=m1/\s=x+y)\/((m1==m2)=false/\x<y/\m=m2/\s=y-x)\/((m1==m2)=false/\y<=x/\m=m1/\s=x-y)
def q0Z {a b p:Nat}(ha:(limbs a).length<=p)(hb:(limbs b).length<=p):(limbs (a+b)).length<=p+1:=by
 refine a0f.2 ?_;have h1:=a0f.1 ha;have h2:=a0f.1 hb;rw[M7];omega
def z0Q {x y:Nat}(h:y<=x):decide (b0e x y<0)=false:=by
 unfold b0e
 split
 .omega
 .split<;>simp
def k0g (w:World)(m1 m2 m:Bool)(N1 D1 N2 D2:Value)(n1 d1 n2 d2 s:Nat)(hn1:IsN .i64 w N1 n1)(hd1:IsN .i64 w D1 d1)(hn2:IsN .i64 w N2 n2)(hd2:IsN .i64 w D2 d2)
 (l1:(limbs n1).length<=100000) (l2:(limbs d1).length<=100000) (l3:(limbs n2).length<=100000) (l4:(limbs d2).length<=100000) (p1:0<d1) (p2:0<d2) (key:b1g m1 m2 (n1*d2) (n2*d1) m s):
 Calls Tryz.prog 75 #[.agg #[.bool m1,N1,D1],.agg #[.bool m2,N2,D2]] w fun e w'=>RetQF w.heap.size (qmk m s (d1*d2)) e w'/\Below w.heap.size w w':=by
 obtain⟨HN1,HD1,HN2,HD2,L1,L2,L3,H1,H2,H3,H4,hD⟩:=kg hn1 hd1 hn2 hd2 (E0 (a0G l1 l4) (show 100000+100000<=1000000 by omega)) (E0 (a0G l3 l2) (show 100000+100000<=1000000 by omega)) (E0 (a0G l2 l4) (show 100000+100000<=1000000 by omega)) (E0 l1 (show 100000<=1000000 by omega)) (E0 l2 (show 100000<=1000000 by omega)) (E0 l3 (show 100000<=1000000 by omega)) (E0 l4 (show 100000<=1000000 by omega)) (Eb p1 p2);have LS:Hid ((limbs s).length<=1000000):=by
  have q1:=a0G l1 l4;have q2:=a0G l3 l2;have q3:=q0Z q1 q2;have q4:(limbs s).length<=(limbs (n1*d2+n2*d1)).length:=a0h (by rcases key with ⟨-,-,rfl⟩ | ⟨-,-,-,rfl⟩ | ⟨-,-,-,rfl⟩<;>omega);show _<=_
  omega
 clear l1 l2 l3 l4 p1 p2;obtain⟨a1,c1,rfl,_⟩:=hn1.openI;obtain⟨a2,c2,rfl,_⟩:=hd1.openI;obtain⟨a3,c3,rfl,_⟩:=hn2.openI;obtain⟨a4,c4,rfl,_⟩:=hd2.openI;obtain⟨k1,hk1⟩:=gn ((limbs n1).length);obtain⟨k2,hk2⟩:=gn ((limbs d1).length);obtain⟨k3,hk3⟩:=gn ((limbs n2).length);obtain⟨k4,hk4⟩:=gn ((limbs d2).length);rw[hk1]at HN1 |-;rw[hk2]at HD1 |-;rw[hk3]at HN2 |-;rw[hk4]at HD2 |-;clear hn1 hd1 hn2 hd2 hk1 hk2 hk3 hk4;obtain⟨x,hx⟩:=gn (n1*d2);obtain⟨y,hy⟩:=gn (n2*d1);obtain⟨z,hz⟩:=gn (d1*d2);rw[hx,hy]at key;rw[hx]at L1;rw[hy]at L2;rw[hz]at hD L3 |-;obtain⟨HX,HY,HZ⟩:=zc hx hy hz;clear hx hy hz;unfold b1g at key;have KEY:=hid key;clear key;go_enter Tryz.func75,Tryz.ntmps75;go_wp2_with fail;obtain⟨W,hW⟩:=gn (((w.alloc (.cells #[.bool m1,.slice a1 k1 c1,.slice a2 k2 c2] 81)).alloc (.cells #[.bool m2,.slice a3 k3 c3,.slice a4 k4 c4] 81)).alloc (.cells #[.bool false,.slice none 0 0,.slice none 0 0] 81));rw[hW];have X0:Below w.heap.size w W:=by rw[<- hW];exact ((br0.alloc nr _).alloc (by simp) _).alloc (by simp;omega) _
 have Y0:Blk W w.heap.size #[.bool m1,.slice a1 k1 c1,.slice a2 k2 c2] 81:=by rw[<- hW];exact ((Blk.new w _ _).alloc _).alloc _
 have Y1:Blk W (w.heap.size+1) #[.bool m2,.slice a3 k3 c3,.slice a4 k4 c4] 81:=by rw[<- hW];exact (Blk.made (w.alloc _) _ _ (by simp)).alloc _
 have Y2:Blk W (w.heap.size+1+1) #[.bool false,.slice none 0 0,.slice none 0 0] 81:=by rw[<- hW];exact Blk.made ((w.alloc _).alloc _) _ _ (by simp)
 have K:Hid (∀ w',Below W.heap.size W w'->w'.cell? ⟨w.heap.size,0,none⟩=some (.bool m1)/\w'.cell? ⟨w.heap.size,1,none⟩=some (.slice a1 k1 c1)/\w'.cell? ⟨w.heap.size,2,none⟩=some (.slice a2 k2 c2)/\w'.cell? ⟨w.heap.size+1,0,none⟩=some (.bool m2)/\w'.cell? ⟨w.heap.size+1,1,none⟩=some (.slice a3 k3 c3)/\w'.cell? ⟨w.heap.size+1,2,none⟩=some (.slice a4 k4 c4)):=fun w' hb=>⟨(Y0.call hb).cell 0,(Y0.call hb).cell 1,(Y0.call hb).cell 2,(Y1.call hb).cell 0,(Y1.call hb).cell 1,(Y1.call hb).cell 2⟩
 obtain⟨HY0,HY1,HY2,HX0⟩:=zd Y0 Y1 Y2 X0;obtain⟨i0,i1,i2,i3,i4,i5⟩:=K W br0;clear Y0 Y1 Y2 X0 hW;obtain⟨XN1,XD1,XN2,XD2⟩:=zd (HN1.out.call HX0.out) (HD1.out.call HX0.out) (HN2.out.call HX0.out) (HD2.out.call HX0.out)
 go_region_held3 (fun w'=>w'.cell? ⟨w.heap.size,0,none⟩=some (.bool m1)/\w'.cell? ⟨w.heap.size,1,none⟩=some (.slice a1 k1 c1)/\w'.cell? ⟨w.heap.size,2,none⟩=some (.slice a2 k2 c2)/\w'.cell? ⟨w.heap.size+1,0,none⟩=some (.bool m2)/\w'.cell? ⟨w.heap.size+1,1,none⟩=some (.slice a3 k3 c3)/\w'.cell? ⟨w.heap.size+1,2,none⟩=some (.slice a4 k4 c4))
  (first
   | exact K.out _ br0.drew
   | exact K.out _ bb2.out
   | exact K.out _ bb1.out)
  (first
   | (go_at_call_of 176 (Value.slice a1 k1 c1);refine (b0n _ _ _ n1 d2 (XN1.out.call (by first | exact bb2.out | exact br0.drew)) (XD2.out.call (by first | exact bb2.out | exact br0.drew)) H1.out H4.out).mono ?_;rintro e w1 ⟨⟨v1,rfl,hv1⟩,hb1⟩;have bb1:=hid (a0a (by first | exact bb2.out | exact br0.drew) hb1))
   | (go_at_call_of 176 (Value.slice a3 k3 c3);refine (b0n _ _ _ n2 d1 (XN2.out.call (by first | exact bb1.out | exact br0.drew)) (XD1.out.call (by first | exact bb1.out | exact br0.drew)) H3.out H2.out).mono ?_;rintro e w2 ⟨⟨v2,rfl,hv2⟩,hb2⟩;have bb2:=hid (a0a (by first | exact bb1.out | exact br0.drew) hb2)))
 obtain⟨V2,V1⟩:=zg hv2 (hv1.call hb2);rw[HX.out]at V1;rw[HY.out]at V2;clear hv1 hv2 hb1 hb2 i0 i1 i2 i3 i4 i5;obtain⟨i0,i1,i2,i3,i4,i5⟩:=K.out _ bb2.out;go_wp2_with fail;refine (b0n _ _ _ d1 d2 (XD1.out.call bb2.out) (XD2.out.call bb2.out) H2.out H4.out).mono ?_;rintro e w3 ⟨⟨v3,rfl,hv3⟩,hb3⟩;have bb3:=hid (a0a bb2.out hb3);rw[HZ.out]at hv3;obtain⟨V3,V1',V2'⟩:=zc hv3 (V1.out.call hb3) (V2.out.call hb3);clear hv3 hb3 i0 i1 i2 i3 i4 i5 V1 V2;obtain⟨i0,i1,i2,i3,i4,i5⟩:=K.out _ bb3.out;obtain⟨ja1,jc1,rfl,_⟩:=V1'.out.openI;obtain⟨ja2,jc2,rfl,_⟩:=V2'.out.openI;obtain⟨ja3,jc3,rfl,_⟩:=V3.out.openI;obtain⟨jk1,hj1⟩:=gn ((limbs x).length);obtain⟨jk2,hj2⟩:=gn ((limbs y).length);obtain⟨jk3,hj3⟩:=gn ((limbs z).length);rw[hj1]at V1' |-;rw[hj2]at V2' |-;rw[hj3]at V3 |-;clear hj1 hj2 hj3;have K2:Hid (∀ w1 x y z,Below W.heap.size W w1->∀ w',((w1.setCell ⟨w.heap.size+1+1,0,none⟩ x).setCell ⟨w.heap.size+1+1,1,none⟩ y).setCell ⟨w.heap.size+1+1,2,none⟩ z=w'->w'.cell? ⟨w.heap.size,0,none⟩=some (.bool m1)/\w'.cell? ⟨w.heap.size,1,none⟩=some (.slice a1 k1 c1)/\w'.cell? ⟨w.heap.size,2,none⟩=some (.slice a2 k2 c2)/\w'.cell? ⟨w.heap.size+1,0,none⟩=some (.bool m2)/\w'.cell? ⟨w.heap.size+1,1,none⟩=some (.slice a3 k3 c3)/\w'.cell? ⟨w.heap.size+1,2,none⟩=some (.slice a4 k4 c4)):=by
  rintro w1 x y z hb _ rfl;have Z0:=(((HY0.out.call hb).other (a:=⟨w.heap.size+1+1,0,none⟩) (by simp;omega) x).other (a:=⟨w.heap.size+1+1,1,none⟩) (by simp;omega) y).other (a:=⟨w.heap.size+1+1,2,none⟩) (by simp;omega) z;have Z1:=(((HY1.out.call hb).other (a:=⟨w.heap.size+1+1,0,none⟩) (by simp) x).other (a:=⟨w.heap.size+1+1,1,none⟩) (by simp) y).other (a:=⟨w.heap.size+1+1,2,none⟩) (by simp) z;exact⟨Z0.cell 0,Z0.cell 1,Z0.cell 2,Z1.cell 0,Z1.cell 1,Z1.cell 2⟩
 have key:=KEY.out;clear KEY;rcases key with ⟨rfl,rfl,rfl⟩ | ⟨hne,hlt,rfl,rfl⟩ | ⟨hne,hle,rfl,rfl⟩
 focus
  go_wp2_with fail
  go_region_held3 (fun w'=>w'.cell? ⟨w.heap.size,0,none⟩=some (.bool m)/\w'.cell? ⟨w.heap.size,1,none⟩=some (.slice a1 k1 c1)/\w'.cell? ⟨w.heap.size,2,none⟩=some (.slice a2 k2 c2)/\w'.cell? ⟨w.heap.size+1,0,none⟩=some (.bool m)/\w'.cell? ⟨w.heap.size+1,1,none⟩=some (.slice a3 k3 c3)/\w'.cell? ⟨w.heap.size+1,2,none⟩=some (.slice a4 k4 c4))
   (first
    | exact K.out _ (by first | exact bb3.out.drew | exact a0m bb3.out _)
    | exact K2.out _ _ _ _ bb6.out _ rfl
    | exact K.out _ bb6.out
    | exact K.out _ bb5.out)
   (first
    | (go_at_call 150;refine (d0a _ _ _ x y (V1'.out.call (by first | exact br0.drew | exact a0m br0 _ | exact J3 _ _)) (V2'.out.call (by first | exact br0.drew | exact a0m br0 _ | exact J3 _ _)) L1.out L2.out).mono ?_;rintro e w5 ⟨⟨v5,rfl,hv5⟩,hb5⟩;have bb5:=hid (a0a (by first | exact bb3.out.drew | exact a0m bb3.out _ | exact bb3.out) hb5);have V5:=hid hv5;have Z5:=hid ((V3.out.call br0.drew).call hb5))
    | (go_at_call 175;refine (d0G _ _ _ _ (x+y) z V5.out Z5.out hD.out LS.out L3.out).mono ?_;rintro e w6 ⟨⟨v6,rfl,hv6⟩,hb6⟩;obtain⟨N6,D6,rfl,hN6,hD6,fN6,fD6⟩:=hv6;have bb6:=hid (a0a bb5.out hb6);obtain⟨a5,c5,rfl,_⟩:=hN6.openI;obtain⟨a6,c6,rfl,_⟩:=hD6.openI;have HN6:=hid hN6;have HD6:=hid hD6;have Z:=hid (HY2.out.call bb6.out);have t0:=Z.out.cell 0;have t1:=Z.out.cell 1;have t2:=Z.out.cell 2;have t3:=Z.out.free 0;have t4:=Z.out.free 1;have t5:=Z.out.free 2;have FN6:=hid (fun g e=>E0 HX0.out.size (E0 bb5.out.size (fN6 g e)));have FD6:=hid (fun g e=>E0 HX0.out.size (E0 bb5.out.size (fD6 g e)));clear hN6 hD6 fN6 fD6))
  go_wp2_with fail;obtain⟨s1,s2⟩:=d0k Z.out (decide ((qmk m (x+y) z).num<0)) a5 a6 (limbs (qmk m (x+y) z).num.natAbs).length c5 (limbs (qmk m (x+y) z).den).length c6;have f0:=s2.cell 0;have f1:=s2.cell 1;have f2:=s2.cell 2;simp at f0 f1 f2;refine J6 (v:=.agg #[.bool (decide ((qmk m (x+y) z).num<0)),.slice a5 (limbs (qmk m (x+y) z).num.natAbs).length c5,.slice a6 (limbs (qmk m (x+y) z).den).length c6]) (by simp[results,Tryz.results75,go_sem,f0,f1,f2]) rfl ⟨⟨_,rfl,⟨_,_,rfl,s1 _ _ _ HN6.out,s1 _ _ _ HD6.out,FN6.out,FD6.out⟩⟩,?_⟩
 rotate_left
 focus
  obtain⟨HLT,HLE⟩:=zg hlt (Dc hlt);clear hlt;go_wp2_with fail;refine (b0j _ _ _ x y V1'.out V2'.out).mono ?_;rintro e w4 ⟨rfl,hb4⟩;obtain⟨bb4,W1,W2,W3⟩:=zd (a0a bb3.out hb4) (V1'.out.call hb4) (V2'.out.call hb4) (V3.out.call hb4);clear hb4 i0 i1 i2 i3 i4 i5;obtain⟨i0,i1,i2,i3,i4,i5⟩:=K.out _ bb4.out;rw[b0H HLT.out];go_wp2_with fail
  go_region_held3 (fun w'=>w'.cell? ⟨w.heap.size,0,none⟩=some (.bool m1)/\w'.cell? ⟨w.heap.size,1,none⟩=some (.slice a1 k1 c1)/\w'.cell? ⟨w.heap.size,2,none⟩=some (.slice a2 k2 c2)/\w'.cell? ⟨w.heap.size+1,0,none⟩=some (.bool m)/\w'.cell? ⟨w.heap.size+1,1,none⟩=some (.slice a3 k3 c3)/\w'.cell? ⟨w.heap.size+1,2,none⟩=some (.slice a4 k4 c4))
   (first
    | exact K.out _ (by first | exact bb4.out.drew | exact a0m bb4.out _)
    | exact K2.out _ _ _ _ bb6.out _ rfl
    | exact K.out _ bb6.out
    | exact K.out _ bb5.out)
   (first
    | (go_at_call 177;refine (e0B _ _ _ y x (W2.out.call (by first | exact br0.drew | exact a0m br0 _ | exact J3 _ _)) (W1.out.call (by first | exact br0.drew | exact a0m br0 _ | exact J3 _ _)) HLE.out L2.out).mono ?_;rintro e w5 ⟨⟨v5,rfl,hv5⟩,hb5⟩;have bb5:=hid (a0a (by first | exact bb4.out.drew | exact a0m bb4.out _ | exact bb4.out) hb5);have V5:=hid hv5;have Z5:=hid ((W3.out.call br0.drew).call hb5))
    | (go_at_call 175;refine (d0G _ _ _ _ (y-x) z V5.out Z5.out hD.out LS.out L3.out).mono ?_;rintro e w6 ⟨⟨v6,rfl,hv6⟩,hb6⟩;obtain⟨N6,D6,rfl,hN6,hD6,fN6,fD6⟩:=hv6;have bb6:=hid (a0a bb5.out hb6);obtain⟨a5,c5,rfl,_⟩:=hN6.openI;obtain⟨a6,c6,rfl,_⟩:=hD6.openI;have HN6:=hid hN6;have HD6:=hid hD6;have Z:=hid (HY2.out.call bb6.out);have t0:=Z.out.cell 0;have t1:=Z.out.cell 1;have t2:=Z.out.cell 2;have t3:=Z.out.free 0;have t4:=Z.out.free 1;have t5:=Z.out.free 2;have FN6:=hid (fun g e=>E0 HX0.out.size (E0 bb5.out.size (fN6 g e)));have FD6:=hid (fun g e=>E0 HX0.out.size (E0 bb5.out.size (fD6 g e)));clear hN6 hD6 fN6 fD6))
  go_wp2_with fail;obtain⟨s1,s2⟩:=d0k Z.out (decide ((qmk m (y-x) z).num<0)) a5 a6 (limbs (qmk m (y-x) z).num.natAbs).length c5 (limbs (qmk m (y-x) z).den).length c6;have f0:=s2.cell 0;have f1:=s2.cell 1;have f2:=s2.cell 2;simp at f0 f1 f2;refine J6 (v:=.agg #[.bool (decide ((qmk m (y-x) z).num<0)),.slice a5 (limbs (qmk m (y-x) z).num.natAbs).length c5,.slice a6 (limbs (qmk m (y-x) z).den).length c6]) (by simp[results,Tryz.results75,go_sem,f0,f1,f2]) rfl ⟨⟨_,rfl,⟨_,_,rfl,s1 _ _ _ HN6.out,s1 _ _ _ HD6.out,FN6.out,FD6.out⟩⟩,?_⟩
 rotate_left
 focus
  have HLE:=hid hle;clear hle;go_wp2_with fail;refine (b0j _ _ _ x y V1'.out V2'.out).mono ?_;rintro e w4 ⟨rfl,hb4⟩;obtain⟨bb4,W1,W2,W3⟩:=zd (a0a bb3.out hb4) (V1'.out.call hb4) (V2'.out.call hb4) (V3.out.call hb4);clear hb4 i0 i1 i2 i3 i4 i5;obtain⟨i0,i1,i2,i3,i4,i5⟩:=K.out _ bb4.out;obtain⟨t,ht⟩:=gn (b0e x y);have q7:decide (t<0)=false:=by rw[<- ht];exact z0Q HLE.out
  rw[ht];clear ht;go_wp2_with fail
  go_region_held3 (fun w'=>w'.cell? ⟨w.heap.size,0,none⟩=some (.bool m)/\w'.cell? ⟨w.heap.size,1,none⟩=some (.slice a1 k1 c1)/\w'.cell? ⟨w.heap.size,2,none⟩=some (.slice a2 k2 c2)/\w'.cell? ⟨w.heap.size+1,0,none⟩=some (.bool m2)/\w'.cell? ⟨w.heap.size+1,1,none⟩=some (.slice a3 k3 c3)/\w'.cell? ⟨w.heap.size+1,2,none⟩=some (.slice a4 k4 c4))
   (first
    | exact K.out _ (by first | exact bb4.out.drew | exact a0m bb4.out _)
    | exact K2.out _ _ _ _ bb6.out _ rfl
    | exact K.out _ bb6.out
    | exact K.out _ bb5.out)
   (first
    | (go_at_call 177;refine (e0B _ _ _ x y (W1.out.call (by first | exact br0.drew | exact a0m br0 _ | exact J3 _ _)) (W2.out.call (by first | exact br0.drew | exact a0m br0 _ | exact J3 _ _)) HLE.out L1.out).mono ?_;rintro e w5 ⟨⟨v5,rfl,hv5⟩,hb5⟩;have bb5:=hid (a0a (by first | exact bb4.out.drew | exact a0m bb4.out _ | exact bb4.out) hb5);have V5:=hid hv5;have Z5:=hid ((W3.out.call br0.drew).call hb5))
    | (go_at_call 175;refine (d0G _ _ _ _ (x-y) z V5.out Z5.out hD.out LS.out L3.out).mono ?_;rintro e w6 ⟨⟨v6,rfl,hv6⟩,hb6⟩;obtain⟨N6,D6,rfl,hN6,hD6,fN6,fD6⟩:=hv6;have bb6:=hid (a0a bb5.out hb6);obtain⟨a5,c5,rfl,_⟩:=hN6.openI;obtain⟨a6,c6,rfl,_⟩:=hD6.openI;have HN6:=hid hN6;have HD6:=hid hD6;have Z:=hid (HY2.out.call bb6.out);have t0:=Z.out.cell 0;have t1:=Z.out.cell 1;have t2:=Z.out.cell 2;have t3:=Z.out.free 0;have t4:=Z.out.free 1;have t5:=Z.out.free 2;have FN6:=hid (fun g e=>E0 HX0.out.size (E0 bb5.out.size (fN6 g e)));have FD6:=hid (fun g e=>E0 HX0.out.size (E0 bb5.out.size (fD6 g e)));clear hN6 hD6 fN6 fD6))
  go_wp2_with fail;obtain⟨s1,s2⟩:=d0k Z.out (decide ((qmk m (x-y) z).num<0)) a5 a6 (limbs (qmk m (x-y) z).num.natAbs).length c5 (limbs (qmk m (x-y) z).den).length c6;have f0:=s2.cell 0;have f1:=s2.cell 1;have f2:=s2.cell 2;simp at f0 f1 f2;refine J6 (v:=.agg #[.bool (decide ((qmk m (x-y) z).num<0)),.slice a5 (limbs (qmk m (x-y) z).num.natAbs).length c5,.slice a6 (limbs (qmk m (x-y) z).den).length c6]) (by simp[results,Tryz.results75,go_sem,f0,f1,f2]) rfl ⟨⟨_,rfl,⟨_,_,rfl,s1 _ _ _ HN6.out,s1 _ _ _ HD6.out,FN6.out,FD6.out⟩⟩,?_⟩
 all_goals
  exact (((HX0.out.trans (bb6.out.mono (E0 nr HX0.out.size))).setCell (by simp;omega) _).setCell (by simp;omega) _).setCell (by simp;omega) _
def t0w (w:World)(v u:Value)(p q:Rat)(hp:IsQ .i64 w v p)(hq:IsQ .i64 w u q)
 (h1:(limbs p.num.natAbs).length<=100000) (h2:(limbs p.den).length<=100000) (h3:(limbs q.num.natAbs).length<=100000) (h4:(limbs q.den).length<=100000):
 Calls Tryz.prog 75 #[v,u] w fun e w'=>RetQF w.heap.size (p+q) e w'/\Below w.heap.size w w':=by
 obtain⟨N1,D1,rfl,hn1,hd1⟩:=hp.ex;obtain⟨N2,D2,rfl,hn2,hd2⟩:=hq.ex;have he:=q0e p q;have hw:=fun m s key=>k0g w (decide (p.num<0)) (decide (q.num<0)) m N1 D1 N2 D2 _ _ _ _ s hn1 hd1 hn2 hd2 h1 h2 h3 h4 p.den_pos q.den_pos key
 rw[he];generalize decide (p.num<0)=m1 at *
 generalize decide (q.num<0)=m2 at *
 by_cases hm:m1=m2
 .subst hm;rw[m0v];exact hw m1 _ (.inl ⟨rfl,rfl,rfl⟩)
 .have hm':(m1==m2)=false:=by simpa using hm
  rcases Cz (p.num.natAbs*q.den) (q.num.natAbs*p.den) with hl | hl
  .rw[m0y hm hl];exact hw m2 _ (.inr (.inl ⟨hm',hl,rfl,rfl⟩))
  .rw[m0x hm hl];exact hw m1 _ (.inr (.inr ⟨hm',hl,rfl,rfl⟩))
def p0X (w:World)(v u:Value)(p q:Rat)(hp:IsQ .i64 w v p)(hq:IsQ .i64 w u q)
 (h1:(limbs p.num.natAbs).length<=100000) (h2:(limbs p.den).length<=100000) (h3:(limbs q.num.natAbs).length<=100000) (h4:(limbs q.den).length<=100000):
 Calls Tryz.prog 75 #[v,u] w fun e w'=>j0C .i64 (p+q) e w'/\Below w.heap.size w w':=
 (t0w w v u p q hp hq h1 h2 h3 h4).mono fun _ _ h=>⟨h.1.ret,h.2⟩
end
end Go.Proofs.YtfkpfpobmobnbaaGreatDoor
