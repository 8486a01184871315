import Derived.Test.YtfkpfpobmobnbaaGreatDoorPb4
import Derived.Sort.KeysCollected
import Derived.Maps.StringElems
import Derived.Lib.ItoaMem
set_option linter.all false
set_option maxRecDepth 100000
set_option maxHeartbeats 8000000
namespace Go.Proofs.YtfkpfpobmobnbaaGreatDoor
open Go.Proofs.Tryz Go.RowKit
open Go.Lib (decDigits nDigits)
def i0f (N D:Nat)(two:Bool)(l:List UInt8):Option Int:=match s1 N D l 0 0 with
 | none=>none
 | some (x,p)=>if two=true then (match s1 N D (l.drop p) 0 0 with | none=>none | some (y,_)=>some ((x:Int)-(y:Int))) else some (x:Int)
def gV (N D:Nat)(two:Bool)(n:Nat)(v:Int):Nat:=cw n fun l=>decide (i0f N D two l=some v)
def gL (N D:Nat)(two:Bool)(n:Nat):Nat:=cw n fun l=>decide (i0f N D two l=none)
theorem m0d {N D:Nat}(h:N<D){l:List UInt8}{x p:Nat}(hs:s1 N D l 0 0=some (x,p)):p<=l.length/\x<=l.length:=by
 have:=o0Z h l.length 0 0 x p (K5 _) (by omega) hs;omega
theorem i0V {N D:Nat}(h:N<D){two:Bool}{l:List UInt8}{v:Int}(hv:i0f N D two l=some v) : -(l.length:Int)<=v/\v<=l.length:=by
 unfold i0f at hv;cases hs:s1 N D l 0 0 with
 | none=>rw[hs]at hv;cases hv
 | some xp=>
  obtain⟨x,p⟩:=xp;obtain⟨b1,b2⟩:=m0d h hs;rw[hs]at hv;cases two
  .simp at hv;omega
  .simp only[Ew]at hv;cases hs2:s1 N D (l.drop p) 0 0 with
   | none=>rw[hs2]at hv;cases hv
   | some yq=>
    obtain⟨y,q⟩:=yq;obtain⟨b3,b4⟩:=m0d h hs2;rw[hs2]at hv;rw[Af]at b4;simp at hv;omega
def m0M {n:Nat}{P:List UInt8->Bool}(h:∀ l,l.length=n->P l=false):cw n P=0:=by
 rw[a0E (Q:=fun _=>false) h,c0s]
def d0M {N D:Nat}(h:N<D){two:Bool}{n:Nat}{v:Int}(hv:v < -(n:Int)\/(n:Int)<v):gV N D two n v=0:=by
 refine m0M fun l hl=>Z6 fun e=>?_
 have:=i0V h e;omega
def w0O (N D n:Nat)(v:Int):gV N D false n v=if 0<=v then cw n (h0Z N D v.toNat) else 0:=by
 unfold gV
 split
 .rename_i h0
  refine a0E fun l hl=>?_
  unfold i0f h0Z;cases s1 N D l 0 0 with
  | none=>rfl
  | some xp=>
   obtain⟨x,p⟩:=xp;simp only[Bn,Eh];rw[Gc,Az];omega
 .rename_i h0
  refine m0M fun l hl=>Z6 fun e=>?_
  unfold i0f at e;cases hs:s1 N D l 0 0 with
  | none=>rw[hs]at e;cases e
  | some xp=>rw[hs]at e;simp at e;omega
theorem g0m {α : Type}(g : α->Option (Nat×Nat))(Q:Nat->Nat->Bool)(M:Nat):∀ L:List α,(∀ x∈L,∀ i k,g x=some (i,k)->i<M/\k<M) ->
 L.countP (fun x=>match g x with | none=>false | some p=>Q p.1 p.2)=a0m (fun i=>a0m (fun k=>if Q i k=true then L.countP (fun x=>decide (g x=some (i,k))) else 0) M) M
 | [],_=>by
  have h2:∀ i,a0m (fun k=>if Q i k=true then ([]:List α).countP (fun x=>decide (g x=some (i,k))) else 0) M=0:=fun i=>by
   rw[a0d (d:=fun _=>0) (fun k _=>by simp),a0F]
  rw[a0d (d:=fun _=>0) (fun i _=>h2 i),a0F];rfl
 | x::r,h=>by
  have ih:=g0m g Q M r fun y hy=>h y (Br _ hy)
  have e:∀ i,a0m (fun k=>if Q i k=true then (x::r).countP (fun x=>decide (g x=some (i,k))) else 0) M=a0m (fun k=>if Q i k=true then r.countP (fun x=>decide (g x=some (i,k))) else 0) M+a0m (fun k=>if Q i k=true/\g x=some (i,k) then 1 else 0) M:=fun i=>by
   rw[<- c0c];refine a0d fun k _=>?_
   rw[Ji];by_cases h1:Q i k=true
   .rw[J3 h1,J3 h1]
    congr 1
    simp[h1]
   .rw[J2 h1,J2 h1,J2 (fun hh=>h1 hh.1)]
  rw[Ji,ih,a0d (fun i _=>e i),c0c]
  congr 1
  cases hg:g x with
  | none=>
   rw[a0d (d:=fun _=>0) (fun i _=>by rw[a0d (d:=fun _=>0) (fun k _=>by simp),a0F]),a0F];simp
  | some p=>
   obtain⟨a,b⟩:=p;obtain⟨ha,hb⟩:=h x (Dg ..) a b hg;by_cases hq:Q a b=true
   .have e2:∀ i,a0m (fun k=>if Q i k=true/\some (a,b)=some (i,k) then 1 else 0) M=if a=i then 1 else 0:=fun i=>by
     by_cases h1:a=i
     .subst h1
      rw[J3 rfl,a0d (d:=fun k=>if b=k then 1 else 0) (fun k _=>by
       by_cases h2:b=k
       .subst h2;simp[hq]
       .rw[J2 h2,J2 (by simp;exact fun _=>h2)])]
      rw[e0T,J3 hb]
     .rw[J2 h1,a0d (d:=fun _=>0) (fun k _=>J2 (by simp;exact fun _ hh=>absurd hh h1)),a0F]
    rw[a0d (fun i _=>e2 i),e0T,J3 ha];simp[hq]
   .rw[a0d (d:=fun _=>0) (fun i _=>by rw[a0d (d:=fun _=>0) (fun k _=>J2 (by rintro⟨h1,h2⟩;simp at h2;obtain⟨rfl,rfl⟩:=h2;exact hq h1)),a0F]),a0F];simp[hq]
def a1g (N D:Nat)(l:List UInt8):Option (Nat×Nat):=match s1 N D l 0 0 with
 | none=>none
 | some (x,p)=>match s1 N D (l.drop p) 0 0 with | none=>none | some (y,_)=>some (x,y)
def Fc:=@decide_eq_true_iff
def q0o (N D i k:Nat)(l:List UInt8):decide (a1g N D l=some (i,k))=t0J N D i k l:=by
 rw[Bk,Fc];unfold a1g t0J h0Z;cases s1 N D l 0 0 with
 | none=>simp
 | some xp=>
  obtain⟨x,p⟩:=xp;dsimp only;cases s1 N D (l.drop p) 0 0 with
  | none=>simp
  | some yq=>simp
def Og:=@List.countP_congr
def w0N {N D:Nat}(h:N<D)(n:Nat)(v:Int):gV N D true n v=a0m (fun i=>a0m (fun k=>if (i:Int)-(k:Int)=v then cw n (t0J N D i k) else 0) (n+1)) (n+1):=by
 have h1:=g0m (a1g N D) (fun i k=>decide ((i:Int)-(k:Int)=v)) (n+1) (t0A n) (fun l hl i k hg=>by
  have hn:=g0R hl;unfold a1g at hg;cases hs:s1 N D l 0 0 with
  | none=>rw[hs]at hg;cases hg
  | some xp=>
   obtain⟨x,p⟩:=xp;obtain⟨b1,b2⟩:=m0d h hs;rw[hs]at hg;dsimp only at hg;cases hs2:s1 N D (l.drop p) 0 0 with
   | none=>rw[hs2]at hg;cases hg
   | some yq=>
    obtain⟨y,q⟩:=yq;obtain⟨b3,b4⟩:=m0d h hs2;rw[hs2]at hg;rw[Af]at b4;simp at hg;omega)
 unfold gV;rw[<- g0l];refine Eq.trans ?_ (h1.trans ?_)
 .refine Og fun l hl=>?_
  unfold i0f a1g;cases s1 N D l 0 0 with
  | none=>simp
  | some xp=>
   obtain⟨x,p⟩:=xp;simp only[Ew];cases s1 N D (l.drop p) 0 0 with
   | none=>simp
   | some yq=>simp
 .refine a0d fun i _=>a0d fun k _=>?_
  simp only[H7]
  split
  .rw[g0l];exact a0E fun l _=>q0o N D i k l
  .rfl
def h0M {N D:Nat}(h:N<D)(two:Bool)(n:Nat):a0m (fun j=>gV N D two n ((j:Int)-(n:Int))) (2*n+1)+gL N D two n=2 ^ n:=by
 have h1:=l0y (fun l=>((i0f N D two l).isSome,((i0f N D two l).getD 0+(n:Int)).toNat)) (2*n+1) (t0A n) (fun l hl hd=>by
  have hn:=g0R hl;dsimp only at hd |-;obtain⟨v,hv⟩:=Option.isSome_iff_exists.1 hd;have:=i0V h hv;rw[hv,Option.getD_some];omega)
 rw[e0L]at h1;rw[<- h1]
 congr 1
 .refine a0d fun j hj=>?_
  unfold gV;rw[<- g0l];refine Og fun l hl=>?_
  have hn:=g0R hl;cases hv:i0f N D two l with
  | none=>simp
  | some v=>
   have:=i0V h hv;simp;omega
 .unfold gL;rw[<- g0l];refine Og fun l hl=>?_
  cases i0f N D two l<;>simp
def l0k {N D:Nat}(h:N<D)(two:Bool)(n:Nat)(v:Int):gV N D two n v<=2 ^ n:=by
 by_cases hv:v < -(n:Int)\/(n:Int)<v
 .rw[d0M h hv];exact K5 _
 .have h1:=h0M h two n;have h2:=q0v (f:=fun j=>gV N D two n ((j:Int)-(n:Int))) (i:=(v+n).toNat) (n:=2*n+1) (by omega);rw[show ((v+(n:Int)).toNat:Int)-(n:Int)=v by omega]at h2;omega
def t0L (l:List Nat):List Value:=l.map fun n=>.string (a0f n)
@[simp] theorem numL_length (l:List Nat):(t0L l).length=l.length:=by simp[t0L]
def u0X {l:List Nat}{i:Nat}(h:i<l.length):(t0L l)[i]?=some (.string (a0f (l.getD i 0))):=by
 simp[t0L,Z3,Q0 h]
def u0W (l:List Nat)(i x:Nat):(t0L l).set i (.string (a0f x))=t0L (l.set i x):=by simp[t0L,Na]
def d0h (c:Bool)(k x:Nat)(l:List Nat):List Nat:=if c=true then l.set k (l.getD k 0+x) else l
def d0R (c:Bool)(k x:Nat)(l:List Nat):(d0h c k x l).length=l.length:=by unfold d0h;split<;>simp
def d0w (k x:Nat)(l:List Nat):d0h false k x l=l:=rfl
def d0g (k x:Nat)(l:List Nat):d0h true k x l=l.set k (l.getD k 0+x):=rfl
def h0T (c:Bool){k x:Nat}{l:List Nat}(hk:k<l.length)(i:Nat):(d0h c k x l).getD i 0=l.getD i 0+(if c=true/\i=k then x else 0):=by
 cases c
 .rw[d0w];simp
 .rw[d0g,Z3,Z3,Db];by_cases h:k=i
  .subst h;simp[hk,Z3]
  .simp[h,show ¬ i=k from fun e=>h e.symm]
def o0P (os zs:Nat->Bool)(i j:Nat)(s:List Nat×List Nat):List Nat×List Nat:=(d0h (os j) (i+j) (s.1.getD i 0) s.1,d0h (zs j) (i+j) (s.1.getD i 0) s.2)
def tIn (os zs:Nat->Bool)(i:Nat):Nat->List Nat×List Nat->List Nat×List Nat
 | 0,s=>s
 | j+1,s=>o0P os zs i j (tIn os zs i j s)
def b0S (os zs:Nat->Bool)(n:Nat):Nat->List Nat×List Nat
 | 0=>(1::List.replicate n 0,List.replicate (n+1) 0)
 | i+1=>if (b0S os zs n i).1.getD i 0=0 then b0S os zs n i else tIn os zs i (n+1-i) (b0S os zs n i)
structure TB (n i j:Nat)(s:List Nat×List Nat):Prop where
 l1:s.1.length=n+1
 l2:s.2.length=n+1
 up1:∀ k,s.1.getD k 0<=2 ^ (i+1)
 up2:∀ k,s.2.getD k 0<=2 ^ (i+1)
 hi1:∀ k,i+j<=k->s.1.getD k 0<=2 ^ i
 hi2:∀ k,i+j<=k->s.2.getD k 0<=2 ^ i
 src:s.1.getD i 0<=2 ^ i
theorem TB.step {os zs:Nat->Bool}(h0:os 0=false){n i j:Nat}{s:List Nat×List Nat}(h:TB n i j s)(hij:i+j<=n):TB n i (j+1) (o0P os zs i j s)/\(o0P os zs i j s).1.getD i 0=s.1.getD i 0:=by
 have e1:=h0T (os j) (x:=s.1.getD i 0) (show i+j<s.1.length by rw[h.l1];omega);have e2:=h0T (zs j) (x:=s.1.getD i 0) (show i+j<s.2.length by rw[h.l2];omega);have hs:=h.src;have h3:(o0P os zs i j s).1.getD i 0=s.1.getD i 0:=by
  show (d0h _ _ _ _).getD _ _=_
  rw[e1];rw[J2]
  .omega
  .rintro⟨h1,h2⟩;rw[show j=0 by omega,h0]at h1;cases h1
 refine⟨⟨by show (d0h _ _ _ _).length=_;rw[d0R,h.l1],by show (d0h _ _ _ _).length=_;rw[d0R,h.l2],fun k=>?_,fun k=>?_,fun k hk=>?_,fun k hk=>?_,by rw[h3];exact hs⟩,h3⟩
 .show (d0h _ _ _ _).getD _ _<=_
  rw[e1];have:=h.up1 k
  split
  .rename_i hc
   have:=h.hi1 k (by omega);omega
  .omega
 .show (d0h _ _ _ _).getD _ _<=_
  rw[e2];have:=h.up2 k
  split
  .rename_i hc
   have:=h.hi2 k (by omega);omega
  .omega
 .show (d0h _ _ _ _).getD _ _<=_
  rw[e1,J2 (by omega)];exact h.hi1 k (by omega)
 .show (d0h _ _ _ _).getD _ _<=_
  rw[e2,J2 (by omega)];exact h.hi2 k (by omega)
theorem TB.inner {os zs:Nat->Bool}(h0:os 0=false){n i:Nat}{s:List Nat×List Nat}(h:TB n i 0 s):∀ j,i+j<=n+1->TB n i j (tIn os zs i j s)/\(tIn os zs i j s).1.getD i 0=s.1.getD i 0
 | 0,_=>⟨h,rfl⟩
 | j+1,hj=>by
  obtain⟨h1,h2⟩:=TB.inner h0 h j (by omega);obtain⟨h3,h4⟩:=TB.step h0 (os:=os) (zs:=zs) h1 (by omega);exact⟨h3,h4.trans h2⟩
theorem TB.next {n i j:Nat}{s:List Nat×List Nat}(h:TB n i j s):TB n (i+1) 0 s:=by
 have p:2 ^ (i+1)<=2 ^ (i+1+1):=J6 (by omega) (by omega);exact⟨h.l1,h.l2,fun k=>J0 (h.up1 k) p,fun k=>J0 (h.up2 k) p,fun k _=>h.up1 k,fun k _=>h.up2 k,h.up1 _⟩
theorem TB.outer {os zs:Nat->Bool}(h0:os 0=false)(n:Nat):∀ i,i<=n+1->TB n i 0 (b0S os zs n i)
 | 0,_=>by
  have e1:∀ k,(1::List.replicate n 0).getD k 0<=1:=fun k=>by
   cases k with
   | zero=>simp
   | succ k=>
    rw[List.getD_cons_succ,Z3,Ae]
    split<;>simp
  have e2:∀ k,(List.replicate (n+1) 0).getD k 0<=1:=fun k=>by
   rw[Z3,Ae]
   split<;>simp
  refine⟨by simp[b0S],by simp[b0S],fun k=>J0 (e1 k) (by simp),fun k=>J0 (e2 k) (by simp),fun k _=>e1 k,fun k _=>e2 k,e1 _⟩
 | i+1,hi=>by
  have ih:=TB.outer h0 (zs:=zs) n i (by omega);rw[b0S]
  split
  .exact ih.next
  .exact (TB.inner h0 ih (n+1-i) (by omega)).1.next
def a0b {x i:Nat}(h:x<=2 ^ i)(hi:i<=3000):nDigits x<=4000:=by
 refine J0 (a0r h) ?_;have h1:2 ^ i<10 ^ (i+1):=by
  have h2:2 ^ i<=10 ^ i:=Jm (by omega) i;have h3:10 ^ i<10 ^ (i+1):=Hg (by omega) (by omega);omega
 exact J0 (a0l (Ev i) h1) (by omega)
section
def aIn (c:Nat->Bool)(x i:Nat):Nat->List Nat->List Nat
 | 0,l=>l
 | j+1,l=>d0h (c j) (i+j) x (aIn c x i j l)
def e0m (c:Nat->Bool)(O:List Nat)(n:Nat):Nat->List Nat
 | 0=>List.replicate (n+1) 0
 | i+1=>aIn c (O.getD i 0) i (n+1-i) (e0m c O n i)
theorem d0i (c:Nat->Bool)(x i:Nat):∀ (j:Nat) (l:List Nat),(aIn c x i j l).length=l.length
 | 0,l=>rfl
 | j+1,l=>by rw[aIn,d0R,d0i c x i j l]
theorem c0B (c:Nat->Bool)(O:List Nat)(n:Nat):∀ i,(e0m c O n i).length=n+1
 | 0=>by simp[e0m]
 | i+1=>by rw[e0m,d0i,c0B c O n i]
def p0Z (b:Bool)(k:Nat)(l:List Nat):d0h b k 0 l=l:=by
 unfold d0h
 split
 .rw[At];apply Aq
  intro m;rw[Db]
  split
  .rename_i h
   subst h
   split
   .rename_i hk
    rw[Z3,Q0 hk];rfl
   .rename_i hk
    rw[U6 (by omega)]
  .rfl
 .rfl
theorem f0D (c:Nat->Bool)(i:Nat):∀ (j:Nat) (l:List Nat),aIn c 0 i j l=l
 | 0,l=>rfl
 | j+1,l=>by rw[aIn,p0Z,f0D c i j l]
theorem g0b {c:Nat->Bool}{x i n:Nat}{l:List Nat}(hl:l.length=n+1):∀ {j:Nat},i+j<=n+1->∀ k,(aIn c x i j l).getD k 0=l.getD k 0+(if i<=k/\k<i+j/\c (k-i)=true then x else 0)
 | 0,_,k=>by rw[aIn,J2 (by omega)];rfl
 | j+1,h,k=>by
  rw[aIn,h0T _ (by rw[d0i];omega),g0b hl (by omega) k,Dh]
  congr 1
  by_cases hk:k=i+j
  .subst hk;rw[J2 (by omega),show i+j-i=j by omega,F9];by_cases hc:c j=true
   .rw[J3 ⟨hc,rfl⟩,J3 ⟨by omega,by omega,hc⟩]
   .rw[J2 (fun h=>hc h.1),J2 (fun h=>hc h.2.2)]
  .have e0:(if c j=true/\k=i+j then x else 0)=0:=J2 (fun h=>hk h.2);rw[e0,At];by_cases hc:i<=k/\k<i+j/\c (k-i)=true
   .rw[J3 hc,J3 ⟨hc.1,by omega,hc.2.2⟩]
   .rw[J2 hc,J2 (fun h=>hc ⟨h.1,by omega,h.2.2⟩)]
theorem g0S {c:Nat->Bool}{O:List Nat}{n:Nat}:∀ {i:Nat},i<=n+1->∀ k,k<=n->(e0m c O n i).getD k 0=a0m (fun i'=>if i'<=k/\c (k-i')=true then O.getD i' 0 else 0) i
 | 0,_,k,hk=>by simp[e0m,a0m,Z3,Ae,show k<n+1 by omega]
 | i+1,h,k,hk=>by
  rw[e0m,g0b (c0B c O n i) (by omega),g0S (by omega) k hk,a0m]
  congr 1
  by_cases hc:i<=k/\c (k-i)=true
  .rw[J3 hc,J3 ⟨hc.1,by omega,hc.2⟩]
  .rw[J2 hc,J2 (fun h=>hc ⟨h.1,h.2.2⟩)]
def fnL (f:Nat->Nat)(n:Nat):List Nat:=(List.range (n+1)).map f
def f0U (f:Nat->Nat)(n:Nat):(fnL f n).length=n+1:=by simp[fnL]
def h0N {f:Nat->Nat}{n k:Nat}(h:k<=n):(fnL f n).getD k 0=f k:=by simp[fnL,Z3,show k<n+1 by omega]
def s0D {l:List Nat}{f:Nat->Nat}{n:Nat}(hl:l.length=n+1)(h:∀ k,k<=n->l.getD k 0=f k):l=fnL f n:=by
 apply Aq
 intro k;by_cases hk:k<=n
 .have h1:=h k hk;rw[Z3,Q0 (by omega)]at h1;rw[Q0 (by omega)];simp only[Option.getD_some]at h1;rw[h1];simp[fnL,show k<n+1 by omega]
 .rw[U6 (by omega),U6 (by rw[f0U];omega)]
def t0B {c:Nat->Bool}{f:Nat->Nat}{n:Nat}:e0m c (fnL f n) n (n+1)=fnL (cvo (chi c) f) n:=by
 refine s0D (c0B _ _ _ _) fun k hk=>?_
 rw[g0S nr k hk,g0O];unfold cvo;have e:∀ m,a0m (fun i'=>if i'<=k/\c (k-i')=true then (fnL f n).getD i' 0 else 0) (k+1+m)=a0m (fun i'=>if i'<=k/\c (k-i')=true then (fnL f n).getD i' 0 else 0) (k+1):=fun m=>by
  induction m with
  | zero=>rfl
  | succ m ih=>rw[<- Dh,a0m,ih,J2 (by omega)];rfl
 rw[show n+1=k+1+(n-k) by omega,e];refine a0d fun i hi=>?_
 rw[h0N (by omega)];unfold chi;by_cases hc:c (k-i)=true
 .rw[J3 ⟨by omega,hc⟩,J3 hc,Dr]
 .rw[J2 (fun h=>hc h.2),J2 hc,Gf]
def j0w (N D n i:Nat):List Nat:=fnL (opn N D i) n
def q0b (N D n i:Nat):List Nat:=fnL (edn N D i) n
def r0G (N D n:Nat):(List.replicate (n+1) 0).set 0 1=j0w N D n 0:=by
 refine s0D (by simp) fun k hk=>?_
 rw[Z3,Db];unfold opn dlt;by_cases h:k=0
 .subst h;simp
 .rw[J2 (fun e=>h e.symm),J2 h];simp[Ae,show k<n+1 by omega]
def k0Y (N D n i:Nat):e0m (a0D N D) (j0w N D n i) n (n+1)=j0w N D n (i+1):=t0B
def s0O (N D n i:Nat):e0m (a0i N D) (j0w N D n i) n (n+1)=q0b N D n i:=t0B
def w0S {c:Nat->Bool}{f:Nat->Nat}{B n:Nat}(h:∀ s,s<=n->f s<=B):∀ k,k<=n->cvo (chi c) f k<=(n+1)*B:=fun k hk=>by
 unfold cvo;have h1:a0m (fun s=>chi c s*f (k-s)) (k+1)<=a0m (fun _=>B) (k+1):=h0c fun s hs=>by
  have:=c1a c s;have:=h (k-s) (by omega)
  calc chi c s*f (k-s)<=1*f (k-s):=Ab _ (by assumption)
   _<=B:=by omega
 have h2:∀ m,a0m (fun _=>B) m=m*B:=fun m=>by
  induction m with
  | zero=>simp[a0m]
  | succ m ih=>rw[a0m,ih,Jp]
 rw[h2]at h1;exact J0 h1 (Ab _ (by omega))
theorem h0y {N D n:Nat}(hn:n<=32):∀ i s,s<=n->opn N D i s<=2 ^ (6*i)
 | 0,s,hs=>by unfold opn dlt;split<;>simp
 | i+1,s,hs=>by
  have h:=w0S (c:=a0D N D) (f:=opn N D i) (B:=2 ^ (6*i)) (n:=n) (fun s hs=>h0y hn i s hs) s hs;rw[opn];refine J0 h ?_;rw[show 6*(i+1)=6+6*i by omega,Be];exact Ab _ (by omega)
def o0m {N D n:Nat}(hn:n<=32)(i s:Nat)(hs:s<=n):edn N D i s<=2 ^ (6*(i+1)):=by
 have h:=w0S (c:=a0i N D) (f:=opn N D i) (B:=2 ^ (6*i)) (n:=n) (fun s hs=>h0y hn i s hs) s hs;unfold edn;refine J0 h ?_;rw[show 6*(i+1)=6+6*i by omega,Be];exact Ab _ (by omega)
def Jn:=@Nat.add_le_add_left
def c1l {c:Nat->Bool}{O:List Nat}{n i j k:Nat}(hi:i<=n)(hij:i+j<=n+1)(hk:k<=n):(aIn c (O.getD i 0) i j (e0m c O n i)).getD k 0<=(e0m c O n (n+1)).getD k 0:=by
 rw[g0b (c0B _ _ _ _) hij,g0S (by omega) k hk,g0S nr k hk];refine J0 ?_ (a0Q (show i+1<=n+1 by omega));rw[a0m];refine Jn ?_ _;by_cases hc:i<=k/\c (k-i)=true
 .rw[J3 hc];split<;>omega
 .rw[J2 hc,J2 (fun h=>hc ⟨h.1,h.2.2⟩)];exact O4 _
def k0j (c:Int->Nat)(v:Int)(x:Nat):Int->Nat:=fun w=>if w=v then c w+x else c w
theorem h0b (f:Nat->Nat->Nat)(m:Nat):∀ n,a0m (fun i=>a0m (fun k=>f i k) m) n=a0m (fun k=>a0m (fun i=>f i k) n) m
 | 0=>by simp only[a0m];rw[a0F]
 | n+1=>by rw[a0m,h0b f m n,<- c0c];rfl
def x0m (c:Prop)[Decidable c](f:Nat->Nat)(n:Nat):a0m (fun i=>if c then f i else 0) n=if c then a0m f n else 0:=by
 split
 .rfl
 .exact a0F n
def c1 (N D n i s:Nat)(v:Int):Nat:=a0m (fun i'=>if (i':Int)=v then a0m (fun s'=>edn N D i' s'*2 ^ (n-s')) (n+1) else 0) i+(if (i:Int)=v then a0m (fun s'=>edn N D i s'*2 ^ (n-s')) s else 0)
def z0E (N D n:Nat):c1 N D n 0 0=fun _=>0:=by funext v;simp[c1,a0m]
def t0u (N D n i s:Nat):c1 N D n i (s+1)=k0j (c1 N D n i s) (i:Int) (edn N D i s*2 ^ (n-s)):=by
 funext v
 unfold k0j c1;by_cases h:(i:Int)=v
 .subst h;rw[J3 rfl,J3 rfl,J3 rfl,a0m];omega
 .rw[J2 h,J2 h,J2 (fun e=>h e.symm)]
def w0W (N D n i:Nat):c1 N D n i (n+1)=c1 N D n (i+1) 0:=by
 funext v
 unfold c1;rw[a0m];simp[a0m]
def z0F {N D n i s:Nat}(h:edn N D i s=0):c1 N D n i (s+1)=c1 N D n i s:=by
 rw[t0u,h]
 funext v
 unfold k0j
 split<;>simp
def w0X {N D:Nat}(h:N<D)(n:Nat)(v:Int):c1 N D n (n+1) 0 v=gV N D false n v:=by
 rw[w0O];unfold c1;have e:∀ i,a0m (fun s'=>edn N D i s'*2 ^ (n-s')) (n+1)=cw n (h0Z N D i):=fun i=>(e0K h i n).symm
 simp only[e];rw[show (if ((n+1:Nat):Int)=v then a0m (fun s'=>edn N D (n+1) s'*2 ^ (n-s')) 0 else 0)=0 by split<;>rfl,At];by_cases h0:0<=v
 .rw[J3 h0]
  rw[a0d (d:=fun i=>if v.toNat=i then cw n (h0Z N D v.toNat) else 0) (fun i _=>by
   by_cases hi:(i:Int)=v
   .rw[J3 hi,J3 (by omega),show v.toNat=i by omega]
   .rw[J2 hi,J2 (by omega)])]
  have e2:∀ m,a0m (fun i=>if v.toNat=i then cw n (h0Z N D v.toNat) else 0) m=if v.toNat<m then cw n (h0Z N D v.toNat) else 0:=fun m=>by
   induction m with
   | zero=>simp[a0m]
   | succ m ih=>
    rw[a0m,ih];by_cases h1:v.toNat<m
    .rw[J3 h1,J2 (by omega),J3 (by omega)];rfl
    .rw[J2 h1,F9];by_cases h2:v.toNat=m
     .rw[J3 h2,J3 (by omega)]
     .rw[J2 h2,J2 (by omega)]
  rw[e2]
  split
  .rfl
  .rename_i hn
   refine (m0M fun l hl=>?_).symm;unfold h0Z;cases hs:s1 N D l 0 0 with
   | none=>rfl
   | some xp=>
    obtain⟨x,p⟩:=xp;obtain⟨b1,b2⟩:=m0d h hs;exact Z6 (by omega)
 .rw[J2 h0];rw[a0d (d:=fun _=>0) (fun i _=>J2 (by omega)),a0F]
def c1j {N D n i s:Nat}(h:N<D)(hi:i<=n)(hs:s<=n+1)(v:Int):c1 N D n i s v<=gV N D false n v:=by
 rw[<- w0X h];have h1:c1 N D n i s v<=c1 N D n (i+1) 0 v:=by
  rw[<- w0W];unfold c1;refine Jn ?_ _
  split
  .exact a0Q hs
  .exact O4 _
 refine J0 h1 ?_;unfold c1;have e:∀ i,(if ((i:Nat):Int)=v then a0m (fun s'=>edn N D i s'*2 ^ (n-s')) 0 else 0)=0:=fun i=>by split<;>rfl
 rw[e,e];exact a0Q (by omega)
def p2 (N D n i s k u:Nat)(v:Int):Nat:=if (i:Int)-(k:Int)=v then a0m (fun u'=>edn N D i s*edn N D k u'*2 ^ (n-s-u')) u else 0
def q2 (N D n i s k:Nat)(v:Int):Nat:=a0m (fun k'=>p2 N D n i s k' (n-s+1) v) k
def r2 (N D n i s:Nat)(v:Int):Nat:=a0m (fun s'=>q2 N D n i s' (n+1) v) s
def t2 (N D n i:Nat)(v:Int):Nat:=a0m (fun i'=>r2 N D n i' (n+1) v) i
def c2 (N D n i s k u:Nat)(v:Int):Nat:=t2 N D n i v+r2 N D n i s v+q2 N D n i s k v+p2 N D n i s k u v
def d0l (N D n i s k:Nat)(v:Int):p2 N D n i s k 0 v=0:=by unfold p2;split<;>rfl
def z0B (N D n:Nat):c2 N D n 0 0 0 0=fun _=>0:=by funext v;simp[c2,t2,r2,q2,d0l,a0m]
def d1t (N D n i s k u:Nat):c2 N D n i s k (u+1)=k0j (c2 N D n i s k u) ((i:Int)-(k:Int)) (edn N D i s*edn N D k u*2 ^ (n-s-u)):=by
 funext v
 unfold k0j c2 p2;by_cases h:(i:Int)-(k:Int)=v
 .subst h;rw[J3 rfl,J3 rfl,J3 rfl,a0m];omega
 .rw[J2 h,J2 h,J2 (fun e=>h e.symm)]
def z0C {N D n i s k u:Nat}(h:edn N D k u=0):c2 N D n i s k (u+1)=c2 N D n i s k u:=by
 rw[d1t,h]
 funext v
 unfold k0j
 split<;>simp
def d1B (N D n i s k:Nat):c2 N D n i s k (n-s+1)=c2 N D n i s (k+1) 0:=by
 funext v
 unfold c2;rw[d0l];unfold q2;rw[a0m];omega
def d1u (N D n i s:Nat):c2 N D n i s (n+1) 0=c2 N D n i (s+1) 0 0:=by
 funext v
 unfold c2;rw[d0l,d0l];unfold r2;rw[a0m];simp only[q2,a0m];omega
def z0D {N D n i s:Nat}(h:edn N D i s=0):c2 N D n i (s+1) 0 0=c2 N D n i s 0 0:=by
 rw[<- d1u]
 funext v
 unfold c2;rw[d0l,d0l];have e:q2 N D n i s (n+1) v=0:=by
  unfold q2
  rw[a0d (d:=fun _=>0) (fun k _=>by
   unfold p2
   split
   .rw[a0d (d:=fun _=>0) (fun u _=>by rw[h,Hi,Hi]),a0F]
   .rfl),a0F]
 rw[e];simp[q2,a0m]
def d1C (N D n i:Nat):c2 N D n i (n+1) 0 0=c2 N D n (i+1) 0 0 0:=by
 funext v
 unfold c2;rw[d0l,d0l];unfold t2;rw[a0m];simp only[q2,r2,a0m]
def w0V {N D:Nat}(h:N<D)(n:Nat)(v:Int):c2 N D n (n+1) 0 0 0 v=gV N D true n v:=by
 rw[w0N h];unfold c2;rw[d0l];simp only[q2,a0m,r2,At];unfold t2 r2 q2;refine a0d fun i _=>?_
 rw[h0b (fun s k=>p2 N D n i s k (n-s+1) v)];refine a0d fun k _=>?_
 unfold p2;rw[x0m];by_cases hv:(i:Int)-(k:Int)=v
 .rw[J3 hv,J3 hv,m0K h k i n];unfold cvo;refine a0d fun s _=>?_
  rw[<- e0U];refine a0d fun u _=>?_
  unfold pw2;rw[A9]
 .rw[J2 hv,J2 hv]
def c1i {N D n i s k u:Nat}(h:N<D)(hi:i<=n)(hs:s<=n)(hk:k<=n)(hu:u<=n-s+1)(v:Int):c2 N D n i s k u v<=gV N D true n v:=by
 rw[<- w0V h];have a1:p2 N D n i s k u v<=p2 N D n i s k (n-s+1) v:=by
  unfold p2
  split
  .exact a0Q hu
  .exact O4 _
 have a2:q2 N D n i s k v+p2 N D n i s k (n-s+1) v<=q2 N D n i s (n+1) v:=by
  have:q2 N D n i s (k+1) v<=q2 N D n i s (n+1) v:=a0Q (by omega);unfold q2 at *;rw[a0m]at this;omega
 have a3:r2 N D n i s v+q2 N D n i s (n+1) v<=r2 N D n i (n+1) v:=by
  have:r2 N D n i (s+1) v<=r2 N D n i (n+1) v:=a0Q (by omega);unfold r2 at *;rw[a0m]at this;omega
 have a4:t2 N D n i v+r2 N D n i (n+1) v<=t2 N D n (n+1) v:=by
  have:t2 N D n (i+1) v<=t2 N D n (n+1) v:=a0Q (by omega);unfold t2 at *;rw[a0m]at this;omega
 unfold c2;omega
open Go.Maps
def b0t (p:ByteArray×ByteArray):List UInt8:=p.1.data.toList
def a0p (L:List (ByteArray×ByteArray)):List (ByteArray×ByteArray):=L.mergeSort (fun p q=>leB (b0t p) (b0t q))
def b0H {L:List (ByteArray×ByteArray)}{p:ByteArray×ByteArray}:p∈a0p L↔p∈L:=List.mem_mergeSort
def b0m (L:List (ByteArray×ByteArray)):(a0p L).length=L.length:=List.length_mergeSort L
def h0D:∀ a b c:List UInt8,leB a b=true->leB b c=true->leB a c=true:=fun a b c h1 h2=>by simp only[leB,H7]at *;exact List.le_trans h1 h2
def s0b:∀ a b:List UInt8,(leB a b || leB b a)=true:=fun a b=>by simp only[leB,Av,H7];exact List.le_total a b
def c0E (L:List (ByteArray×ByteArray)):(a0p L).Pairwise (fun p q=>leB (b0t p) (b0t q)=true):=
 List.pairwise_mergeSort (le:=fun p q=>leB (b0t p) (b0t q)) (fun a b c=>h0D (b0t a) (b0t b) (b0t c)) (fun a b=>s0b (b0t a) (b0t b)) L
def a0N (L:List (ByteArray×ByteArray)):List Value:=L.flatMap (fun p=>[.string p.1,.string p.2])
def b0a (L:List (ByteArray×ByteArray)):(a0N L).length=L.length*2:=by
 unfold a0N
 induction L with
 | nil=>rfl
 | cons p r ih=>rw[Lc,J5,ih,E8];simp;omega
def b0x (L M:List (ByteArray×ByteArray)):a0N (L++M)=a0N L++a0N M:=by simp[a0N]
def c0Z {L:List (ByteArray×ByteArray)}:∀ {i:Nat} {p:ByteArray×ByteArray},L[i]?=some p->(a0N L)[2*i]?=some (.string p.1)/\(a0N L)[2*i+1]?=some (.string p.2):=by
 induction L with
 | nil=>intro i p h;simp at h
 | cons q r ih=>
  intro i p h;cases i with
  | zero=>simp at h;subst h;exact⟨rfl,rfl⟩
  | succ i=>
   have h':r[i]?=some p:=by simpa using h
   obtain⟨h1,h2⟩:=ih h';have e:a0N (q::r) = [.string q.1,.string q.2]++a0N r:=rfl;rw[e,show 2*(i+1)=2+2*i by omega]
   constructor
   .rw[G8 (by simp)];simpa using h1
   .rw[G8 (by simp<;>omega)];simp only[E8,Ce];rw[show 2+2*i+1-(0+1+1)=2*i+1 by omega];exact h2
theorem MRow.of_owns {w:World}{base n:Nat}{e:TypeId}{v:Value}{L:List (ByteArray×ByteArray)}(h:w.ownsRow base e 2 v n (a0N L)):MRow w v L:=by
 have hn:n=L.length:=by have:=h.1;rw[b0a]at this;omega
 subst hn;refine⟨?_⟩;have hh:=h;rcases h.2 with ⟨rfl,h0⟩ | ⟨g,cap,cur,rfl,hb,hg,h1,h2,h3,h4⟩
 .exact⟨none,0,by rw[h0],by omega,by omega,fun i x hx=>by have:=(U4.1 hx).1;omega⟩
 .refine⟨some ⟨g,0,none⟩,cap,rfl,h1,by unfold maxLen at h2;exact h2,fun i x hx=>⟨g,0,rfl,(I7.1 hg).1,?_⟩⟩;obtain⟨m1,m2⟩:=c0Z hx;have k1:=hh.cells rfl _ _ m1;have k2:=hh.cells rfl _ _ m2;rw[Addr.add_lit]at k1 k2;rw[<- Dh]at k2;exact⟨k1,k2⟩
def r0N (i:Nat):(a0f i).data.toList≠b0d.data.toList:=by
 intro e;have h:(108:UInt8)∈decDigits i:=by
  rw[<- a0t,e];decide
 exact absurd (b0F i 108 h) (by decide)
open Go.Shelf
def h0I:(prog.info? 42).map (fun i=>(i.zero,i.size,i.bytes))=some (some (.agg #[.string ⟨#[]⟩,.string ⟨#[]⟩]),2,32):=by kernel_rfl
def t0M (w:World):(zeroValue 23).run prog w=.ok (.string ⟨#[]⟩) w:=by kernel_rfl
def g0A (t:Nat):shB 0 t=⟨#[48]⟩:=by
 have e:qmk false 0 t=0:=by unfold qmk sgn;simp
 have h1:¬ ovQ 0:=by
  have:nDigits 0<=4000:=by rw[c0J];omega
  have:nDigits 1<=4000:=by rw[b0o];omega
  unfold ovQ;rw[show (0:Rat).num.natAbs=0 from rfl,show (0:Rat).den=1 from rfl];omega
 unfold shB;rw[e];unfold c0b;rw[J2 h1];apply b0f
 rw[txQ,b0U,show (0:Rat).num.natAbs=0 from rfl,show (0:Rat).den=1 from rfl,show decide ((0:Rat).num<0)=false from rfl,c0f]
 rfl
end
section
def n0w (m:Bool)(n d:Nat):sgn m (n*d)=sgn m n*(d:Int):=by cases m<;>simp[sgn,Int.neg_mul]
def p0l (p q:Rat):p+q=mkRat (sgn (decide (p.num<0)) (p.num.natAbs*q.den)+sgn (decide (q.num<0)) (q.num.natAbs*p.den)) (p.den*q.den):=by
 rw[n0w,n0w,i0o,i0o,Rat.add_def',Int.mul_comm q.num]
 try rw[Int.mul_comm q.num]
def n0v (m:Bool)(x y:Nat):sgn m x+sgn m y=sgn m (x+y):=by cases m<;>simp[sgn]<;>omega
def n0y {m1 m2:Bool}(h:m1≠m2){x y:Nat}(hl:x<y):sgn m1 x+sgn m2 y=sgn m2 (y-x):=by
 cases m1<;>cases m2<;>simp[sgn]at *<;>omega
def n0x {m1 m2:Bool}(h:m1≠m2){x y:Nat}(hl:y<=x):sgn m1 x+sgn m2 y=sgn m1 (x-y):=by
 cases m1<;>cases m2<;>simp[sgn]at *<;>omega
def i0p (m1 m2:Bool)(x y:Nat):(sgn m1 x+sgn m2 y).natAbs<=x+y:=by
 cases m1<;>cases m2<;>simp[sgn]<;>omega
structure Dig (K:Nat)(q:Rat):Prop where
 n:q.num.natAbs<10 ^ K
 d:q.den<10 ^ K
theorem Dig.fits {K:Nat}{q:Rat}(h:Dig K q)(h0:0<K)(hk:K<=4000):¬ ovQ q:=by
 unfold ovQ;have h1:=a0l h0 h.n;have h2:=a0l h0 h.d;omega
def Je:=@Int.natAbs_ediv_le_natAbs
def s0X {K:Nat}{z:Int}{d:Nat}(hd:0<d)(h1:z.natAbs<10 ^ K)(h2:d<10 ^ K):Dig K (mkRat z d):=by
 refine⟨?_,?_⟩
 .rw[Kh,J2 (by omega)];exact Di (Je _ _) h1
 .rw[Oj,J2 (by omega)];exact Di (Ef _ _) h2
def s0W {K L:Nat}{p q:Rat}(hp:Dig K p)(hq:Dig L q):Dig (K+L) (p*q):=by
 rw[<- j0q];unfold qmk;exact s0X (Eb p.den_pos q.den_pos) (by rw[b0r];exact d0N hp.n hq.n) (d0N hp.d hq.d)
def m0J {K L:Nat}{p q:Rat}(hp:Dig K p)(hq:Dig L q):Dig (K+L+1) (p+q):=by
 rw[p0l];refine s0X (Eb p.den_pos q.den_pos) ?_ (w0Q (d0N hp.d hq.d) (by omega));refine Di (i0p _ _ _ _) ?_;have h1:=d0N hp.n hq.d;have h2:=d0N hq.n hp.d;rw[Ha L K]at h2;exact h0O h1 h2
def Ij:=@Rat.neg_num
def Hw:=@Int.natAbs_neg
def Ld:=@Rat.neg_den
def z0a {K:Nat}{q:Rat}(h:Dig K q):Dig K (-q):=⟨by rw[Ij,Hw];exact h.n,by rw[Ld];exact h.d⟩
def z0b {K:Nat}{q:Rat}(h0:q≠0)(h:Dig K q):Dig K q⁻¹ := ⟨by rw[(d0p h0).2.1];exact h.d,by rw[(d0p h0).2.2];exact h.n⟩
def m0I:Dig 1 (1:Rat):=⟨by decide,by decide⟩
def t1:ByteArray:=⟨#[49]⟩
def a1o:t1=txQ 1:=by
 unfold t1 txQ txB;rw[show (1:Rat).num.natAbs=1 from rfl,show (1:Rat).den=1 from rfl,f0X]
 rfl
def v0y:¬ ovQ 1:=m0I.fits (by omega) (by omega)
def p0m:qE t1=0:=by rw[a1o];exact n0Q v0y
def q0l:vQ t1=1:=by rw[a1o,e0P]
def k0X {q:Rat}(h:¬ ovQ q):c0b q=txQ q:=J2 h
def r0B {q:Rat}(h:¬ ovQ q):c0p q=0:=J2 h
def y0m {f:Rat->Rat->Rat}{s t:ByteArray}(h0:¬ (qE s=0/\qE t=0)):(if qE s=0 then qE t else qE s)≠0/\b0D f s t=⟨#[]⟩/\f0F f s t=(if qE s=0 then qE t else qE s):=by
 refine⟨?_,by rw[b0D,J2 h0],?_⟩
 .split
  .rename_i h;exact fun e=>h0 ⟨h,e⟩
  .rename_i h;exact h
 .rw[f0F]
  split
  .rename_i h;rw[J2 (fun e=>h0 ⟨h,e⟩)]
  .rfl
def n0z (q:Rat):Int:=if q.num=0 then 0 else if q.num<0 then -1 else 1
def g0f (p q:Rat):Int:=n0z (p-q)
def cmB (s t:ByteArray):Int:=if qE s=0/\qE t=0 then g0f (vQ s) (vQ t) else 0
def cmE (s t:ByteArray):Int:=if qE s=0 then qE t else qE s
def f0R {n:Nat}:(limbs n).length=0↔n=0:=by
 constructor
 .intro h;have h2:limbs n=limbs 0:=by rw[Aw h,limbs_zero]
  exact f0p h2
 .rintro rfl;rw[limbs_zero];rfl
def q0a (z:Int):Int:=if z=0 then 0 else if z<0 then -1 else 1
def h0C {z:Int}{d:Nat}(hd:d≠0):(mkRat z d).num=0↔z=0:=by
 rw[Kh,J2 hd];have hg:(0:Int)<(Nat.gcd d z.natAbs:Nat):=by
  have:=Ge z.natAbs (Cs hd);omega
 have hdv:((Nat.gcd d z.natAbs:Nat):Int)∣z:=Int.ofNat_dvd_left.2 (Nat.gcd_dvd_right _ _)
 constructor
 .intro h;have:=Int.ediv_mul_cancel hdv;rw[h,Int.zero_mul]at this;exact this.symm
 .rintro rfl;simp
def Ft:=@Int.lt_or_le
def i0w {z:Int}{d:Nat}(hd:d≠0):(mkRat z d).num<0↔z<0:=by
 rw[Kh,J2 hd];have hg:(0:Int)<(Nat.gcd d z.natAbs:Nat):=by
  have:=Ge z.natAbs (Cs hd);omega
 constructor
 .intro h;rcases Ft z 0 with h1 | h1
  .exact h1
  .have:=Int.ediv_nonneg h1 (Int.le_of_lt hg);omega
 .intro h;exact Int.ediv_neg_of_neg_of_pos h hg
def x0z {z:Int}{d:Nat}(hd:d≠0):n0z (mkRat z d)=q0a z:=by
 unfold n0z q0a;by_cases h:z=0
 .rw[J3 ((h0C hd).2 h),J3 h]
 .rw[J2 (fun e=>h ((h0C hd).1 e)),J2 h];by_cases h2:z<0
  .rw[J3 ((i0w hd).2 h2),J3 h2]
  .rw[J2 (fun e=>h2 ((i0w hd).1 e)),J2 h2]
def Id:=@Rat.sub_eq_add_neg
def b1l {a c:Int}{b d:Nat}(hb:b≠0)(hd:d≠0):mkRat a b-mkRat c d=mkRat (a*d-c*b) (b*d):=by
 rw[Id,Rat.neg_mkRat,Rat.mkRat_add_mkRat _ _ hb hd,Int.neg_mul,Int.sub_eq_add_neg]
def y0k {a c:Int}{b d:Nat}(hb:b≠0)(hd:d≠0):g0f (mkRat a b) (mkRat c d)=q0a (a*d-c*b):=by
 unfold g0f;rw[b1l hb hd,x0z (Nat.mul_ne_zero hb hd)]
def f0L (a b:Nat):qmk false a b=mkRat (a:Int) b:=by unfold qmk sgn;rfl
def g0M {K:Nat}{z:Int}{d:Nat}(hd:d≠0)(h1:nDigits z.natAbs<=K)(h2:nDigits d<=K):Dig K (mkRat z d):=
 s0X (Cs hd) (J7 (Ch _) (J6 (by omega) h1)) (J7 (Ch _) (J6 (by omega) h2))
def i0n {a b:Nat}(hb:b≠0)(h1:nDigits a<=4000)(h2:nDigits b<=4000):shB a b=txQ (mkRat (a:Int) b):=by
 unfold shB;rw[f0L];exact k0X ((g0M hb (by simpa using h1) h2).fits (by omega) (by omega))
def m0r {f:Rat->Rat->Rat}{p q:Rat}(hp:¬ ovQ p)(hq:¬ ovQ q)(h:¬ ovQ (f p q)):b0D f (txQ p) (txQ q)=txQ (f p q)/\f0F f (txQ p) (txQ q)=0:=by
 have h1:=n0Q hp;have h2:=n0Q hq;refine⟨?_,?_⟩
 .rw[b0D,J3 ⟨h1,h2⟩,e0P,e0P,k0X h]
 .rw[f0F,J3 h1,J3 h2,e0P,e0P,r0B h]
open Go.Shelf
def Gs:=@List.mergeSort_perm
def u0e {L:List (ByteArray×ByteArray)}(nd:(L.map b0t).Nodup):((a0p L).map b0t).Nodup:=(((Gs L _).map b0t).nodup_iff).2 nd
def u0Z {i j:Nat}(h:a0f i=a0f j):i=j:=by rw[<- b0A i,h,b0A]
end
def zB (v:Int):ByteArray:=⟨(Lib.itoa v).toArray⟩
def f0H (v:Int):(zB v).data.toList=Lib.itoa v:=by simp[zB]
def n0a (n:Nat):zB (n:Int)=a0f n:=by
 unfold zB a0f;rw[Lib.itoa_nonneg]
def d0t {a b:Nat}(h:decDigits a=decDigits b):a=b:=by
 have:a0f a=a0f b:=by unfold a0f;rw[h]
 exact u0Z this
def k0k (n:Nat)(r:List UInt8):decDigits n≠45::r:=fun h=>by
 have:=f0n n;rw[h]at this;simp[Lib.hasPrefix]at this
def g0U {v w:Int}(h:zB v=zB w):v=w:=by
 have h1:Lib.itoa v=Lib.itoa w:=by rw[<- f0H,<- f0H,h]
 unfold Lib.itoa at h1
 split at h1<;>split at h1
 .rename_i a b
  have:=d0t (List.cons.inj h1).2;omega
 .rename_i a b
  exact absurd h1.symm (k0k _ _)
 .rename_i a b
  exact absurd h1 (k0k _ _)
 .rename_i a b
  have:=d0t h1;omega
def e0t (v:Int):(zB v).data.toList≠b0d.data.toList:=fun h=>by
 rw[f0H]at h;unfold Lib.itoa at h
 split at h
 .have:=congrArg List.head? h;simp[b0d]at this
 .have h2:=r0N v.toNat;rw[a0t]at h2;exact h2 h
def glM (c:Int->Nat)(t n:Nat):List (ByteArray×ByteArray):=(List.range (2*n+1)).filterMap fun (j:Nat)=>if c ((j:Int)-n)=0 then none else some (zB ((j:Int)-n),shB (c ((j:Int)-n)) t)
def glP (c:Int->Nat)(t n r:Nat):List (ByteArray×ByteArray):=glM c t n++if r=0 then [] else [(b0d,shB r t)]
def Nr:=@List.mem_filterMap
def s0w {c:Int->Nat}{t n:Nat}{p:ByteArray×ByteArray}:p∈glM c t n ↔ ∃ v:Int,-(n:Int)<=v/\v<=n/\c v≠0/\p=(zB v,shB (c v) t):=by
 unfold glM;rw[Nr]
 constructor
 .rintro⟨j,hj,h⟩;rw[Gj]at hj
  split at h
  .cases h
  .rename_i h0
   exact⟨(j:Int)-n,by omega,by omega,h0,(Ag h).symm⟩
 .rintro⟨v,h1,h2,h3,rfl⟩;refine⟨(v+n).toNat,Gj.2 (by omega),?_⟩;rw[show ((v+(n:Int)).toNat:Int)-(n:Int)=v by omega,J2 h3]
def w0L (c:Int->Nat)(t n:Nat):((glM c t n).map b0t).Nodup:=by
 unfold glM;rw[List.map_filterMap];refine List.Pairwise.filterMap (R:=fun a b=>a≠b) _ (fun a b hab x hx y hy=>?_) List.nodup_range;simp only[Option.map_eq_some_iff]at hx hy;obtain⟨p,hp,rfl⟩:=hx;obtain⟨q,hq,rfl⟩:=hy
 split at hp
 .cases hp
 .split at hq
  .cases hq
  .obtain rfl:=(Ag hp).symm;obtain rfl:=(Ag hq).symm;intro e;have:=g0U (b0f e);exact hab (by omega)
def Ay:=@List.map_append
def Gn:=@List.nodup_append
def s0v (c:Int->Nat)(t n r:Nat):((glP c t n r).map b0t).Nodup:=by
 unfold glP
 split
 .rw[Cz];exact w0L c t n
 .rw[Ay,Gn];refine⟨w0L c t n,by simp,?_⟩;intro a ha b hb e;rw[Gi]at ha;obtain⟨p,hp,rfl⟩:=ha;obtain⟨v,-,-,-,rfl⟩:=s0w.1 hp;simp at hb;subst hb;exact e0t v e
def d0K {c:Int->Nat}{t n r:Nat}{p:ByteArray×ByteArray}:p∈glP c t n r↔(∃ v:Int,-(n:Int)<=v/\v<=n/\c v≠0/\p=(zB v,shB (c v) t))\/(r≠0/\p=(b0d,shB r t)):=by
 unfold glP;rw[Ie,s0w];refine or_congr Iff.rfl ?_
 split
 .rename_i h;simp[h]
 .rename_i h;simp[h]
def Ov:=@List.le_antisymm
def Hp:=@List.getElem_of_mem
def Jf:=@List.pairwise_iff_getElem
def d0X {L M:List (ByteArray×ByteArray)}(h1:(L.map b0t).Nodup)(h2:(M.map b0t).Nodup)(h:∀ p,p∈L↔p∈M):a0p L=a0p M:=by
 have n1:L.Nodup:=List.Pairwise.of_map b0t (fun a b h e=>h (congrArg b0t e)) h1;have n2:M.Nodup:=List.Pairwise.of_map b0t (fun a b h e=>h (congrArg b0t e)) h2;have hp:L.Perm M:=(List.perm_ext_iff_of_nodup n1 n2).2 h;have hs:(a0p L).Perm (a0p M):=((Gs L _).trans hp).trans (Gs M _).symm;refine List.Perm.eq_of_pairwise (le:=fun p q=>leB (b0t p) (b0t q)=true) ?_ (c0E _) (c0E _) hs;intro a b ha hb hab hba;simp only[leB,H7]at hab hba;have e:b0t a=b0t b:=Ov hab hba;have hb2:b∈L:=(h b).2 (b0H.1 hb);have ha2:a∈L:=b0H.1 ha;obtain⟨i,hi,rfl⟩:=Hp ha2;obtain⟨j,hj,rfl⟩:=Hp hb2;have hij:i=j:=by
  rcases Fk i j with h3 | h3 | h3
  .have:=Jf.1 h1 i j (by simpa using hi) (by simpa using hj) h3;simp only[List.getElem_map,ne_eq]at this;exact absurd e this
  .exact h3
  .have:=Jf.1 h1 j i (by simpa using hj) (by simpa using hi) h3;simp only[List.getElem_map,ne_eq]at this;exact absurd e.symm this
 subst hij
 rfl
theorem k0v (x:Nat)(k:Nat):∀ n,a0m (fun j=>if j=k then x else 0) n=if k<n then x else 0
 | 0=>by simp[a0m]
 | n+1=>by
  rw[a0m,k0v x k n];by_cases h1:k<n
  .rw[J3 h1,J2 (by omega),J3 (by omega)];rfl
  .rw[J2 h1,F9];by_cases h2:n=k
   .rw[J3 h2,J3 (by omega)]
   .rw[J2 h2,J2 (by omega)]
def Kj:=@List.map_cons
theorem g0B (c:Int->Nat)(n:Nat):∀ vs:List Int,vs.Nodup->(∀ v∈vs,-(n:Int)<=v/\v<=n)->(vs.map c).sum=a0m (fun j=>if ((j:Int)-n)∈vs then c ((j:Int)-n) else 0) (2*n+1)
 | [],_,_=>by
  rw[a0d (d:=fun _=>0) (fun j _=>by simp),a0F];rfl
 | v::vs,hn,hb=>by
  have ih:=g0B c n vs (List.nodup_cons.1 hn).2 fun w hw=>hb w (Br _ hw)
  have hv:=hb v (Dg ..);have hnv:=(List.nodup_cons.1 hn).1;rw[Kj,List.sum_cons,ih];have e:a0m (fun j=>if ((j:Int)-n)∈v::vs then c ((j:Int)-n) else 0) (2*n+1)=a0m (fun j=>(if j=(v+n).toNat then c v else 0)+(if ((j:Int)-n)∈vs then c ((j:Int)-n) else 0)) (2*n+1):=by
   refine a0d fun j hj=>?_
   by_cases h1:j=(v+n).toNat
   .have h2:(j:Int)-n=v:=by omega
    rw[h2,J3 (Dg ..),J3 h1,J2 hnv];rfl
   .have h2:(j:Int)-n≠v:=by omega
    rw[J2 h1,F9];by_cases h3:((j:Int)-n)∈vs
    .rw[J3 h3,J3 (Br _ h3)]
    .rw[J2 h3,J2 (fun h=>by rcases Ck.1 h with h | h;exact h2 h;exact h3 h)]
  rw[e,c0c,k0v,J3 (by omega)]
structure Seen (c:Int->Nat)(n:Nat)(left:Int->Bool)(vs:List Int):Prop where
 nd:vs.Nodup
 mem:∀ v,v∈vs↔c v≠0/\left v=false
theorem Seen.start {c:Int->Nat}{n:Nat}{left:Int->Bool}(h:∀ v,c v≠0->left v=true):Seen c n left []:=⟨List.nodup_nil,fun v=>⟨fun hv=>by simp at hv,fun ⟨h1,h2⟩=>by rw[h v h1]at h2;cases h2⟩⟩
theorem Seen.step {c:Int->Nat}{n:Nat}{left left':Int->Bool}{vs:List Int}{x:Int}(h:Seen c n left vs)(hx:left x=true)(hc:c x≠0)(hl:∀ v,left' v=(left v && !decide (v=x))):Seen c n left' (vs ++ [x]):=by
 refine⟨?_,fun v=>?_⟩
 .rw[Gn];refine⟨h.nd,by simp,fun a ha b hb e=>?_⟩;simp at hb;subst hb;subst e;have:=((h.mem a).1 ha).2;rw[hx]at this;cases this
 .rw[Ie,h.mem,hl]
  constructor
  .rintro (⟨h1,h2⟩ | h1)
   .exact⟨h1,by rw[h2];rfl⟩
   .simp at h1;subst h1;exact⟨hc,by simp⟩
  .rintro⟨h1,h2⟩;rw[Bool.and_eq_false_iff]at h2;rcases h2 with h2 | h2
   .exact .inl ⟨h1,h2⟩
   .right;simp at h2;simp[h2]
theorem Seen.sum_le {N D:Nat}(hND:N<D){two:Bool}{n:Nat}{left:Int->Bool}{vs:List Int}(h:Seen (gV N D two n) n left vs):(vs.map (gV N D two n)).sum<=2 ^ n:=by
 rw[g0B _ n vs h.nd (fun v hv=>by
  have h1:=((h.mem v).1 hv).1;rcases Ft v (-(n:Int)) with h2 | h2
  .exact absurd (d0M hND (.inl h2)) h1
  .rcases Ft (n:Int) v with h3 | h3
   .exact absurd (d0M hND (.inr h3)) h1
   .exact⟨h2,h3⟩)]
 have h1:=h0M hND two n;have h2:a0m (fun j=>if ((j:Int)-n)∈vs then gV N D two n ((j:Int)-n) else 0) (2*n+1)<=a0m (fun j=>gV N D two n ((j:Int)-n)) (2*n+1):=h0c fun j _=>by split<;>omega
 omega
theorem Seen.sum_all {N D:Nat}(hND:N<D){two:Bool}{n:Nat}{left:Int->Bool}{vs:List Int}(h:Seen (gV N D two n) n left vs)(hl:∀ v,left v=false):2 ^ n-(vs.map (gV N D two n)).sum=gL N D two n:=by
 rw[g0B _ n vs h.nd (fun v hv=>by
  have h1:=((h.mem v).1 hv).1;rcases Ft v (-(n:Int)) with h2 | h2
  .exact absurd (d0M hND (.inl h2)) h1
  .rcases Ft (n:Int) v with h3 | h3
   .exact absurd (d0M hND (.inr h3)) h1
   .exact⟨h2,h3⟩)]
 have h1:=h0M hND two n;have h2:a0m (fun j=>if ((j:Int)-n)∈vs then gV N D two n ((j:Int)-n) else 0) (2*n+1)=a0m (fun j=>gV N D two n ((j:Int)-n)) (2*n+1):=a0d fun j _=>by
  split
  .rfl
  .rename_i hm
   rw[h.mem]at hm;by_cases h0:gV N D two n ((j:Int)-n)=0
   .exact h0.symm
   .exact absurd ⟨h0,hl _⟩ hm
 omega
theorem Seen.pairs {N D:Nat}(hND:N<D){two:Bool}{n t r:Nat}{left:Int->Bool}{vs:List Int}(h:Seen (gV N D two n) n left vs)(hl:∀ v,left v=false):
 (((vs.map fun v=>(zB v,shB (gV N D two n v) t))++if r=0 then [] else [(b0d,shB r t)]).map b0t).Nodup/\a0p ((vs.map fun v=>(zB v,shB (gV N D two n v) t))++if r=0 then [] else [(b0d,shB r t)])=a0p (glP (gV N D two n) t n r):=by
 have hk:((vs.map fun v=>(zB v,shB (gV N D two n v) t)).map b0t).Nodup:=by
  rw[List.map_map];refine List.Pairwise.map (R:=fun a b=>a≠b) _ (fun a b hab e=>hab (g0U (b0f e))) h.nd
 have nd:(((vs.map fun v=>(zB v,shB (gV N D two n v) t))++if r=0 then [] else [(b0d,shB r t)]).map b0t).Nodup:=by
  split
  .rw[Cz];exact hk
  .rw[Ay,Gn];refine⟨hk,by simp,fun a ha b hb e=>?_⟩;simp only[Gi]at ha;obtain⟨p,⟨v,-,rfl⟩,rfl⟩:=ha;simp at hb;subst hb;exact e0t v e
 refine⟨nd,d0X nd (s0v _ _ _ _) fun p=>?_⟩;rw[d0K,Ie,Gi];refine or_congr ?_ ?_
 .constructor
  .rintro⟨v,hv,rfl⟩;have h1:=((h.mem v).1 hv).1;refine⟨v,?_,?_,h1,rfl⟩
   .rcases Ft v (-(n:Int)) with h2 | h2
    .exact absurd (d0M hND (.inl h2)) h1
    .exact h2
   .rcases Ft (n:Int) v with h3 | h3
    .exact absurd (d0M hND (.inr h3)) h1
    .exact h3
  .rintro⟨v,-,-,h1,rfl⟩;exact⟨v,(h.mem v).2 ⟨h1,hl v⟩,rfl⟩
 .split
  .rename_i h;simp[h]
  .rename_i h;simp[h]
def zS (n:Nat)(f:Int->Nat):Nat:=a0m (fun j=>f ((j:Int)-n)) (2*n+1)
def b0T {n:Nat}{f g:Int->Nat}(h:∀ v,-(n:Int)<=v->v<=n->f v=g v):zS n f=zS n g:=
 a0d fun j hj=>h _ (by omega) (by omega)
def w0c (n:Nat)(f g:Int->Nat):zS n (fun v=>f v+g v)=zS n f+zS n g:=c0c _ _ _
def z0W (n k:Nat)(f:Int->Nat):zS n (fun v=>k*f v)=k*zS n f:=e0U _ _ _
def q0e (n k:Nat)(f:Int->Nat):zS n (fun v=>f v*k)=zS n f*k:=by
 rw[b0T (g:=fun v=>k*f v) (fun v _ _=>M9 _ _),z0W,M9]
def x0d (n:Nat):zS n (fun _=>0)=0:=a0F _
def z0X {n:Nat}{f g:Int->Nat}(h:∀ v,-(n:Int)<=v->v<=n->f v<=g v):zS n f<=zS n g:=
 h0c fun j hj=>h _ (by omega) (by omega)
def vw (n:Nat):List (Int->Nat)->(List Int->Nat)->Nat
 | [],F=>F []
 | g::gs,F=>zS n fun x=>g x*vw n gs fun r=>F (x::r)
theorem e0O {n:Nat}:∀ {gs:List (Int->Nat)} {F G:List Int->Nat},(∀ xs,xs.length=gs.length->(∀ x∈xs,-(n:Int)<=x/\x<=n)->F xs=G xs)->vw n gs F=vw n gs G
 | [],F,G,h=>h [] rfl (by simp)
 | g::gs,F,G,h=>b0T fun v h1 h2=>by
  rw[e0O (gs:=gs) (fun r hr hb=>h (v::r) (by simp[hr]) (by
   intro x hx;rcases Ck.1 hx with rfl | hx
   .exact⟨h1,h2⟩
   .exact hb x hx))]
theorem w0e (n:Nat):∀ (gs:List (Int->Nat)) (F G:List Int->Nat),vw n gs (fun xs=>F xs+G xs)=vw n gs F+vw n gs G
 | [],F,G=>rfl
 | g::gs,F,G=>by
  rw[vw,vw,vw,<- w0c];exact b0T fun v _ _=>by rw[w0e n gs,Al]
theorem l0R (n:Nat):∀ gs:List (Int->Nat),vw n gs (fun _=>0)=0
 | []=>rfl
 | g::gs=>by rw[vw,b0T (g:=fun _=>0) (fun v _ _=>by rw[l0R n gs,Gf]),x0d]
theorem w0d (n:Nat)(gs:List (Int->Nat))(F:Nat->List Int->Nat):∀ M,vw n gs (fun xs=>a0m (fun i=>F i xs) M)=a0m (fun i=>vw n gs (F i)) M
 | 0=>l0R n gs
 | M+1=>by
  show vw n gs (fun xs=>a0m (fun i=>F i xs) M+F M xs)=_
  rw[w0e,w0d n gs F M];rfl
def pPr (n:Nat):List (Int->Nat)->List (Int->Bool)->Nat
 | g::gs,p::ps=>zS n (fun x=>if p x=true then g x else 0)*pPr n gs ps
 | _,_=>1
def v0W:List (Int->Bool)->List Int->Bool
 | p::ps,x::xs=>p x && v0W ps xs
 | _,_=>true
def b1 (b:Bool):Nat:=if b=true then 1 else 0
theorem q0i (n:Nat):∀ (gs:List (Int->Nat)) (ps:List (Int->Bool)),gs.length=ps.length->vw n gs (fun xs=>b1 (v0W ps xs))=pPr n gs ps
 | [],[],_=>rfl
 | g::gs,p::ps,h=>by
  have ih:=q0i n gs ps (by simpa using h);rw[vw,pPr,<- q0e];refine b0T fun v _ _=>?_
  by_cases hp:p v=true
  .rw[J3 hp,<- ih]
   congr 1
   exact e0O fun xs _ _=>by rw[v0W,hp,Dn]
  .rw[J2 hp,Hi];have:vw n gs (fun r=>b1 (v0W (p::ps) (v::r)))=0:=by
    rw[e0O (G:=fun _=>0) (fun xs _ _=>by rw[v0W,Gm.2 hp];rfl),l0R]
   rw[this,Gf]
def c1z (n:Nat)(gs:List (Int->Nat)):Nat:=vw n gs fun _=>1
def k0V (n:Nat)(g:Int->Nat)(gs:List (Int->Nat)):c1z n (g::gs)=zS n g*c1z n gs:=by
 unfold c1z;rw[vw,q0e]
def o0f {N D:Nat}(h:N<D)(two:Bool)(n:Nat):zS n (gV N D two n)+gL N D two n=2 ^ n:=h0M h two n
def l0t {x m:Nat}(hx:x<=2 ^ m)(h:m<=1000):nDigits x<=4000:=
 J0 (a0r hx) (i0g h)
def dyB (x m:Nat):ByteArray:=shB x (2 ^ m)
def dyQ (x m:Nat):Rat:=mkRat (x:Int) (2 ^ m)
def Ow:=@Nat.ne_of_gt
def f0g (m:Nat):2 ^ m≠0:=Ow (Gb (by omega))
theorem g0u {x m:Nat}(hx:x<=2 ^ m)(h:m<=1000):dyB x m=txQ (dyQ x m):=
 i0n (f0g m) (l0t hx h) (l0t nr h)
def d0s {x m:Nat}(hx:x<=2 ^ m)(h:m<=1000):¬ ovQ (dyQ x m):=
 (g0M (f0g m) (by simpa using l0t hx h) (l0t nr h)).fits (by omega) (by omega)
def f0W (x y m k:Nat):dyQ x m*dyQ y k=dyQ (x*y) (m+k):=by
 unfold dyQ;rw[Rat.mkRat_mul_mkRat,Bp,Be]
def Jo:=@Rat.mkRat_mul_right
def h0Q (x y m:Nat):dyQ x m+dyQ y m=dyQ (x+y) m:=by
 unfold dyQ;rw[Rat.mkRat_add_mkRat _ _ (f0g m) (f0g m),<- Int.add_mul,Jo (f0g m),Ee]
def m0E {x y m:Nat}(h:y<=x):dyQ x m-dyQ y m=dyQ (x-y) m:=by
 have:=h0Q (x-y) y m;rw[Nat.sub_add_cancel h]at this;rw[<- this,Rat.add_sub_cancel]
def l0u {x y m k:Nat}(hx:x<=2 ^ m)(hy:y<=2 ^ k)(h:m+k<=1000):b0D (· * ·) (dyB x m) (dyB y k)=dyB (x*y) (m+k):=by
 have hxy:x*y<=2 ^ (m+k):=by rw[Be];exact Ar hx hy
 rw[g0u hx (by omega),g0u hy (by omega),(m0r (f:=(· * ·)) (d0s hx (by omega)) (d0s hy (by omega)) (by show ¬ ovQ (_*_);rw[f0W];exact d0s hxy h)).1];show txQ (_*_)=_
 rw[f0W,g0u hxy h]
def s0R {x y m:Nat}(hx:x+y<=2 ^ m)(h:m<=1000):b0D (· + ·) (dyB x m) (dyB y m)=dyB (x+y) m:=by
 rw[g0u (x:=x) (by omega) h,g0u (x:=y) (by omega) h,(m0r (f:=(· + ·)) (d0s (by omega) (by omega)) (d0s (by omega) (by omega)) (by show ¬ ovQ (_+_);rw[h0Q];exact d0s hx h)).1];show txQ (_+_)=_
 rw[h0Q,g0u hx h]
def w0R {x y m:Nat}(hx:x<=2 ^ m)(hy:y<=x)(h:m<=1000):b0D (· - ·) (dyB x m) (dyB y m)=dyB (x-y) m:=by
 rw[g0u (x:=x) hx h,g0u (x:=y) (by omega) h,(m0r (f:=(· - ·)) (d0s hx (by omega)) (d0s (by omega) (by omega)) (by show ¬ ovQ (_-_);rw[m0E hy];exact d0s (by omega) h)).1];show txQ (_-_)=_
 rw[m0E hy,g0u (by omega) h]
def b1R (x m k:Nat):dyB (x*2 ^ k) (m+k)=dyB x m:=by
 unfold dyB shB;rw[f0L,f0L,Bp,Be,Jo (f0g k)]
def m0D (m:Nat):dyB 0 m=⟨#[48]⟩:=by
 have:=b1R 0 0 m;rw[Hi,F9]at this;rw[this];unfold dyB;rw[i0n (by decide) (by decide +kernel) (by decide +kernel)]
 decide +kernel
def b1S:dyB 1 0=⟨#[49]⟩:=by
 unfold dyB;rw[i0n (by decide) (by decide +kernel) (by decide +kernel)]
 decide +kernel
def s0Q (m:Nat):dyB (2 ^ m) m=⟨#[49]⟩:=by
 have:=b1R 1 0 m;rw[Hn,F9]at this;rw[this,b1S]
def nzV (c xs:List Int):List Int:=List.zipWith (· + ·) c xs
def m0S (L:List Nat)(i k:Nat)(m:List Nat):List Nat:=m.set (i+k) (m.getD (i+k) 0+L.getD i 0*L.getD k 0)
def cIn (L:List Nat)(i:Nat):Nat->List Nat->List Nat
 | 0,m=>m
 | k+1,m=>m0S L i k (cIn L i k m)
def l0E (L:List Nat)(n:Nat):Nat->List Nat
 | 0=>List.replicate (n+1) 0
 | i+1=>cIn L i (n+1-i) (l0E L n i)
structure CB (n B t:Nat)(m:List Nat):Prop where
 len:m.length=n+1
 up:∀ k,m.getD k 0<=t*B
def o0e (l:List Nat){i:Nat}(hi:i<l.length)(x k:Nat):(l.set i x).getD k 0=if i=k then x else l.getD k 0:=by
 rw[Z3,Z3,Db];by_cases h:i=k
 .subst h;simp[hi]
 .simp[h]
theorem CB.step {L m:List Nat}{n B t i k:Nat}(h:CB n (B*B) t m)(hL:∀ k,L.getD k 0<=B)(hik:i+k<=n):CB n (B*B) (t+1) (m0S L i k m):=by
 refine⟨by simp[m0S,h.len],fun j=>?_⟩;have h1:=h.up j;have h2:=h.up (i+k);have h3:=Ar (hL i) (hL k);unfold m0S;rw[o0e _ (by rw[h.len];omega),Jp]
 split<;>omega
theorem CB.inner {L m:List Nat}{n B t i:Nat}(h:CB n (B*B) t m)(hL:∀ k,L.getD k 0<=B):∀ k,i+k<=n+1->CB n (B*B) (t+k) (cIn L i k m)
 | 0,_=>h
 | k+1,hk=>CB.step (CB.inner h hL k (by omega)) hL (by omega)
theorem CB.outer {L:List Nat}{n B:Nat}(hL:∀ k,L.getD k 0<=B):∀ i,i<=n+1->CB n (B*B) (i*(n+1)) (l0E L n i)
 | 0,_=>⟨by simp[l0E],fun k=>by
  rw[l0E,Z3,Ae]
  split<;>simp⟩
 | i+1,hi=>by
  have h0:=CB.outer (n:=n) hL i (by omega);have h:=CB.inner (i:=i) h0 hL (n+1-i) (by omega);refine⟨h.len,fun k=>J0 (h.up k) (Ab _ ?_)⟩;rw[Jp];omega
def rIn (L:List Nat)(n:Nat):Nat->Nat
 | 0=>2 ^ n
 | i+1=>rIn L n i-L.getD i 0*2 ^ (n-i)
theorem k0K (L:List Nat)(n:Nat):∀ i,rIn L n i<=2 ^ n
 | 0=>O4 _
 | i+1=>by have:=k0K L n i;rw[rIn];omega
def e3:Nat:=300
def e7:Nat:=700
def q0r {os zs:Nat->Bool}(h0:os 0=false){n:Nat}(hn:n<=256):(b0S os zs n (n+1)).2.length=n+1/\∀ k,(b0S os zs n (n+1)).2.getD k 0<=2 ^ e3:=by
 have h:=TB.outer (zs:=zs) h0 n (n+1) nr;exact⟨h.l2,fun k=>J0 (h.up2 k) (J6 (by omega) (by unfold e3;omega))⟩
def i0K {n t:Nat}(hn:n<=256)(ht:t<=(n+1)*(n+1)){x:Nat}(h:x<=t*(2 ^ e3*2 ^ e3)):x<=2 ^ e7:=by
 refine J0 h ?_;have h1:t<=2 ^ 20:=by
  refine J0 ht ?_;have:(n+1)*(n+1)<=257*257:=Ar (by omega) (by omega);omega
 have h2:=Ab (2 ^ e3*2 ^ e3) h1;rw[<- Be,<- Be]at h2;rw[<- Be];exact J0 h2 (J6 (by omega) (by unfold e3 e7;omega))
section
theorem a1m {os zs:Nat->Bool}(h0:os 0=false){n i:Nat}{s:List Nat×List Nat}(h1:s.1.length=n+1)(h2:s.2.length=n+1):∀ j,i+j<=n+1->tIn os zs i j s=(aIn os (s.1.getD i 0) i j s.1,aIn zs (s.1.getD i 0) i j s.2)
 | 0,_=>rfl
 | j+1,h=>by
  have e:(aIn os (s.1.getD i 0) i j s.1).getD i 0=s.1.getD i 0:=by
   rw[g0b h1 (by omega),J2 (by rw[Bq,h0];simp),At]
  rw[tIn,a1m h0 h1 h2 j (by omega),o0P,e,aIn,aIn]
def n0m {os zs:Nat->Bool}(h0:os 0=false)(n:Nat):∀ i,i<=n+1->(b0S os zs n i).1.length=n+1/\(b0S os zs n i).2.length=n+1:=fun i hi=>by
 have h:=TB.outer (os:=os) (zs:=zs) h0 n i hi;exact⟨h.l1,h.l2⟩
theorem q0u {os zs:Nat->Bool}(h0:os 0=false){n i:Nat}(hi:i<=n):b0S os zs n (i+1)=(aIn os ((b0S os zs n i).1.getD i 0) i (n+1-i) (b0S os zs n i).1,aIn zs ((b0S os zs n i).1.getD i 0) i (n+1-i) (b0S os zs n i).2):=by
 obtain⟨l1,l2⟩:=n0m (os:=os) (zs:=zs) h0 n i (by omega);rw[b0S]
 split
 .rename_i hz
  rw[hz,f0D,f0D]
 .exact a1m h0 l1 l2 _ (by omega)
def uT (os zs:Nat->Bool)(n i:Nat):Nat:=(b0S os zs n i).1.getD i 0
theorem g0x {os zs:Nat->Bool}(h0:os 0=false){n:Nat}:∀ {i:Nat},i<=n+1->∀ k,k<=n ->
 (b0S os zs n i).1.getD k 0=dlt k+a0m (fun i'=>if i'<=k/\os (k-i')=true then uT os zs n i' else 0) i /\
 (b0S os zs n i).2.getD k 0=a0m (fun i'=>if i'<=k/\zs (k-i')=true then uT os zs n i' else 0) i
 | 0,_,k,hk=>by
  constructor
  .rw[b0S];unfold dlt;cases k with
   | zero=>rfl
   | succ k=>simp[a0m,Z3,Ae,show k<n by omega]
  .rw[b0S];simp[a0m,Z3,Ae,show k<n+1 by omega]
 | i+1,h,k,hk=>by
  obtain⟨l1,l2⟩:=n0m (os:=os) (zs:=zs) h0 n i (by omega);obtain⟨g1,g2⟩:=g0x h0 (n:=n) (i:=i) (os:=os) (zs:=zs) (by omega) k hk;have e:∀ c:Nat->Bool,(if i<=k/\k<i+(n+1-i)/\c (k-i)=true then (b0S os zs n i).1.getD i 0 else 0)=if i<=k/\c (k-i)=true then uT os zs n i else 0:=fun c=>by
   by_cases hc:i<=k/\c (k-i)=true
   .rw[J3 hc,J3 ⟨hc.1,by omega,hc.2⟩];rfl
   .rw[J2 hc,J2 (fun hh=>hc ⟨hh.1,hh.2.2⟩)]
  rw[q0u h0 (by omega)];dsimp only;rw[g0b l1 (by omega),g0b l2 (by omega),g1,g2,a0m,a0m,e,e];exact⟨by omega,rfl⟩
def g0y {c:Nat->Bool}{f:Nat->Nat}{k:Nat}:∀ {m:Nat},k+1<=m->a0m (fun i'=>if i'<=k/\c (k-i')=true then f i' else 0) m=cvo (chi c) f k:=fun {m} hm=>by
 rw[g0O];unfold cvo;obtain⟨d,rfl⟩:∃ d,m=k+1+d:=⟨m-(k+1),by omega⟩;have e:∀ d,a0m (fun i'=>if i'<=k/\c (k-i')=true then f i' else 0) (k+1+d)=a0m (fun i'=>if i'<=k/\c (k-i')=true then f i' else 0) (k+1):=fun d=>by
  induction d with
  | zero=>rfl
  | succ d ih=>rw[<- Dh,a0m,ih,J2 (by omega)];rfl
 rw[e];refine a0d fun i hi=>?_
 unfold chi;by_cases hc:c (k-i)=true
 .rw[J3 ⟨by omega,hc⟩,J3 hc,Dr]
 .rw[J2 (fun h=>hc h.2),J2 hc,Gf]
def t0O {os zs:Nat->Bool}(h0:os 0=false){n k:Nat}(hk:k<=n):uT os zs n k=dlt k+cvo (chi os) (uT os zs n) k:=by
 have h:=(g0x (zs:=zs) h0 (n:=n) (i:=k) (by omega) k hk).1;rw[<- g0y (m:=k+1) nr,a0m,J2 (by rw[Bq,h0];simp),At];exact h
def n0g {os zs:Nat->Bool}(h0:os 0=false){n k:Nat}(hk:k<=n):(b0S os zs n (n+1)).2.getD k 0=cvo (chi zs) (uT os zs n) k:=by
 rw[(g0x (os:=os) (zs:=zs) h0 (n:=n) nr k hk).2,g0y (by omega)]
def t0d (f g h:Nat->Nat)(n:Nat):cvo (fun m=>f m+g m) h n=cvo f h n+cvo g h n:=by
 unfold cvo;rw[<- c0c];exact a0d fun i _=>Bo _ _ _
def r0a {c:Nat->Bool}(h0:c 0=false){F G R:Nat->Nat}{n:Nat}(hF:∀ m,m<=n->F m=cvo (chi c) F m+R m)(hG:∀ m,m<=n->G m=cvo (chi c) G m+R m):∀ m,m<=n->F m=G m:=by
 intro m
 induction m using Nat.strongRecOn with
 | ind m ih=>
  intro hm;rw[hF m hm,hG m hm]
  congr 1
  unfold cvo;rw[b0q,b0q];have e:chi c 0=0:=by unfold chi;rw[h0];rfl
  rw[e,Hi,Hi]
  congr 1
  refine a0d fun i hi=>?_
  rw[ih (m-(i+1)) (by omega) (by omega)]
def g0k (N D:Nat)(l:List UInt8):Bool:=(s1 N D l 0 0).isSome
def d0Q (N D:Nat)(l:List UInt8):Bool:=match s1 N D l 0 0 with | none=>false | some (_,p)=>g0k N D (l.drop p)
def s0Z {N D:Nat}(h:N<D)(l:List UInt8):g0k N D l=b0G N D 0 1 (g0k N D) (fun _=>true) l:=by
 unfold b0G;rw[g0k,h0h h];cases hd:(c0a N D 0 1 l).1
 .rfl
 .rw[J3 rfl,Dn];by_cases hv:(c0a N D 0 1 l).2.1=1
  .rw[J3 hv,J3 hv];show _=g0k N D (l.drop (c0a N D 0 1 l).2.2)
   rw[g0k];cases s1 N D (l.drop (c0a N D 0 1 l).2.2) 0 0<;>rfl
  .rw[J2 hv,J2 hv];rfl
def p0O {N D:Nat}(h:N<D)(l:List UInt8):d0Q N D l=b0G N D 0 1 (d0Q N D) (g0k N D) l:=by
 unfold b0G;rw[d0Q,h0h h];cases hd:(c0a N D 0 1 l).1
 .rfl
 .rw[J3 rfl,Dn];by_cases hv:(c0a N D 0 1 l).2.1=1
  .rw[J3 hv,J3 hv];show _=d0Q N D (l.drop (c0a N D 0 1 l).2.2)
   rw[d0Q];cases s1 N D (l.drop (c0a N D 0 1 l).2.2) 0 0 with
   | none=>rfl
   | some x=>simp[Ex]
  .rw[J2 hv,J2 hv]
section
variable {N D : Nat} (h : N < D) (n : Nat)
include h
theorem i0Y {m:Nat}(hm:m<=n):cvo (fun k=>(b0S (a0D N D) (a0i N D) n (n+1)).2.getD k 0) pw2 m=cw m (g0k N D):=by
 have o0:a0D N D 0=false:=rfl;have hL:∀ m,m<=n->cvo (fun k=>(b0S (a0D N D) (a0i N D) n (n+1)).2.getD k 0) pw2 m=cvo (uT (a0D N D) (a0i N D) n) (cvo (chi (a0i N D)) pw2) m:=fun m hm=>by
  rw[a0L (f':=cvo (chi (a0i N D)) (uT (a0D N D) (a0i N D) n)) (g':=pw2) (fun s hs=>n0g o0 (by omega)) (fun _ _=>rfl),b0J,j0Y]
 refine r0a (c:=a0D N D) (F:=cvo (fun k=>(b0S (a0D N D) (a0i N D) n (n+1)).2.getD k 0) pw2) (G:=fun m=>cw m (g0k N D)) o0 (R:=cvo (chi (a0i N D)) pw2) (n:=n) (fun m hm=>?_) (fun m hm=>?_) m hm
 .rw[hL m hm,a0L (f':=fun k=>dlt k+cvo (chi (a0D N D)) (uT (a0D N D) (a0i N D) n) k) (g':=cvo (chi (a0i N D)) pw2) (fun s hs=>t0O o0 (by omega)) (fun _ _=>rfl),t0d,m0P,b0J,Ha]
  congr 1
  exact a0L (fun _ _=>rfl) fun s hs=>(hL s (by omega)).symm
 .rw[a0E (Q:=b0G N D 0 1 (g0k N D) (fun _=>true)) (fun l _=>s0Z h l),e0i h]
  congr 1
  exact a0L (fun _ _=>rfl) fun s _=>j0X s
theorem n0h {m:Nat}(hm:m<=n):cvo (cvo (fun k=>(b0S (a0D N D) (a0i N D) n (n+1)).2.getD k 0) (fun k=>(b0S (a0D N D) (a0i N D) n (n+1)).2.getD k 0)) pw2 m=cw m (d0Q N D):=by
 have o0:a0D N D 0=false:=rfl;have hT:∀ s,s<=n->(b0S (a0D N D) (a0i N D) n (n+1)).2.getD s 0=cvo (chi (a0i N D)) (uT (a0D N D) (a0i N D) n) s:=fun s hs=>n0g o0 hs
 have hL:∀ m,m<=n->cvo (cvo (fun k=>(b0S (a0D N D) (a0i N D) n (n+1)).2.getD k 0) (fun k=>(b0S (a0D N D) (a0i N D) n (n+1)).2.getD k 0)) pw2 m=cvo (uT (a0D N D) (a0i N D) n) (cvo (chi (a0i N D)) (fun k=>cw k (g0k N D))) m:=fun m hm=>by
  rw[b0J,a0L (f':=cvo (chi (a0i N D)) (uT (a0D N D) (a0i N D) n)) (g':=fun k=>cw k (g0k N D)) (fun s hs=>hT s (by omega)) (fun s hs=>i0Y h n (by omega)),b0J,j0Y]
 refine r0a (c:=a0D N D) (F:=cvo (cvo (fun k=>(b0S (a0D N D) (a0i N D) n (n+1)).2.getD k 0) (fun k=>(b0S (a0D N D) (a0i N D) n (n+1)).2.getD k 0)) pw2) (G:=fun m=>cw m (d0Q N D)) o0 (R:=cvo (chi (a0i N D)) (fun k=>cw k (g0k N D))) (n:=n) (fun m hm=>?_) (fun m hm=>?_) m hm
 .rw[hL m hm,a0L (f':=fun k=>dlt k+cvo (chi (a0D N D)) (uT (a0D N D) (a0i N D) n) k) (g':=cvo (chi (a0i N D)) (fun k=>cw k (g0k N D))) (fun s hs=>t0O o0 (by omega)) (fun _ _=>rfl),t0d,m0P,b0J,Ha]
  congr 1
  exact a0L (fun _ _=>rfl) fun s hs=>(hL s (by omega)).symm
 .rw[a0E (Q:=b0G N D 0 1 (d0Q N D) (g0k N D)) (fun l _=>p0O h l),e0i h]
end
def l0x (P:List UInt8->Bool):∀ n,cw n P+cw n (fun l => !P l)=2 ^ n:=fun n=>by
 rw[<- g0l,<- g0l,<- e0L];have:∀ L:List (List UInt8),L.countP P+L.countP (fun l => !P l)=L.length:=fun L=>by
  induction L with
  | nil=>rfl
  | cons a r ih=>
   simp only[Ji,E8];cases P a<;>simp<;>omega
 exact this _
def w0P (N D n:Nat):gL N D false n=2 ^ n-cw n (g0k N D):=by
 have h:=l0x (g0k N D) n;have e:gL N D false n=cw n (fun l => !g0k N D l):=a0E fun l _=>by
  rw[Bk,Fc];unfold i0f g0k;cases s1 N D l 0 0<;>simp
 omega
def s0B (N D n:Nat):gL N D true n=2 ^ n-cw n (d0Q N D):=by
 have h:=l0x (d0Q N D) n;have e:gL N D true n=cw n (fun l => !d0Q N D l):=a0E fun l _=>by
  rw[Bk,Fc];unfold i0f d0Q g0k;cases s1 N D l 0 0 with
  | none=>simp
  | some xp=>
   simp only[Ew];cases s1 N D (l.drop xp.2) 0 0<;>simp
 omega
theorem m0e {L:List Nat}{n:Nat}(h:a0m (fun i=>L.getD i 0*2 ^ (n-i)) (n+1)<=2 ^ n):∀ i,i<=n+1->rIn L n i=2 ^ n-a0m (fun i=>L.getD i 0*2 ^ (n-i)) i
 | 0,_=>by simp[rIn,a0m]
 | i+1,hi=>by
  have:=a0Q (f:=fun i=>L.getD i 0*2 ^ (n-i)) hi;rw[rIn,m0e h i (by omega),a0m];omega
def a1J {L:List Nat}{n:Nat}(h:a0m (fun i=>L.getD i 0*2 ^ (n-i)) (n+1)<=2 ^ n):∀ i,i<=n->L.getD i 0*2 ^ (n-i)<=rIn L n i:=fun i hi=>by
 have h1:=a0Q (f:=fun i=>L.getD i 0*2 ^ (n-i)) (show i+1<=n+1 by omega);rw[a0m]at h1;rw[m0e h i (by omega)];omega
theorem m0T (L:List Nat)(i:Nat):∀ (k:Nat) (m:List Nat),(cIn L i k m).length=m.length
 | 0,_=>rfl
 | k+1,m=>by rw[cIn,m0S,Bj,m0T L i k m]
theorem o0y (L:List Nat)(n:Nat):∀ i,(l0E L n i).length=n+1
 | 0=>by simp[l0E]
 | i+1=>by rw[l0E,m0T,o0y L n i]
theorem m0U {L m:List Nat}{i n:Nat}(hl:m.length=n+1):∀ {k:Nat},i+k<=n+1->∀ j,(cIn L i k m).getD j 0=m.getD j 0+(if i<=j/\j<i+k then L.getD i 0*L.getD (j-i) 0 else 0)
 | 0,_,j=>by rw[cIn,J2 (by omega)];rfl
 | k+1,h,j=>by
  rw[cIn,m0S,o0e _ (by rw[m0T];omega),m0U hl (by omega),m0U hl (by omega)];by_cases hj:i+k=j
  .subst hj;rw[J3 rfl,J2 (by omega),J3 (by omega),show i+k-i=k by omega];omega
  .rw[J2 hj]
   congr 1
   by_cases hc:i<=j/\j<i+k
   .rw[J3 hc,J3 (by omega)]
   .rw[J2 hc,J2 (by omega)]
theorem o0z {L:List Nat}{n:Nat}:∀ {i:Nat},i<=n+1->∀ j,j<=n->(l0E L n i).getD j 0=a0m (fun i'=>if i'<=j then L.getD i' 0*L.getD (j-i') 0 else 0) i
 | 0,_,j,hj=>by simp[l0E,a0m,Z3,Ae,show j<n+1 by omega]
 | i+1,h,j,hj=>by
  rw[l0E,m0U (o0y L n i) (by omega),o0z (by omega) j hj,a0m]
  congr 1
  by_cases hc:i<=j
  .rw[J3 hc,J3 (by omega)]
  .rw[J2 hc,J2 (by omega)]
def v0R {L:List Nat}{n j:Nat}(hj:j<=n):(l0E L n (n+1)).getD j 0=cvo (fun k=>L.getD k 0) (fun k=>L.getD k 0) j:=by
 rw[o0z nr j hj];unfold cvo;obtain⟨d,hd⟩:∃ d,n+1=j+1+d:=⟨n-j,by omega⟩;rw[hd];have e:∀ d,a0m (fun i'=>if i'<=j then L.getD i' 0*L.getD (j-i') 0 else 0) (j+1+d)=a0m (fun i'=>if i'<=j then L.getD i' 0*L.getD (j-i') 0 else 0) (j+1):=fun d=>by
  induction d with
  | zero=>rfl
  | succ d ih=>rw[<- Dh,a0m,ih,J2 (by omega)];rfl
 rw[e];exact a0d fun i hi=>J3 (by omega)
open Go.Shelf
def r0D {a b:Nat}:decide (b0g a b<=0)=decide (a<=b):=by
 unfold b0g
 split
 .simp;omega
 .split<;>simp<;>omega
def z0v (w:World)(n d:ByteArray):
 Calls prog 344 #[.string n,.string d] w fun e w'=>e=.returned (.func (.func 357) #[] #[.pointer (some ⟨w.heap.size,0,none⟩),.pointer (some ⟨w.heap.size+1,0,none⟩)])/\w'=(w.alloc (.cells #[.string n] 23)).alloc (.cells #[.string d] 23):=by
 go_enter func344,ntmps344;go_wp2_with fail;go_ret
 exact⟨rfl,rfl⟩
def c1d (w:World)(bn bd N D K T:Nat)(hn:Blk w bn #[.string (a0f N)] 23)(hd:Blk w bd #[.string (a0f D)] 23)(hf:Fits N D K T)(hL:Lay w):
 qb 357 #[.string (a0f K),.string (a0f T),.pointer (some ⟨bn,0,none⟩),.pointer (some ⟨bd,0,none⟩)] w (.tuple #[.int .i64 (sdV N D K T:Nat),.bool (sdB N D K T)]):=by
 have dN:=b0c hf.n (by decide) (by decide);have dD:=b0c hf.d (by decide) (by decide);have dK:=b0c hf.k (by decide) (by decide);have dT:=b0c hf.t (by decide) (by decide);have f1:=d0N hf.n hf.t;have f2:=d0N hf.k hf.d;have dP:=b0c f1 (by decide) (by decide);have dQ:=b0c f2 (by decide) (by decide);have dS:=b0c (h0O f2 (w0Q hf.d (by decide))) (by decide) (by decide);have T1:=fun V hV=>hid (t0q V (a0f N) (a0f T) (a0M dN) (a0M dT) hV)
 have T2:=fun V hV=>hid (t0q V (a0f K) (a0f D) (a0M dK) (a0M dD) hV)
 have T3:=fun V hV=>hid (t0r V (a0f (K*D)) (a0f D) (a0M dQ) (a0M dD) hV)
 have C1:=fun V=>hid (r0S V (a0f (N*T)) (a0f (K*D)) (a0M dP) (a0M dQ))
 have C2:=fun V=>hid (r0S V (a0f (K*D+D)) (a0f (N*T)) (a0M dS) (a0M dP))
 rw[d0m dN dT dP]at T1;rw[d0m dK dD dQ]at T2;rw[d0m dQ dD dS]at T3;rw[k0a dP dQ]at C1;rw[k0a dS dP]at C2;obtain⟨HL,HN,HD⟩:=zg hL hn hd;have c0:=hn.cell 0;have c1:=hd.cell 0;simp only[K6,Cg]at c0 c1;have hSV:sdV N D K T=if N*T<=K*D then 0 else 1:=rfl
 have hSB:sdB N D K T=(decide (N*T<=K*D) || decide (K*D+D<=N*T)):=rfl;rw[hSV,hSB];obtain⟨P,hP⟩:=gn (N*T);obtain⟨Q,hQ⟩:=gn (K*D);rw[hP]at T1 C1 C2 |-;rw[hQ]at T2 T3 C1 C2 |-;obtain⟨sn,hsn⟩:=gn (a0f N);obtain⟨sd,hsd⟩:=gn (a0f D);obtain⟨sk,hsk⟩:=gn (a0f K);obtain⟨st,hst⟩:=gn (a0f T);rw[hsn]at T1 c0 HN;rw[hsd]at T2 T3 c1 HD;rw[hsk]at T2 |-;rw[hst]at T1 |-;clear hsn hsd hsk hst hP hQ hSV hSB dN dD dK dT f1 f2 dP dQ dS hf hL hn hd;go_enter func357,ntmps357;go_wp2_with fail;refine a0j [0,1,3,4] 4 (fun W'=>W'.cell? ⟨bn,0,none⟩=some (.string sn)/\W'.cell? ⟨bd,0,none⟩=some (.string sd)) (by kernel_rfl) (by kernel_rfl) (by kernel_rfl) (by kernel_rfl) ⟨c0,c1⟩ ?_
 iterate 4
  refine⟨_,rfl,?_⟩;apply Exists.intro
  refine⟨.inl ⟨by rfl,?_⟩,?_⟩
  ·(intro W' hW'
    obtain⟨q1,q2⟩:=hW'
    go_simp
    try (with_reducible rfl))
  simp only[Act.put,Bv,Kg,Jt]
 refine a0c (i:=2) (by kernel_rfl) rfl rfl ?_;go_wp2_with fail;refine ny (T1 _ (HL.out.call br0.drew)) fun w1 hb1=>?_;have y1:=hid (show Below w.heap.size w w1 from br0.drew.trans hb1);obtain⟨N1,D1⟩:=zu (HN.out.call y1.out) (HD.out.call y1.out);clear hb1;go_wp2_with fail;refine⟨⟨N1.out.cell 0,D1.out.cell 0⟩,?_⟩;refine a0c (i:=5) (by kernel_rfl) rfl rfl ?_;go_wp2_with fail;refine ny (T2 _ (HL.out.call y1.out)) fun w2 hb2=>?_;have y2:=qx y1 hb2;obtain⟨N2,D2⟩:=zu (N1.out.call hb2) (D1.out.call hb2);clear hb2;go_wp2_with fail;refine⟨⟨N2.out.cell 0,D2.out.cell 0⟩,?_⟩;refine a0c (i:=6) (by kernel_rfl) rfl rfl ?_;go_wp2_with fail;refine⟨⟨N2.out.cell 0,D2.out.cell 0⟩,?_⟩;refine a0c (i:=7) (by kernel_rfl) rfl rfl ?_;go_wp2_with fail;refine⟨⟨N2.out.cell 0,D2.out.cell 0⟩,?_⟩;refine J8 (by kernel_rfl) ?_ _;simp only[b0b];go_wp2_with fail;refine ny (C1 _) fun w3 hb3=>?_;have y3:=qx y2 hb3;have D3:=hid (D2.out.call hb3);clear hb3;have o1:=r0D (a:=P) (b:=Q);obtain⟨x1,hx1⟩:=gn (b0g P Q);rw[hx1]at o1 |-;clear hx1;by_cases h:P<=Q
 .simp only[h,decide_true,Ew,Bool.true_or]at o1 |-;go_wp2_with fail;go_ret2
  exact⟨rfl,y3.out⟩
 .have o2:=r0D (a:=Q+D) (b:=P);have d3:=D3.out.cell 0;simp only[K6,Cg]at d3;obtain⟨x2,hx2⟩:=gn (b0g (Q+D) P);obtain⟨r,hr⟩:=gn (decide (Q+D<=P));rw[hx2]at o2 C2;rw[hr]at o2;simp only[h,decide_false,Eh,Bool.false_or]at o1 |-;clear hx2;go_wp2_with fail;refine nw (T3 _ (HL.out.call y3.out)) y3 fun w4 y4=>?_;go_wp2_with fail;refine nw (C2 _) y4 fun w5 y5=>?_;go_wp2_with fail;go_ret2
  exact⟨rfl,y5.out⟩
def k0r (b k t:ByteArray)(bn bd:Nat)(dn:Bool)(v u:Int):Array Value:=
 #[.string b,.string k,.string t,.func (.func 357) #[] #[.pointer (some ⟨bn,0,none⟩),.pointer (some ⟨bd,0,none⟩)],.bool dn,.int .i64 v,.int .i64 u]
structure Toss (w:World)(g bn bd:Nat)(b:ByteArray)(N D K T u:Nat):Prop where
 blk:Blk w g (k0r b (a0f K) (a0f T) bn bd false 0 u) 330
 num:Blk w bn #[.string (a0f N)] 23
 den:Blk w bd #[.string (a0f D)] 23
 ln:bn<g
 ld:bd<g
def c1f (w:World)(g bn bd:Nat)(b:ByteArray)(N D K T u:Nat)(ht:Toss w g bn bd b N D K T u)(hf:Fits N D K T)(hL:Lay w)(hs:b.size<=100000)(hu:u<=b.size):
 Calls prog 345 #[.pointer (some ⟨g,0,none⟩)] w fun e w'=>
  Below g w w' /\
  ((sdB N D K T=true/\e=.returned .nilFunc/\Blk w' g (k0r b (a0f K) (a0f T) bn bd true (sdV N D K T:Nat) u) 330) \/
   (sdB N D K T=false/\u=b.size/\e=.returned .nilFunc/\Toss w' g bn bd b N D K T u) \/
   (sdB N D K T=false/\u<b.size/\e=.returned (.func (.func 360) #[.pointer (some ⟨g,0,none⟩)] #[])/\Toss w' g bn bd b N D K T u)):=by
 obtain⟨HB,HN,HD,LN,LD,LG,HU⟩:=kx ht.blk ht.num ht.den ht.ln ht.ld (Blk.lt ht.blk) hu;have c1:w.cell? ⟨g,1,none⟩=some (.string (a0f K)):=ht.blk.cell 1;have c2:w.cell? ⟨g,2,none⟩=some (.string (a0f T)):=ht.blk.cell 2;have c3:w.cell? ⟨g,3,none⟩=some (.func (.func 357) #[] #[.pointer (some ⟨bn,0,none⟩),.pointer (some ⟨bd,0,none⟩)]):=ht.blk.cell 3;have e51:∀ args w,(callFunc 357 args).run prog w=.ok (.enter 357 args) w:=Cw func357 (by kernel_rfl) rfl;obtain⟨sk,hsk⟩:=gn (a0f K);obtain⟨st,hst⟩:=gn (a0f T);obtain⟨HK,HT⟩:=zu hsk hst;rw[hsk]at c1;rw[hst]at c2;have CS:=hid (c1d w.drew bn bd N D K T ht.num ht.den hf (hL.call br0.drew));rw[hsk,hst]at CS;obtain⟨xv,hxv⟩:=gn (sdV N D K T);obtain⟨xb,hxb⟩:=gn (sdB N D K T);rw[hxv,hxb]at CS;rw[hxv,hxb];clear hsk hst ht hf hL hs hu hxv hxb;go_enter func345,ntmps345;go_wp2_with fail;refine a0j [0,1,2,3,4,5,6,7,8,9,10,11] 6 (fun W'=>(W'.cell? ⟨g,1,none⟩=some (.string sk)/\W'.cell? ⟨g,2,none⟩=some (.string st))/\W'.cell? ⟨g,3,none⟩=some (.func (.func 357) #[] #[.pointer (some ⟨bn,0,none⟩),.pointer (some ⟨bd,0,none⟩)])) (by kernel_rfl) (by kernel_rfl) (by kernel_rfl) (by kernel_rfl) ⟨⟨c1,c2⟩,c3⟩ ?_
 iterate 12
  refine⟨_,rfl,?_⟩;apply Exists.intro
  refine⟨.inl ⟨by rfl,?_⟩,?_⟩
  ·(intro W' hW'
    obtain⟨⟨q1,q2⟩,q3⟩:=hW'
    go_simp
    try (with_reducible rfl))
  go_frame
 refine a0c (i:=12) (by kernel_rfl) rfl rfl ?_;go_wp2_with fail;refine ny CS fun w1 hb1=>?_;have y1:=hid (show Below w.heap.size w w1 from br0.drew.trans hb1);obtain⟨B1,N1,D1⟩:=zg (HB.out.call y1.out) (HN.out.call y1.out) (HD.out.call y1.out);have d0:w1.cell? ⟨g,0,none⟩=some (.string b):=B1.out.cell 0;have d1:w1.cell? ⟨g,1,none⟩=some (.string (a0f K)):=B1.out.cell 1;have d2:w1.cell? ⟨g,2,none⟩=some (.string (a0f T)):=B1.out.cell 2;have d3:w1.cell? ⟨g,3,none⟩=some (.func (.func 357) #[] #[.pointer (some ⟨bn,0,none⟩),.pointer (some ⟨bd,0,none⟩)]):=B1.out.cell 3;have d4:w1.cell? ⟨g,4,none⟩=some (.bool false):=B1.out.cell 4;have d5:w1.cell? ⟨g,5,none⟩=some (.int .i64 0):=B1.out.cell 5;have d6:w1.cell? ⟨g,6,none⟩=some (.int .i64 u):=B1.out.cell 6;have f4:=B1.out.free 4;have f5:=B1.out.free 5;rw[HK.out]at d1;rw[HT.out]at d2;clear hb1 c1 c2 c3;go_wp2_with fail;refine⟨⟨⟨d1,d2⟩,d3⟩,?_⟩;refine a0V (is:=[13,14,15,16,17]) (g:=0) (by kernel_rfl) rfl ⟨⟨d1,d2⟩,d3⟩ (by kernel_rfl) ?_
 iterate 5
  refine⟨_,rfl,?_⟩;apply Exists.intro
  refine⟨.inl ⟨by rfl,?_⟩,?_⟩
  ·(intro W' hW'
    clear hW'
    go_simp
    try (with_reducible rfl))
  go_frame
 refine J8 (by kernel_rfl) ?_ _;simp only[b0b];cases xb
 .go_wp2_with fail;refine a0j [0,1,2,3,4,5,6,7,8,9,10] 0 (fun W'=>W'.cell? ⟨g,0,none⟩=some (.string b)/\W'.cell? ⟨g,6,none⟩=some (.int .i64 u)) (by kernel_rfl) (by kernel_rfl) (by kernel_rfl) (by kernel_rfl) ⟨d0,d6⟩ ?_
  iterate 11
   refine⟨_,rfl,?_⟩;apply Exists.intro
   refine⟨.inl ⟨by rfl,?_⟩,?_⟩
   ·(intro W' hW'
     obtain⟨q1,q2⟩:=hW'
     go_simp
     try (with_reducible rfl))
   go_frame
  refine J8 (by kernel_rfl) ?_ _;simp only[b0b];have y2:=hid y1.out.drew;have T2:Hid (Toss w1.drew g bn bd b N D K T u):=⟨B1.out,N1.out,D1.out,LN.out,LD.out⟩;obtain⟨r,hr⟩:=gn (((u:Int)==(b.size:Int)));rw[hr];have HR:=hid hr;clear hr d0 d1 d2 d3 d4 d5 d6 f4 f5 e51;cases r
  .have HU2:=hid (show u<b.size from by have h1:=HU.out;have h2:=HR.out;simp at h2;omega);go_wp2_with fail;go_ret
   exact⟨y2.out.mono (De LG.out),.inr ⟨HU2.out,rfl,T2.out⟩⟩
  .have HU2:=hid (show u=b.size from by have h2:=HR.out;simp at h2;omega);go_wp2_with fail;go_ret
   exact⟨y2.out.mono (De LG.out),.inl ⟨HU2.out,rfl,T2.out⟩⟩
 .go_wp2_with fail;go_ret
  have r1:=(B1.out.set 4 (.bool true)).set 5 (.int .i64 xv);refine⟨?_,⟨rfl,?_⟩⟩
  .exact ((y1.out.mono (De LG.out)).setCell nr _).setCell nr _
  .simpa[k0r]using r1
end
section
variable {P : Program} {Q : Exit -> Act -> World -> Prop}
def c0t (P:Program)(ops:Array Oper)(Q:Exit->Act->World->Prop)(rest:List Oper):Exit->Act->World->Prop
 | .normal,a,w=>wpList P ops Q rest a w
 | e,a,w=>Q e a w
theorem j0x {md:Region.Mode}{ops:Array Oper}:∀ (fuel:Nat) (listed:Array Bool) (a:Act) (w:World),wpAny P md ops (b0b Q) fuel listed a w->wpAny P md ops Q fuel listed a w:=by
 intro fuel
 induction fuel with
 | zero=>exact fun _ _ _ h=>h
 | succ fuel ih=>
  rintro listed a w ⟨h1,h2⟩;refine⟨h1,fun i hi=>?_⟩;have h:=h2 i hi;unfold wpOp at h |-
  split at h
  .rename_i ho
   exact ih _ _ _ h
  .rename_i o ho
   split at h
   .rename_i hw
    rw[J3 hw];rcases h with h | ⟨_,a',w',h⟩
    .exact .inl (l0O (fun a w h=>ih _ _ _ h) (fun _ _ _ h=>h.elim) (fun ⟨_,_,h⟩=>h.elim) h)
    .exact h.elim
   .rename_i hw
    rw[J2 hw];exact ih _ _ _ h
end
section
variable {P : Program} {Q : Exit -> Act -> World -> Prop} {md : Region.Mode} {ops : Array Oper} {oz : Oper}
inductive Dep (md:Region.Mode) (ops:Array Oper) (oz:Oper):Nat->Prop
 | here {e:Edge}:e∈oz.after->Region.binds md e=true->Dep md ops oz e.on
 | step {i:Nat} {o:Oper} {f:Edge}:Dep md ops oz i->ops[i]?=some o->f∈o.after->Region.binds md f=true->Dep md ops oz f.on
theorem Dep.on {listed:Array Bool}(hc:Closed md ops listed)(h:∀ e∈oz.after,Region.binds md e=true->listed.getD e.on false=true){i:Nat}(hd:Dep md ops oz i):listed.getD i false=true:=by
 induction hd with
 | here he hb=>exact h _ he hb
 | step _ ho hf hb ih=>exact hc _ _ ho ih _ hf hb
theorem g0q {L0:List Nat}(hz:∀ e∈oz.after,Region.binds md e=true->e.on<ops.size)(hz2:∀ i,i<ops.size->i∈L0\/Dep md ops oz i)(hfwd:∀ i o,ops[i]?=some o->∀ e∈o.after,Region.binds md e=true->e.on<i){listed:Array Bool}(hs:listed.size=ops.size)(hcl:Closed md ops listed)(h0L:∀ i∈L0,listed.getD i false=true)(hn:¬ l0J ops.size listed):
 ∀ j,j∈Region.ready md (ops.push oz) (listed.push false)->j∈Region.ready md ops listed:=by
 intro j hj;rw[Hb]at hj |-;obtain⟨h0,o,ho,hall⟩:=hj;have hlt:j<ops.size+1:=by have:=(I7.1 ho).1;simpa using this
 by_cases hj':j=ops.size
 .subst hj';have:o=oz:=by simpa using ho.symm
  subst this;refine absurd (fun i hi=>?_) hn;rcases hz2 i hi with h | h
  .exact h0L i h
  .refine Dep.on hcl (fun e he hb=>?_) h;have h1:=hall e he hb;have h2:=hz e he hb;rwa[a0v (by omega)]at h1
 .have hjl:j<ops.size:=by omega
  rw[Df hjl]at ho;rw[a0v (by omega)]at h0;refine⟨h0,o,by rw[D9 hjl];exact ho,fun e he hb=>?_⟩;have h1:=hall e he hb;have h2:=hfwd j o (by rw[D9 hjl];exact ho) e he hb;rwa[a0v (by omega)]at h1
def v0H (md:Region.Mode)(ops:Array Oper)(j i:Nat):Bool:=match ops[j]? with | some o=>o.after.toList.any (fun f=>Region.binds md f && f.on==i) | none=>false
theorem p0L {j i:Nat}(h:v0H md ops j i=true):∃ o f,ops[j]?=some o/\f∈o.after/\Region.binds md f=true/\f.on=i:=by
 unfold v0H at h
 split at h
 .rename_i o ho
  simp only[Dt,Aa,Fi,Dc]at h;obtain⟨f,hf,hb,hon⟩:=h;exact⟨o,f,ho,hf,hb,hon⟩
 .cases h
def c1v (md:Region.Mode)(ops:Array Oper)(known:List Nat):List (Nat×Nat)->List Nat
 | []=>known
 | (i,j)::r=>c1v md ops (if (known.contains j && v0H md ops j i)=true then i::known else known) r
theorem n0d:∀ (r:List (Nat×Nat)) (known:List Nat),(∀ i∈known,Dep md ops oz i)->∀ i∈c1v md ops known r,Dep md ops oz i
 | [],known,h=>h
 | (i,j)::r,known,h=>by
  unfold c1v;refine n0d r _ ?_;by_cases hc:(known.contains j && v0H md ops j i)=true
  .rw[J3 hc];simp only[Aa]at hc;obtain⟨hj,hx⟩:=hc;obtain⟨o,f,ho,hf,hb,hon⟩:=p0L hx;intro m hm;rcases Ck.1 hm with rfl | hm
   .rw[<- hon];exact .step (h j (by simpa using hj)) ho hf hb
   .exact h m hm
  .rw[J2 hc];exact h
def m0R (md:Region.Mode)(ops:Array Oper)(listed:Array Bool):Bool:=
 (List.range ops.size).all fun j => !listed.getD j false || (match ops[j]? with | some o=>o.after.toList.all (fun e => !Region.binds md e || listed.getD e.on false) | none=>true)
theorem l0B {listed:Array Bool}(h:m0R md ops listed=true):Closed md ops listed:=by
 intro j o ho hj e he hb;simp only[m0R,Bz,Gj,Av,By]at h;rcases h j (I7.1 ho).1 with h1 | h1
 .rw[hj]at h1;cases h1
 .rw[ho]at h1;simp only[Bz,Dc,Av,By]at h1;rcases h1 e he with h2 | h2
  .rw[hb]at h2;cases h2
  .exact h2
theorem Closed.pushed {listed:Array Bool}(h:Closed md ops listed)(hs:listed.size=ops.size)(hfwd:∀ i o,ops[i]?=some o->∀ e∈o.after,Region.binds md e=true->e.on<i):Closed md (ops.push oz) (listed.push false):=by
 intro j o ho hj e he hb;have hlt:j<ops.size+1:=by have:=(I7.1 ho).1;simpa using this
 by_cases hj2:j=ops.size
 .subst hj2
  exfalso
  simp[Array.getD,<- hs]at hj
 .have h1:j<ops.size:=by omega
  rw[Df h1]at ho;rw[a0v (by omega)]at hj;have ho':ops[j]?=some o:=by rw[D9 h1];exact ho
  have h2:=hfwd j o ho' e he hb;rw[a0v (by omega)];exact h j o ho' hj e he hb
theorem g0V {l:List Oper}{S:World->Prop}{L L':Act->Prop}(hL:∀ a,L a->L' a):∀ (is:List Nat) (a:Act),e0n P l S L is a->e0n P l S L' is a
 | [],a,h=>hL a h
 | i::is,a,⟨o,ho,v,hy,h⟩=>⟨o,ho,v,hy,g0V hL is _ h⟩
theorem s0t:∀ (fuel:Nat) (listed:Array Bool) (a:Act) (w:World),wpAny P md ops Q fuel listed a w->wpAnyH P md ops Q (fun _=>True) fuel listed a w:=by
 intro fuel
 induction fuel with
 | zero=>exact fun _ _ _ h=>h
 | succ fuel ih=>
  rintro listed a w ⟨h1,h2⟩;refine⟨h1,fun i hi=>?_⟩;have h:=h2 i hi;unfold wpOp at h |-
  split at h
  .rename_i ho
   exact⟨trivial,ih _ _ _ h⟩
  .rename_i o ho
   split at h
   .rename_i hw
    rw[J3 hw];exact h.imp (fun h=>Oper.wp_mono (fun a w h=>⟨trivial,ih _ _ _ h⟩) h) id
   .rename_i hw
    rw[J2 hw];exact⟨trivial,ih _ _ _ h⟩
end
section
variable {P : Program} {Q : Exit -> Act -> World -> Prop} {md : Region.Mode} {ops : Array Oper} {oz : Oper}
theorem l0Q {o:Oper}{tmps:Array Value}(h:∀ g,o.guard=some g->g.1<ops.size):Region.wanted o (yielded (ops.push oz) tmps)=Region.wanted o (yielded ops tmps):=by
 unfold Region.wanted;cases hg:o.guard with
 | none=>rfl
 | some g=>
  obtain⟨j,b⟩:=g;have hj:=h _ hg;dsimp only at hj |-;have e:yielded (ops.push oz) tmps j=yielded ops tmps j:=by
   unfold yielded;rw[Df hj,D9 hj]
  rw[e]
theorem l0P {Q':Exit->Act->World->Prop}{L0:List Nat}(hgd:∀ (i:Nat) (o:Oper),ops[i]?=some o->∀ g,o.guard=some g->g.1<ops.size)(hgz:oz.guard=none)
 (hz:∀ e∈oz.after,Region.binds md e=true->e.on<ops.size) (hz2:∀ i,i<ops.size->i∈L0\/Dep md ops oz i)
 (hfwd:∀ i o,ops[i]?=some o->∀ e∈o.after,Region.binds md e=true->e.on<i)
 (hP:∀ c a w,Q' (.panic c) a w->Q (.panic c) a w) (hL:LetsOut Q'->LetsOut Q) (hN:∀ a w,Q' .normal a w->oz.wp P a w (fun a w=>Q .normal a w) Q\/(oz.asks P a w/\LetsOut Q)):
 ∀ (fuel:Nat) (listed:Array Bool) (a:Act) (w:World),listed.size=ops.size->Closed md ops listed->(∀ i∈L0,listed.getD i false=true)->wpAny P md ops Q' fuel listed a w->wpAny P md (ops.push oz) Q (fuel+1) (listed.push false) a w:=by
 have lastStep:∀ (fuel:Nat) (listed:Array Bool) (a:Act) (w:World),listed.size=ops.size->l0J ops.size listed->Q' .normal a w->wpAny P md (ops.push oz) Q (fuel+1) (listed.push false) a w:=by
  intro fuel listed a w hs hall hq;have hmem:ops.size∈Region.ready md (ops.push oz) (listed.push false):=by
   rw[Hb];refine⟨by rw[<- hs];simp[Array.getD],oz,by simp,fun e he hb=>?_⟩;have:=hz e he hb;rw[a0v (by omega)];exact hall _ this
  refine⟨fun h=>(by rw[h]at hmem;cases hmem),fun j hj=>?_⟩;have hje:=e0p hs hall j hj;subst hje;have hdone:Region.ready md (ops.push oz) ((listed.push false).setIfInBounds ops.size true) = []:=by
   refine Cv.2 fun k hk=>?_
   rw[Hb]at hk;obtain⟨h0,o,ho,_⟩:=hk;have hlt:k<ops.size+1:=by have:=(I7.1 ho).1;simpa using this
   by_cases hk':k=ops.size
   .subst hk';simp[Array.getD,hs]at h0
   .have h1:k<ops.size:=by omega
    have h2:=hall k h1;have h3:k<listed.size:=by omega
    simp[Array.getD,h3,Lb h3,Ne.symm hk',Lm h3]at h0 h2;rw[h0]at h2;cases h2
  unfold wpOp;simp only[Array.getElem?_push_size];have hw:Region.wanted oz (yielded (ops.push oz) a.tmps)=true:=by simp[Region.wanted,hgz]
  rw[J3 hw];refine (hN a w hq).imp (fun hx=>Oper.wp_mono (fun a' w' h'=>?_) hx) id;cases fuel with
  | zero=>exact⟨hdone,h'⟩
  | succ fuel=>exact⟨fun _=>h',fun k hk=>by rw[hdone]at hk;cases hk⟩
 intro fuel
 induction fuel with
 | zero=>
  intro listed a w hs _ _ h;exact lastStep 0 listed a w hs (d0v hfwd hs h.1) h.2
 | succ fuel ih=>
  intro listed a w hs hcl h0L h;by_cases hall:l0J ops.size listed
  .refine lastStep (fuel+1) listed a w hs hall (h.1 (Cv.2 fun k hk=>?_));rw[Hb]at hk;obtain⟨h0,o,ho,_⟩:=hk;have h1:=(I7.1 ho).1;have h2:=hall k h1;have h3:k<listed.size:=by omega
   simp[Array.getD,h3]at h0 h2;rw[h0]at h2;cases h2
  .refine⟨fun hr=>?_,fun j hj=>?_⟩
   .have:Region.ready md ops listed = []:=Cv.2 fun k hk=>by
     have hk2:k∈Region.ready md (ops.push oz) (listed.push false):=by
      rw[Hb]at hk |-;obtain⟨h0,o,ho,hh⟩:=hk;have h1:=(I7.1 ho).1;refine⟨by rw[a0v (by omega)];exact h0,o,by rw[Df h1,<- D9 h1];exact ho,fun e he hb=>?_⟩;rw[a0v (by have:=hfwd k o ho e he hb;omega)];exact hh e he hb
     rw[hr]at hk2;cases hk2
    exact absurd (d0v hfwd hs this) hall
   .have hj':=g0q hz hz2 hfwd hs hcl h0L hall j hj;have h1:=h.2 j hj';have hlt:j<ops.size:=by
     rw[Hb]at hj';obtain⟨_,o,ho,_⟩:=hj';exact (I7.1 ho).1
    unfold wpOp at h1 |-;rw[Df hlt];rw[D9 hlt]at h1;simp only at h1 |-;have hg:=l0Q (oz:=oz) (tmps:=a.tmps) (hgd j _ (D9 hlt));rw[hg];by_cases hw:Region.wanted ops[j] (yielded ops a.tmps)=true
    .rw[J3 hw]at h1 |-;rcases h1 with h1 | ⟨h1,h2⟩
     .refine .inl (l0O (fun a' w' h'=>?_) hP hL h1);rw[j0d (by omega)];exact ih _ _ _ (by simp[hs]) (hcl.set hj') (fun i hi=>Oi (h0L i hi)) h'
     .exact .inr ⟨h1,hL h2⟩
    .rw[J2 hw]at h1 |-;rw[j0d (by omega)];exact ih _ _ _ (by simp[hs]) (hcl.set hj') (fun i hi=>Oi (h0L i hi)) h1
def j0b (md:Region.Mode)(ops:Array Oper)(oz:Oper)(L0:List Nat)(via:List (Nat×Nat)):Bool:=
 ops.toList.all (fun o=>match o.guard with | none=>true | some g=>decide (g.1<ops.size)) && oz.guard.isNone && oz.after.toList.all (fun e => !Region.binds md e || decide (e.on<ops.size)) &&
 (List.range ops.size).all (fun i=>L0.contains i || (c1v md ops ((oz.after.toList.filter (Region.binds md)).map (·.on)) via).contains i) &&
 (List.range ops.size).all (fun i=>match ops[i]? with | some o=>o.after.toList.all (fun e => !Region.binds md e || decide (e.on<i)) | none=>true)
def Kk:=@List.mem_filter
theorem r0L {Q':Exit->Act->World->Prop}{L0:List Nat}{via:List (Nat×Nat)}{a:Act}{w:World}{fuel:Nat}{listed:Array Bool}(hB:j0b md ops oz L0 via=true)(hs:listed.size=ops.size)(hcl:Closed md ops listed)(h0L:∀ i∈L0,listed.getD i false=true)
 (hP:∀ c a w,Q' (.panic c) a w->Q (.panic c) a w) (hL:LetsOut Q'->LetsOut Q) (hN:∀ a w,Q' .normal a w->oz.wp P a w (fun a w=>Q .normal a w) Q\/(oz.asks P a w/\LetsOut Q))
 (h:wpAny P md ops Q' fuel listed a w):wpAny P md (ops.push oz) Q (fuel+1) (listed.push false) a w:=by
 simp only[j0b,Aa,Bz,Gj,H7,Jc,Dc,Av,By]at hB;obtain⟨⟨⟨⟨h1,h2⟩,h3⟩,h4⟩,h5⟩:=hB
 refine l0P (L0:=L0) (fun i o ho g hg=>by
  have:=h1 o (Array.mem_of_getElem? ho);rw[hg]at this;simpa using this) h2 (fun e he hb=>?_) (fun i hi=>?_) (fun i o ho e he hb=>?_) hP hL hN fuel listed a w hs hcl h0L h
 .rcases h3 e he with h | h
  .rw[hb]at h;cases h
  .exact h
 .rcases h4 i hi with h | h
  .exact .inl (by simpa using h)
  .refine .inr (n0d via _ (fun j hj=>?_) i (by simpa using h));obtain⟨e,he,rfl⟩:=Gi.1 hj;obtain⟨he1,he2⟩:=Kk.1 he;exact .here (by simpa using he1) he2
 .have:=h5 i (I7.1 ho).1;rw[ho]at this;simp only[Bz,Dc,Av,By,H7]at this;rcases this e he with h | h
  .rw[hb]at h;cases h
  .exact h
def h0E (l:List Oper)(L0:List Nat)(via:List (Nat×Nat)):Nat->Nat->Bool
 | 0,_=>true
 | k+1,n=>(match l[n]? with | some oz=>j0b .any (l.take n).toArray oz L0 via | none=>false) && h0E l L0 via k (n+1)
theorem g0a (l:List Oper)(L0:List Nat)(via:List (Nat×Nat)){a:Act}{w:World}:∀ (k n fuel:Nat) (listed:Array Bool),n+k=l.length->h0E l L0 via k n=true->listed.size=(l.take n).toArray.size->Closed .any (l.take n).toArray listed->(∀ i∈L0,listed.getD i false=true) ->
 wpAny P .any (l.take n).toArray (c0t P l.toArray Q (l.drop n)) fuel listed a w ->
 wpAny P .any l.toArray Q (fuel+k) (listed++Array.replicate k false) a w
 | 0,n,fuel,listed,hn,_,hs,hc,h0,h=>by
  have e1:l.take n=l:=E7 (by omega);have e2:l.drop n = []:=Cj (by omega);have e3:c0t P l.toArray Q []=Q:=by
   funext e a w
   cases e<;>simp[c0t,wpList]
  rw[e1,e2,e3]at h;simpa using h
 | k+1,n,fuel,listed,hn,hB,hs,hc,h0,h=>by
  simp only[h0E,Aa]at hB;obtain⟨h1,h2⟩:=hB;have hlt:n<l.length:=by omega
  rw[Q0 hlt]at h1;have e1:l.take (n+1)=l.take n ++ [l[n]]:=Fe hlt;have e2:l.drop n=l[n]::l.drop (n+1):=S9 hlt;have e3:(l.take (n+1)).toArray=(l.take n).toArray.push l[n]:=by rw[e1];simp
  have h1':=h1;simp only[j0b,Aa,Bz,Gj,Jc,Dc,Av,By,H7]at h1';have hgz:l[n].guard=none:=h1'.1.1.1.2;have hfwd:∀ (i:Nat) (o:Oper),(l.take n).toArray[i]?=some o->∀ e∈o.after,Region.binds .any e=true->e.on<i:=by
   intro i o ho e he hb;have:=h1'.2 i (I7.1 ho).1;rw[ho]at this;simp only[Bz,Dc,Av,By,H7]at this;rcases this e he with h | h
   .rw[hb]at h;cases h
   .exact h
  have step:=r0L (P:=P) (md:=.any) (ops:=(l.take n).toArray) (oz:=l[n]) (Q:=c0t P l.toArray Q (l.drop (n+1))) (Q':=c0t P l.toArray Q (l.drop n)) (L0:=L0) (via:=via) (a:=a) (w:=w) (fuel:=fuel) (listed:=listed) h1 hs hc h0 (fun _ _ _ h=>h) (fun ⟨a,w,h⟩=>⟨a,w,h⟩) (fun a w hq=>by
   have hq':wpList P l.toArray Q (l.drop n) a w:=hq;rw[e2]at hq';unfold wpList at hq';have hw:Region.wanted l[n] (yielded l.toArray a.tmps)=true:=by simp[Region.wanted,hgz]
   rw[J3 hw]at hq';rcases hq' with hq' | ⟨h3,h4⟩
   .exact .inl (l0O (fun _ _ h=>h) (fun _ _ _ h=>h) (fun ⟨a,w,h⟩=>⟨a,w,h⟩) hq')
   .exact .inr ⟨h3,by obtain⟨a,w,h⟩:=h4;exact⟨a,w,h⟩⟩) h
  rw[<- e3]at step
  have:=g0a l L0 via k (n+1) (fuel+1) (listed.push false) (by omega) h2 (by rw[e3,Ih,Ih,hs]) (by rw[e3];exact hc.pushed hs hfwd) (fun i hi=>by
   have hx:=h0 i hi;by_cases hi2:i<listed.size
   .rw[a0v hi2];exact hx
   .simp[Array.getD,hi2]at hx) step
  have e5:listed.push false++Array.replicate k false=listed++Array.replicate (k+1) false:=by
   apply Gu
   intro i;simp only[Array.getElem?_append,Array.getElem?_push,Ih,Array.getElem?_replicate];by_cases h1:i<listed.size
   .have h2:i<listed.size+1:=by omega
    have h3:¬ i=listed.size:=by omega
    simp[h1,h2,h3]
   .by_cases h2:i=listed.size
    .subst h2;simp
    .have h3:¬ i<listed.size+1:=by omega
     simp[h1,h3];have e:i-(listed.size+1)<k↔i-listed.size<k+1:=by omega
     simp[e]
  rw[e5]at this;rw[show fuel+(k+1)=fuel+1+k by omega];exact this
theorem h0K {id:Nat}{a:Act}{w:World}{l:List Oper}(n k:Nat)(pre:List Nat)(via:List (Nat×Nat))(is:List Nat)(g:Nat)(S:World->Prop)(hm:P.follows .mixedOrders=true)(hk:n+k=l.length)
 (hsel0:Region.noSelect l.toArray=true) (hpre:k0U .any l.toArray pre (Array.replicate l.toArray.size false)=true)
 (hlast:h0E l pre via k n=true) (hset:o0V pre (Array.replicate l.toArray.size false)=o0V pre (Array.replicate n false)++Array.replicate k false) (hsz:(o0V pre (Array.replicate n false)).size=(l.take n).toArray.size) (hclo:m0R .any (l.take n).toArray (o0V pre (Array.replicate n false))=true) (hon:(pre.all fun i=>(o0V pre (Array.replicate n false)).getD i false)=true)
 (hsel:Region.noSelect (l.take n).toArray=true) (hg:g+is.length+k+pre.length=l.toArray.size) (hB:k0U .any (l.take n).toArray is (o0V pre (Array.replicate n false))=true) (hS:S w.drew)
 (h:e0n P l (fun _=>True) (fun a1=>e0n P (l.take n) S (fun a'=>wpAnyH P .any (l.take n).toArray (b0b (c0t P l.toArray (b0b Q) (l.drop n))) S g (o0V is (o0V pre (Array.replicate n false))) a' w.drew) is a1) pre a):(Code.region id l.toArray true).wp P Q a w:=by
 refine wp_region_any hm (j0x _ _ _ _ (Mh (S:=fun _=>True) _ _ _ _ ?_));have h1:=d0d (P:=P) (md:=.any) (Q:=Q) (S:=fun _=>True) (w:=w.drew) hsel0 (g:=g+is.length+k) trivial pre (Array.replicate l.toArray.size false) a hpre ?_
 .rw[hg]at h1;exact h1
 .refine g0V (fun a1 h2=>?_) pre a h;refine s0t _ _ _ _ ?_;rw[hset];refine g0a l pre via k n (g+is.length) _ hk hlast hsz (l0B hclo) (fun i hi=>by simpa using List.all_eq_true.1 hon i hi) ?_;exact j0x _ _ _ _ (Mh (S:=S) _ _ _ _ (d0d (P:=P) (md:=.any) (S:=S) hsel (g:=g) hS is _ a1 hB h2))
end
section
open Go.Shelf
def o0x (V:World)(K:Nat)(hK:K<10 ^ eK)(hL:Lay V):qb 359 #[.string (a0f K),.string (a0f K)] V (.string (a0f (K+K))):=by
 have dK:=b0c hK (by decide) (by decide);have h:=t0r V (a0f K) (a0f K) (a0M dK) (a0M dK) hL;rw[d0m dK dK (b0c (h0O hK hK) (by decide) (by decide))]at h;exact h
def d1d (V:World)(K:Nat)(hK:K<10 ^ (eK+1))(hL:Lay V):qb 359 #[.string (a0f K),.string ⟨#[49]⟩] V (.string (a0f (K+1))):=by
 have dK:=b0c hK (by decide) (by decide);have e1:(⟨#[49]⟩:ByteArray)=a0f 1:=by unfold a0f;rw[f0X]
 have d1:nDigits 1<=4000:=b0c (n:=1) (k:=1) (by decide) (by decide) (by decide);have h:=t0r V (a0f K) (a0f 1) (a0M dK) (a0M d1) hL;rw[d0m dK d1 (b0c (k:=eK+1+1) (h0O hK (J7 (show 1<10 by decide) (Nat.le_self_pow (by decide) 10))) (by decide) (by decide))]at h;rw[e1];exact h
def Aj:=@List.drop_succ_cons
def c1e (w:World)(g bn bd:Nat)(b:ByteArray)(N D K T u:Nat)(ht:Toss w g bn bd b N D K T u)(hf:Fits N D K T)(hL:Lay w)(hs:b.size<=100000)(hu:u<b.size)(hG:t0H g):
 Calls prog 360 #[.pointer (some ⟨g,0,none⟩)] w fun e w'=>
  Below g w w'/\e=.returned (.func (.func 345) #[.pointer (some ⟨g,0,none⟩)] #[])/\Toss w' g bn bd b N D (K+K+(if b[u]=49 then 1 else 0)) (T+T) (u+1):=by
 obtain⟨HB,HN,HD,LN,LD,LG,HL,HS,HG⟩:=kw ht.blk ht.num ht.den ht.ln ht.ld (Blk.lt ht.blk) hL hs hG;have c1:w.cell? ⟨g,1,none⟩=some (.string (a0f K)):=ht.blk.cell 1;have c2:w.cell? ⟨g,2,none⟩=some (.string (a0f T)):=ht.blk.cell 2;have P1:=fun V hV=>hid (o0x V K hf.k hV)
 have P2:=fun V hV=>hid (o0x V T hf.t hV)
 have P3:=fun V hV=>hid (d1d V (K+K) (h0O hf.k hf.k) hV)
 obtain⟨sk,hsk⟩:=gn (a0f K);obtain⟨st,hst⟩:=gn (a0f T);rw[hsk]at c1 P1 HB;rw[hst]at c2 P2 HB;clear hsk hst ht hf hL hs hG;go_enter func360,ntmps360;go_wp2_with fail;refine h0K 20 6 [1] [(13,14),(12,13),(11,12),(17,18),(16,17),(15,16),(20,21),(23,24)] [0,2,3,4,5,6,7,8,9,11,12,13,14,15,16,17,18] 2 (fun W'=>W'.cell? ⟨g,1,none⟩=some (.string sk)/\W'.cell? ⟨g,2,none⟩=some (.string st)) (by kernel_rfl) (by kernel_rfl) (by kernel_rfl) (by kernel_rfl) (by kernel_rfl) (by kernel_rfl) (by kernel_rfl) (by kernel_rfl) (by kernel_rfl) (by kernel_rfl) (by kernel_rfl) (by kernel_rfl) ⟨c1,c2⟩ ?_
 iterate 1
  refine⟨_,rfl,?_⟩;apply Exists.intro
  refine⟨.inl ⟨by rfl,?_⟩,?_⟩
  ·(intro W' hW'
    clear hW'
    go_simp
    try (with_reducible rfl))
  go_frame
 iterate 17
  refine⟨_,rfl,?_⟩;apply Exists.intro
  refine⟨.inl ⟨by rfl,?_⟩,?_⟩
  ·(intro W' hW'
    obtain⟨q1,q2⟩:=hW'
    go_simp
    try (with_reducible rfl))
  go_frame
 refine a0c (i:=10) (by kernel_rfl) rfl rfl ?_;go_wp2_with fail;refine ny (P1 _ (HL.out.call br0.drew)) fun w1 hb1=>?_;have y1:=hid (show Below w.heap.size w w1 from br0.drew.trans hb1);have B1:=hid (HB.out.call y1.out);clear hb1;go_wp2_with fail;refine⟨⟨B1.out.cell 1,B1.out.cell 2⟩,?_⟩;refine a0c (i:=19) (by kernel_rfl) rfl rfl ?_;go_wp2_with fail;refine ny (P2 _ (HL.out.call y1.out)) fun w2 hb2=>?_;have y2:=qx y1 hb2;obtain⟨B2,N2,D2⟩:=zg (HB.out.call y2.out) (HN.out.call y2.out) (HD.out.call y2.out);clear hb2;go_wp2_with fail;refine⟨⟨B2.out.cell 1,B2.out.cell 2⟩,?_⟩;refine J8 (by kernel_rfl) ?_ _;simp only[b0b,c0t,Aj,K9];have d1:w2.cell? ⟨g,1,none⟩=some (.string sk):=B2.out.cell 1;have d2:w2.cell? ⟨g,2,none⟩=some (.string st):=B2.out.cell 2;have f1:=B2.out.free 1;have f2:=B2.out.free 2;obtain⟨kk,hkk⟩:=gn (a0f (K+K));obtain⟨tt,htt⟩:=gn (a0f (T+T));rw[hkk,htt];obtain⟨HKK,HTT⟩:=zu hkk htt;rw[hkk]at P3;clear hkk htt c1 c2 P1 P2;go_wp2_with fail;simp only[b0b];have b3:Blk ((w2.setCell ⟨g,1,none⟩ (.string kk)).setCell ⟨g,2,none⟩ (.string tt)) g (k0r b kk tt bn bd false 0 u) 330:=by
  have:=(B2.out.set 1 (.string kk)).set 2 (.string tt);simpa[k0r]using this
 have z3:Below g w2 ((w2.setCell ⟨g,1,none⟩ (.string kk)).setCell ⟨g,2,none⟩ (.string tt)):=(((J4 g w2).setCell nr _).setCell nr _);obtain⟨w3,hw3⟩:=gn ((w2.setCell ⟨g,1,none⟩ (.string kk)).setCell ⟨g,2,none⟩ (.string tt));rw[hw3]at b3 z3 |-;obtain⟨B3,N3,D3,y3,L3⟩:=zd b3 (N2.out.below z3 LN.out) (D2.out.below z3 LD.out) ((y2.out.mono (De LG.out)).trans z3) ((HL.out.call y2.out).below z3 HG.out);clear b3 z3 hw3 d1 d2 f1 f2;have d0:w3.cell? ⟨g,0,none⟩=some (.string b):=B3.out.cell 0;have d6:w3.cell? ⟨g,6,none⟩=some (.int .i64 u):=B3.out.cell 6;have h0:=qw u
 have h1:(u:Int)<(b.size:Int):=by omega
 go_wp2_with fail;refine a0j [0,1,2,3,4,5,6,7,8,9,10] 0 (fun W'=>W'.cell? ⟨g,0,none⟩=some (.string b)/\W'.cell? ⟨g,6,none⟩=some (.int .i64 u)) (by kernel_rfl) (by kernel_rfl) (by kernel_rfl) (by kernel_rfl) ⟨d0,d6⟩ ?_
 iterate 11
  refine⟨_,rfl,?_⟩;apply Exists.intro
  refine⟨.inl ⟨by rfl,?_⟩,?_⟩
  ·(intro W' hW'
    obtain⟨q1,q2⟩:=hW'
    go_simp
    try (with_reducible rfl))
  go_frame
 refine J8 (by kernel_rfl) ?_ _;simp only[b0b];have e1:((b[u].toNat:Int)==49)=decide (b[u]=49):=by
  rw[Bk,Fi,Fc]
  constructor
  .intro h;apply Fa.1
   simp;omega
  .intro h;rw[h]
   rfl
 rw[e1];have d1:w3.cell? ⟨g,1,none⟩=some (.string kk):=B3.out.cell 1;have f1:=B3.out.free 1;have f6:=B3.out.free 6;have q6:IntKind.i64.wrap ((u:Int)+1)=(u:Int)+1:=U0 _ ⟨by omega,by have:=HS.out;omega⟩;clear e1;by_cases hb:b[u]=49
 .simp only[hb,decide_true,Ew];have HBU:=hid hb;clear hb;go_wp2_with fail;refine ny (P3 _ (L3.out.call br0.drew)) fun w4 hb4=>?_;have y34:=hid (show Below w3.heap.size w3 w4 from br0.drew.trans hb4);clear hb4;have lg3:=Blk.lt B3.out;obtain⟨B4,N4,D4,y4⟩:=zc (B3.out.call y34.out) (N3.out.call y34.out) (D3.out.call y34.out) (y3.out.trans (y34.out.mono (De lg3)));have g1:w4.cell? ⟨g,1,none⟩=some (.string kk):=B4.out.cell 1;have g6:w4.cell? ⟨g,6,none⟩=some (.int .i64 u):=B4.out.cell 6;have k1:=B4.out.free 1;have k6:=B4.out.free 6;clear d0 d1 d6 f1 f6 lg3;go_wp2_with fail;go_ret
  have r:=(B4.out.set 1 (.string (a0f (K+K+1)))).set 6 (.int .i64 ((u:Int)+1));refine⟨(y4.out.setCell nr _).setCell nr _,rfl,?_⟩;refine⟨?_,(N4.out.other (by simp;have:=LN.out;omega) _).other (by simp;have:=LN.out;omega) _,(D4.out.other (by simp;have:=LD.out;omega) _).other (by simp;have:=LD.out;omega) _,LN.out,LD.out⟩;rw[HTT.out,show ((u+1:Nat):Int)=(u:Int)+1 by omega];exact r
 .simp only[hb,decide_false,Eh,At];have HBU:=hid hb;clear hb d1 f1;go_wp2_with fail;go_ret
  have r:=(show Blk w3.drew g (k0r b kk tt bn bd false 0 u) 330 from B3.out).set 6 (.int .i64 ((u:Int)+1));refine⟨y3.out.drew.setCell nr _,rfl,?_⟩;refine⟨?_,(N3.out).other (by simp;have:=LN.out;omega) _,(D3.out).other (by simp;have:=LD.out;omega) _,LN.out,LD.out⟩;rw[HKK.out,HTT.out,show ((u+1:Nat):Int)=(u:Int)+1 by omega];exact r
def b1U (x:Bool×Nat×Nat):Value:=.agg #[.bool x.1,.int .i64 (x.2.1:Nat),.int .i64 (x.2.2:Nat)]
def l0b (g:Nat):Value:=.func (.func 345) #[.pointer (some ⟨g,0,none⟩)] #[]
def p0b (g:Nat):Value:=.func (.func 360) #[.pointer (some ⟨g,0,none⟩)] #[]
def k0n (w:World)(g:Nat):Nat:=match w.cell? ⟨g,6,none⟩ with | some (.int _ u)=>u.toNat | _=>0
def e0I (n g:Nat)(nx:Value)(w:World):Nat:=match nx with
 | .func (.func f) _ _=>2*(n-k0n w g)+(if f=345 then 2 else 1)
 | _=>0
def d1k (g bn bd:Nat)(b:ByteArray)(N D:Nat)(nx:Value)(w:World):Prop:=
 (∃ K T u,nx=l0b g/\Toss w g bn bd b N D K T u/\Cell K T u/\u<=b.size/\b0u N D b.data.toList 0 1 0=b0u N D b.data.toList K T u) \/
 (∃ K T u,nx=p0b g/\Toss w g bn bd b N D K T u/\Cell K T u/\u<b.size/\sdB N D K T=false/\b0u N D b.data.toList 0 1 0=b0u N D b.data.toList K T u) \/
 (∃ (k t:ByteArray) (x:Bool×Nat×Nat),nx=.nilFunc/\Blk w g (k0r b k t bn bd x.1 (x.2.1:Nat) (x.2.2:Nat)) 330/\x=b0u N D b.data.toList 0 1 0)
def d0U {w:World}{g bn bd:Nat}{b k t:ByteArray}{d:Bool}{v:Int}{u:Nat}(h:Blk w g (k0r b k t bn bd d v u) 330):k0n w g=u:=by
 have h6:w.cell? ⟨g,6,none⟩=some (.int .i64 (u:Int)):=h.cell 6;unfold k0n;rw[h6];simp
def e0g {n g:Nat}{w:World}:e0I n g (l0b g) w=2*(n-k0n w g)+2:=by simp[e0I,l0b]
def i0I {n g:Nat}{w:World}:e0I n g (p0b g) w=2*(n-k0n w g)+1:=by simp[e0I,p0b]
def y0r (fn:Fn)(bs cs:Array Value)(W:World):(binOp BinOp.neq 332 (.func fn bs cs) .nilFunc).run prog W=.ok (.bool true) W:=by
 kernel_rfl
def v0c (W:World):(binOp BinOp.neq 332 .nilFunc .nilFunc).run prog W=.ok (.bool false) W:=by
 kernel_rfl
def t0t (w:World)(p b:ByteArray)(hp:p.size<=100000)(hb:b.size<=256)(hc:c0D b=0)(he:cPE p=0)(hL:Lay w):
 qb 321 #[.string p,.string b] w (.tuple #[b1U (b0u (bN (cW p)) (bN (qD p)) b.data.toList 0 1 0),.int .i64 0]):=by
 have HP:=fun V hV=>hid (z0w V p hp hV)
 rw[he]at HP;simp only[Ew]at HP;have HC:=fun V=>hid (t0s V b (by omega))
 rw[hc]at HC;obtain⟨e1,e2,hN,hD,hle⟩:=w0T he;obtain⟨N,hn⟩:=gn (bN (cW p));obtain⟨D,hd⟩:=gn (bN (qD p));rw[hn]at e1 hN;rw[hd]at e2 hD;rw[e1,e2]at HP;rw[hn,hd];obtain⟨HN,HD,HL,HB⟩:=zc hN hD hL hb;clear hn hd e1 e2 hN hD hle hL hc he hp;obtain⟨sn,hsn⟩:=gn (a0f N);obtain⟨sd,hsd⟩:=gn (a0f D);rw[hsn,hsd]at HP;obtain⟨HSN,HSD⟩:=zu hsn hsd;clear hsn hsd hb;have e27:∀ args w,(callFunc 345 args).run prog w=.ok (.enter 345 args) w:=Cw func345 (by kernel_rfl) rfl;have e54:∀ args w,(callFunc 360 args).run prog w=.ok (.enter 360 args) w:=Cw func360 (by kernel_rfl) rfl;go_enter func321,ntmps321;go_wp2_with fail;refine ny (HP _ (HL.out.call (br0.alloc nr _))) fun w1 hb1=>?_;obtain⟨x1,y1⟩:=zu ((Blk.new w #[.bool false,.int .i64 0,.int .i64 0] 62).call hb1) (a0a ((J4 w.heap.size w).alloc nr (.cells #[.bool false,.int .i64 0,.int .i64 0] 62)) hb1);clear hb1;go_wp2_with fail;refine ny (HC _) fun w2 hb2=>?_;have x2:=hid (x1.out.call hb2);have y2:=qx y1 hb2;clear hb2;go_wp2_with fail;refine (z0v _ _ _).mono ?_;rintro e w' ⟨rfl,rfl⟩;go_wp2_with fail;obtain⟨g,hg⟩:∃ g,g=w2.heap.size+1+1:=⟨_,rfl⟩;obtain⟨bn,hbn⟩:∃ g,g=w2.heap.size:=⟨_,rfl⟩;obtain⟨bd,hbd⟩:∃ g,g=w2.heap.size+1:=⟨_,rfl⟩
 obtain⟨W0,hW0⟩:∃ W0,(((w2.alloc (Obj.cells #[Value.string sn] 23)).alloc (Obj.cells #[Value.string sd] 23)).alloc
  (Obj.cells #[Value.string b,Value.string { data:=#[48] },Value.string { data:=#[49] },Value.func (Fn.func 357) #[] #[Value.pointer (some { block:=w2.heap.size,off:=0 }),Value.pointer (some { block:=w2.heap.size+1,off:=0 })],Value.bool false,Value.int IntKind.i64 0,Value.int IntKind.i64 0] 330))=W0:=⟨_,rfl⟩
 rw[hW0,<- hg,<- hbd,<- hbn];have t0:Toss W0 g bn bd b N D 0 1 0:=by
  refine⟨?_,?_,?_,by omega,by omega⟩
  .rw[<- hW0,hbn,hbd];have e0:a0f 0=⟨#[48]⟩:=by unfold a0f;rw[c0f]
   have e1:a0f 1=⟨#[49]⟩:=by unfold a0f;rw[f0X]
   rw[e0,e1];exact Blk.made _ _ _ (by simp;omega)
  .rw[<- hW0,HSN.out,hbn];exact ((Blk.new w2 _ _).alloc _).alloc _
  .rw[<- hW0,HSD.out,hbd];exact (Blk.made _ _ _ (by simp)).alloc _
 have b0:Below w2.heap.size w2 W0:=by
  rw[<- hW0];exact ((br0.alloc nr _).alloc (by simp) _).alloc (by simp;omega) _
 have HG:=hid hg;have hLG:t0H g:=by
  have h1:=(HL.out.call y2.out).lt;exact⟨by have:=h1.1;omega,by have:=h1.2;omega⟩
 obtain⟨HLG,T0,B0⟩:=zg hLG t0 b0;clear hW0 hg hbn hbd t0 b0 HP HC hLG;have hq1:=fun (fn:Fn) (bs cs:Array Value) (W:World)=>y0r fn bs cs W
 have hq2:=fun (W:World)=>v0c W
 go_loopw [10] (fun nx wr=>d1k g bn bd b N D nx wr/\Hid (Below w2.heap.size w2 wr)) (fun nx wr=>e0I b.size g nx wr)
 case atStart=>exact⟨.inl ⟨0,1,0,rfl,T0.out,⟨rfl,by omega⟩,by omega,rfl⟩,B0.out⟩
 case round=>
  obtain⟨hI,hB⟩:=hrel;rcases hI with ⟨K,T,u,rfl,ht,hc,hu,heq⟩ | ⟨K,T,u,rfl,ht,hc,hu,hsb,heq⟩ | ⟨k,t,x,rfl,hbk,hx⟩
  .obtain⟨HT,HCl,HU,HE,HM⟩:=zd ht hc hu heq (d0U ht.blk);clear ht hc hu heq;simp only[l0b];go_wp2_with fail;refine (c1f _ g bn bd b N D K T u HT.out (HCl.out.fits (by have:=HU.out;have:=HB.out;omega) HN.out HD.out) ((HL.out.call y2.out).call hB.out) (by have:=HB.out;omega) HU.out).mono ?_;rintro e w5 ⟨hb5,hcases⟩;have B5:=hid (hB.out.trans (hb5.mono (by have:=HG.out;omega)));clear hb5;rcases hcases with ⟨h1,rfl,h2⟩ | ⟨h1,h3,rfl,h2⟩ | ⟨h1,h3,rfl,h2⟩
   .obtain⟨K1,K2⟩:=zu h1 h2;clear h1 h2;go_wp2_with fail;go_roundw
    case rel=>exact⟨.inr (.inr ⟨_,_,(true,sdV N D K T,u),rfl,K2.out,by rw[HE.out,g0Z K1.out]⟩),B5⟩
    case measure=>exact (by show e0I b.size g .nilFunc _<e0I b.size g (l0b g) _;rw[e0g];simp[e0I])
   .obtain⟨K1,K2,K3⟩:=zg h1 h2 h3;clear h1 h2 h3;go_wp2_with fail;go_roundw
    case rel=>exact⟨.inr (.inr ⟨_,_,(false,0,u),rfl,K2.out.blk,by rw[HE.out,K3.out,<- a0A,g0Y K1.out]⟩),B5⟩
    case measure=>exact (by show e0I b.size g .nilFunc _<e0I b.size g (l0b g) _;rw[e0g];simp[e0I])
   .obtain⟨K1,K2,K3⟩:=zg h1 h2 h3;clear h1 h2 h3;go_wp2_with fail;go_roundw
    case rel=>exact⟨.inr (.inl ⟨K,T,u,rfl,K2.out,HCl.out,K3.out,K1.out,HE.out⟩),B5⟩
    case measure=>exact (by show e0I b.size g (p0b g) _<e0I b.size g (l0b g) _;rw[e0g,i0I,HM.out,d0U K2.out.blk];omega)
  .obtain⟨HT,HCl,HU,HE,HSB,HM⟩:=zf ht hc hu heq hsb (d0U ht.blk);clear ht hc hu heq hsb;simp only[p0b];go_wp2_with fail;refine (c1e _ g bn bd b N D K T u HT.out (HCl.out.fits (by have:=HU.out;have:=HB.out;omega) HN.out HD.out) ((HL.out.call y2.out).call hB.out) (by have:=HB.out;omega) HU.out HLG.out).mono ?_;rintro e w5 ⟨hb5,rfl,h2⟩;obtain⟨B5,K2⟩:=zu (hB.out.trans (hb5.mono (by have:=HG.out;omega))) h2;clear hb5 h2;go_wp2_with fail;go_roundw
   case rel=>exact⟨.inl ⟨_,_,u+1,rfl,K2.out,HCl.out.next (by split<;>omega),HU.out,by
    rw[HE.out];exact g0X HSB.out (by rw[a0A];exact HU.out)⟩,B5⟩
   case measure=>exact (by show e0I b.size g (l0b g) _<e0I b.size g (p0b g) _;rw[e0g,i0I,HM.out,d0U K2.out.blk];have:=HU.out;omega)
  .obtain⟨HX,x3⟩:=zu hx (x2.out.call hB.out);have d4:wr.cell? ⟨g,4,none⟩=some (.bool x.1):=hbk.cell 4;have d5:wr.cell? ⟨g,5,none⟩=some (.int .i64 (x.2.1:Nat)):=hbk.cell 5;have d6:wr.cell? ⟨g,6,none⟩=some (.int .i64 (x.2.2:Nat)):=hbk.cell 6;have r0:wr.cell? ⟨w.heap.size,0,none⟩=some (.bool false):=x3.out.cell 0;have r1:wr.cell? ⟨w.heap.size,1,none⟩=some (.int .i64 0):=x3.out.cell 1;have r2:wr.cell? ⟨w.heap.size,2,none⟩=some (.int .i64 0):=x3.out.cell 2;obtain⟨f0,f1,f2⟩:=qq x3.out;clear hbk hx;go_wp2_with fail;have s3:=((x3.out.set 0 (.bool x.1)).set 1 (.int .i64 (x.2.1:Nat))).set 2 (.int .i64 (x.2.2:Nat));obtain⟨k0,k1,k2⟩:=qz s3;refine C7 (v:=.tuple #[.agg #[.bool x.1,.int .i64 (x.2.1:Nat),.int .i64 (x.2.2:Nat)],.int .i64 0]) (by simp[results,results321,go_sem,k0,k1,k2]) rfl ⟨by rw[<- HX.out];rfl,?_⟩;exact (((y2.out.trans (hB.out.mono y2.out.size)).setCell nr _).setCell nr _).setCell nr _
def gE (a b:ByteArray):Int:=if gPE a≠0 then gPE a else c0D b
def j0N (w:World)(a b:ByteArray)(ha:a.size<=100000)(hb:b.size<=100000)(hL:Lay w):
 qb 205 #[.string a,.string b] w (.int .i64 (gE a b)):=by
 have HR:=hid (d0L w a ha hL);have HC:=fun V=>hid (m0Z V b (by omega))
 obtain⟨s1,hs1⟩:=gn ((if gPE a=0 then cW a else ⟨#[]⟩));obtain⟨s2,hs2⟩:=gn ((if gPE a=0 then qD a else ⟨#[]⟩));rw[hs1,hs2]at HR;clear hs1 hs2;by_cases h1:gPE a=0
 .have e1:gE a b=c0D b:=by rw[gE,J2 (fun h=>h h1)]
  rw[e1];rw[h1]at HR;by_cases h2:o0C b=true
  focus
   have e2:k0i b=0:=J3 h2;rw[e2]at HC;by_cases h3:256<b.size
   focus
    have e3:c0D b=4:=by rw[c0D,J3 h2,J3 h3]
    have q0:decide ((256:Int)<(b.size:Int))=true:=by simp;omega
    rw[e3];clear h1 h2 h3 e1 e2 e3 hL
   rotate_left
   focus
    have e3:c0D b=0:=by rw[c0D,J3 h2,J2 h3]
    have q0:decide ((256:Int)<(b.size:Int))=false:=by simp;omega
    rw[e3];clear h1 h2 h3 e1 e2 e3 hL
  rotate_left 2
  focus
   have e2:k0i b=3:=J2 h2;have e3:c0D b=3:=J2 h2;rw[e2]at HC;rw[e3];clear h1 h2 e1 e2 e3 hL
  all_goals
   go_enter func205,ntmps205;go_wp2_with fail;refine nz HR fun w1 y1=>?_;go_wp2_with fail;refine nw (HC _) y1 fun w2 y2=>?_;go_wp2_with fail;go_ret
   exact⟨rfl,y2.out⟩
 .have e1:gE a b=gPE a:=by rw[gE,J3 h1]
  rw[e1];obtain⟨x,hx⟩:=gn (gPE a);rw[hx]at HR h1 |-;have q0:(x==0)=false:=by simpa using h1
  have q1:(x != 0)=true:=by simpa using h1
  clear h1 e1 hx hL;go_enter func205,ntmps205;go_wp2_with fail;refine nz HR fun w1 y1=>?_;go_wp2_with fail;go_ret
  exact⟨rfl,y1.out⟩
def y0T (w:World)(a b:ByteArray):
 Calls prog 271 #[.string a,.string b] w fun e w'=>e=.returned (.func (.func 320) #[] #[.pointer (some ⟨w.heap.size,0,none⟩),.pointer (some ⟨w.heap.size+1,0,none⟩)])/\w'=(w.alloc (.cells #[.string a] 23)).alloc (.cells #[.string b] 26):=by
 go_enter func271,ntmps271;go_wp2_with fail;go_ret
 exact⟨rfl,rfl⟩
end
end Go.Proofs.YtfkpfpobmobnbaaGreatDoor
