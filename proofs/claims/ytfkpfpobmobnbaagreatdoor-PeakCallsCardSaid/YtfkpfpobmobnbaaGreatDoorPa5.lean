/- Texts that the proof rests on, merged: Cv4, Tot2, Cv5, Cv6, Pl4, Pl5, Pl6, QPlus, Dig, QO, Pn3, Pn4, Cv7, Cv8, Vw, Dy, Fd0, Tot3, Cv9, C3, C4, Las0, Last2, Last3, C5. -/
import Derived.Test.YtfkpfpobmobnbaaGreatDoorPa4
import Derived.Sort.KeysCollected
import Derived.Test.YtfkpfpobmobnbaaGreatDoorProg
import Derived.Maps.StringElems
import Derived.Lib.ItoaMem
set_option linter.defProp false
set_option linter.unusedVariables false
set_option linter.unusedSimpArgs false
set_option linter.unusedSectionVars false
set_option maxRecDepth 100000
set_option maxHeartbeats 8000000
namespace Go.Proofs.YtfkpfpobmobnbaaGreatDoor
section
open Go.RowKit
def h0y (N D:Nat)(two:Bool)(l:List UInt8):Option Int:=match s1 N D l 0 0 with
 | none=>none
 | some (x,p)=>if two=true then (match s1 N D (l.drop p) 0 0 with | none=>none | some (y,_)=>some ((x:Int)-(y:Int))) else some (x:Int)
def gV (N D:Nat)(two:Bool)(n:Nat)(v:Int):Nat:=cw n fun l=>decide (h0y N D two l=some v)
def gL (N D:Nat)(two:Bool)(n:Nat):Nat:=cw n fun l=>decide (h0y N D two l=none)
theorem l0g {N D:Nat}(h:N<D){l:List UInt8}{x p:Nat}(hs:s1 N D l 0 0=some (x,p)):p<=l.length/\x<=l.length:=by
 have:=z0e h l.length 0 0 x p (S4 _) (by omega) hs;omega
theorem i0d {N D:Nat}(h:N<D){two:Bool}{l:List UInt8}{v:Int}(hv:h0y N D two l=some v) : -(l.length:Int)<=v/\v<=l.length:=by
 unfold h0y at hv;cases hs:s1 N D l 0 0 with
 | none=>rw[hs]at hv;cases hv
 | some xp=>
  obtain⟨x,p⟩:=xp;obtain⟨b1,b2⟩:=l0g h hs;rw[hs]at hv;cases two
  .simp at hv;omega
  .simp only[Fm]at hv;cases hs2:s1 N D (l.drop p) 0 0 with
   | none=>rw[hs2]at hv;cases hv
   | some yq=>
    obtain⟨y,q⟩:=yq;obtain⟨b3,b4⟩:=l0g h hs2;rw[hs2]at hv;rw[Ah]at b4;simp at hv;omega
def l0W {n:Nat}{P:List UInt8->Bool}(h:∀ l,l.length=n->P l=false):cw n P=0:=by
 rw[a0E (Q:=fun _=>false) h,c0n]
def d0v {N D:Nat}(h:N<D){two:Bool}{n:Nat}{v:Int}(hv:v < -(n:Int)\/(n:Int)<v):gV N D two n v=0:=by
 refine l0W fun l hl=>M6 fun e=>?_
 have:=i0d h e;omega
def r0q (N D n:Nat)(v:Int):gV N D false n v=if 0<=v then cw n (h0p N D v.toNat) else 0:=by
 unfold gV
 split
 .rename_i h0
  refine a0E fun l hl=>?_
  unfold h0y h0p;cases s1 N D l 0 0 with
  | none=>rfl
  | some xp=>
   obtain⟨x,p⟩:=xp;simp only[Bi,Ew];rw[Fh,Ad];omega
 .rename_i h0
  refine l0W fun l hl=>M6 fun e=>?_
  unfold h0y at e;cases hs:s1 N D l 0 0 with
  | none=>rw[hs]at e;cases e
  | some xp=>rw[hs]at e;simp at e;omega
theorem f0C {α : Type}(g : α->Option (Nat×Nat))(Q:Nat->Nat->Bool)(M:Nat):∀ L:List α,(∀ x∈L,∀ i k,g x=some (i,k)->i<M/\k<M) ->
 L.countP (fun x=>match g x with | none=>false | some p=>Q p.1 p.2)=a0k (fun i=>a0k (fun k=>if Q i k=true then L.countP (fun x=>decide (g x=some (i,k))) else 0) M) M
 | [],_=>by
  have h2:∀ i,a0k (fun k=>if Q i k=true then ([]:List α).countP (fun x=>decide (g x=some (i,k))) else 0) M=0:=fun i=>by
   rw[a0d (d:=fun _=>0) (fun k _=>by simp),a0B]
  rw[a0d (d:=fun _=>0) (fun i _=>h2 i),a0B];rfl
 | x::r,h=>by
  have ih:=f0C g Q M r fun y hy=>h y (Co _ hy)
  have e:∀ i,a0k (fun k=>if Q i k=true then (x::r).countP (fun x=>decide (g x=some (i,k))) else 0) M=a0k (fun k=>if Q i k=true then r.countP (fun x=>decide (g x=some (i,k))) else 0) M+a0k (fun k=>if Q i k=true/\g x=some (i,k) then 1 else 0) M:=fun i=>by
   rw[<- b0U];refine a0d fun k _=>?_
   rw[In];by_cases h1:Q i k=true
   .rw[J2 h1,J2 h1]
    congr 1
    simp[h1]
   .rw[U0 h1,U0 h1,U0 (fun hh=>h1 hh.1)]
  rw[In,ih,a0d (fun i _=>e i),b0U]
  congr 1
  cases hg:g x with
  | none=>
   rw[a0d (d:=fun _=>0) (fun i _=>by rw[a0d (d:=fun _=>0) (fun k _=>by simp),a0B]),a0B];simp
  | some p=>
   obtain⟨a,b⟩:=p;obtain⟨ha,hb⟩:=h x (Ct ..) a b hg;by_cases hq:Q a b=true
   .have e2:∀ i,a0k (fun k=>if Q i k=true/\some (a,b)=some (i,k) then 1 else 0) M=if a=i then 1 else 0:=fun i=>by
     by_cases h1:a=i
     .subst h1
      rw[J2 rfl,a0d (d:=fun k=>if b=k then 1 else 0) (fun k _=>by
       by_cases h2:b=k
       .subst h2;simp[hq]
       .rw[U0 h2,U0 (by simp;exact fun _=>h2)])]
      rw[f0R,J2 hb]
     .rw[U0 h1,a0d (d:=fun _=>0) (fun k _=>U0 (by simp;exact fun _ hh=>absurd hh h1)),a0B]
    rw[a0d (fun i _=>e2 i),f0R,J2 ha];simp[hq]
   .rw[a0d (d:=fun _=>0) (fun i _=>by rw[a0d (d:=fun _=>0) (fun k _=>U0 (by rintro⟨h1,h2⟩;simp at h2;obtain⟨rfl,rfl⟩:=h2;exact hq h1)),a0B]),a0B];simp[hq]
def y0T (N D:Nat)(l:List UInt8):Option (Nat×Nat):=match s1 N D l 0 0 with
 | none=>none
 | some (x,p)=>match s1 N D (l.drop p) 0 0 with | none=>none | some (y,_)=>some (x,y)
def Fe:=@decide_eq_true_iff
def p0v (N D i k:Nat)(l:List UInt8):decide (y0T N D l=some (i,k))=s0F N D i k l:=by
 rw[Ay,Fe];unfold y0T s0F h0p;cases s1 N D l 0 0 with
 | none=>simp
 | some xp=>
  obtain⟨x,p⟩:=xp;dsimp only;cases s1 N D (l.drop p) 0 0 with
  | none=>simp
  | some yq=>simp
def Nh:=@List.countP_congr
def v0x {N D:Nat}(h:N<D)(n:Nat)(v:Int):gV N D true n v=a0k (fun i=>a0k (fun k=>if (i:Int)-(k:Int)=v then cw n (s0F N D i k) else 0) (n+1)) (n+1):=by
 have h1:=f0C (y0T N D) (fun i k=>decide ((i:Int)-(k:Int)=v)) (n+1) (s0v n) (fun l hl i k hg=>by
  have hn:=g0k hl;unfold y0T at hg;cases hs:s1 N D l 0 0 with
  | none=>rw[hs]at hg;cases hg
  | some xp=>
   obtain⟨x,p⟩:=xp;obtain⟨b1,b2⟩:=l0g h hs;rw[hs]at hg;dsimp only at hg;cases hs2:s1 N D (l.drop p) 0 0 with
   | none=>rw[hs2]at hg;cases hg
   | some yq=>
    obtain⟨y,q⟩:=yq;obtain⟨b3,b4⟩:=l0g h hs2;rw[hs2]at hg;rw[Ah]at b4;simp at hg;omega)
 unfold gV;rw[<- f0B];refine Eq.trans ?_ (h1.trans ?_)
 .refine Nh fun l hl=>?_
  unfold h0y y0T;cases s1 N D l 0 0 with
  | none=>simp
  | some xp=>
   obtain⟨x,p⟩:=xp;simp only[Fm];cases s1 N D (l.drop p) 0 0 with
   | none=>simp
   | some yq=>simp
 .refine a0d fun i _=>a0d fun k _=>?_
  simp only[K6]
  split
  .rw[f0B];exact a0E fun l _=>p0v N D i k l
  .rfl
def g0X {N D:Nat}(h:N<D)(two:Bool)(n:Nat):a0k (fun j=>gV N D two n ((j:Int)-(n:Int))) (2*n+1)+gL N D two n=2 ^ n:=by
 have h1:=k0I (fun l=>((h0y N D two l).isSome,((h0y N D two l).getD 0+(n:Int)).toNat)) (2*n+1) (s0v n) (fun l hl hd=>by
  have hn:=g0k hl;dsimp only at hd |-;obtain⟨v,hv⟩:=Option.isSome_iff_exists.1 hd;have:=i0d h hv;rw[hv,Option.getD_some];omega)
 rw[e0r]at h1;rw[<- h1]
 congr 1
 .refine a0d fun j hj=>?_
  unfold gV;rw[<- f0B];refine Nh fun l hl=>?_
  have hn:=g0k hl;cases hv:h0y N D two l with
  | none=>simp
  | some v=>
   have:=i0d h hv;simp;omega
 .unfold gL;rw[<- f0B];refine Nh fun l hl=>?_
  cases h0y N D two l<;>simp
def k0x {N D:Nat}(h:N<D)(two:Bool)(n:Nat)(v:Int):gV N D two n v<=2 ^ n:=by
 by_cases hv:v < -(n:Int)\/(n:Int)<v
 .rw[d0v h hv];exact S4 _
 .have h1:=g0X h two n;have h2:=p0F (f:=fun j=>gV N D two n ((j:Int)-(n:Int))) (i:=(v+n).toNat) (n:=2*n+1) (by omega);rw[show ((v+(n:Int)).toNat:Int)-(n:Int)=v by omega]at h2;omega
open Go.Lib (decDigits nDigits)
def s0I (l:List Nat):List Value:=l.map fun n=>.string (a0f n)
@[simp] theorem numL_length (l:List Nat):(s0I l).length=l.length:=by simp[s0I]
def t0N {l:List Nat}{i:Nat}(h:i<l.length):(s0I l)[i]?=some (.string (a0f (l.getD i 0))):=by
 simp[s0I,J3,J0 h]
def t0M (l:List Nat)(i x:Nat):(s0I l).set i (.string (a0f x))=s0I (l.set i x):=by simp[s0I,Nx]
def c0U (c:Bool)(k x:Nat)(l:List Nat):List Nat:=if c=true then l.set k (l.getD k 0+x) else l
def d0z (c:Bool)(k x:Nat)(l:List Nat):(c0U c k x l).length=l.length:=by unfold c0U;split<;>simp
def d0h (k x:Nat)(l:List Nat):c0U false k x l=l:=rfl
def c0T (k x:Nat)(l:List Nat):c0U true k x l=l.set k (l.getD k 0+x):=rfl
def h0j (c:Bool){k x:Nat}{l:List Nat}(hk:k<l.length)(i:Nat):(c0U c k x l).getD i 0=l.getD i 0+(if c=true/\i=k then x else 0):=by
 cases c
 .rw[d0h];simp
 .rw[c0T,J3,J3,Ec];by_cases h:k=i
  .subst h;simp[hk,J3]
  .simp[h,show ¬ i=k from fun e=>h e.symm]
def n0U (os zs:Nat->Bool)(i j:Nat)(s:List Nat×List Nat):List Nat×List Nat:=(c0U (os j) (i+j) (s.1.getD i 0) s.1,c0U (zs j) (i+j) (s.1.getD i 0) s.2)
def tIn (os zs:Nat->Bool)(i:Nat):Nat->List Nat×List Nat->List Nat×List Nat
 | 0,s=>s
 | j+1,s=>n0U os zs i j (tIn os zs i j s)
def b0L (os zs:Nat->Bool)(n:Nat):Nat->List Nat×List Nat
 | 0=>(1::List.replicate n 0,List.replicate (n+1) 0)
 | i+1=>if (b0L os zs n i).1.getD i 0=0 then b0L os zs n i else tIn os zs i (n+1-i) (b0L os zs n i)
structure TB (n i j:Nat)(s:List Nat×List Nat):Prop where
 l1:s.1.length=n+1
 l2:s.2.length=n+1
 up1:∀ k,s.1.getD k 0<=2 ^ (i+1)
 up2:∀ k,s.2.getD k 0<=2 ^ (i+1)
 hi1:∀ k,i+j<=k->s.1.getD k 0<=2 ^ i
 hi2:∀ k,i+j<=k->s.2.getD k 0<=2 ^ i
 src:s.1.getD i 0<=2 ^ i
theorem TB.step {os zs:Nat->Bool}(h0:os 0=false){n i j:Nat}{s:List Nat×List Nat}(h:TB n i j s)(hij:i+j<=n):TB n i (j+1) (n0U os zs i j s)/\(n0U os zs i j s).1.getD i 0=s.1.getD i 0:=by
 have e1:=h0j (os j) (x:=s.1.getD i 0) (show i+j<s.1.length by rw[h.l1];omega);have e2:=h0j (zs j) (x:=s.1.getD i 0) (show i+j<s.2.length by rw[h.l2];omega);have hs:=h.src;have h3:(n0U os zs i j s).1.getD i 0=s.1.getD i 0:=by
  show (c0U _ _ _ _).getD _ _=_
  rw[e1];rw[U0]
  .omega
  .rintro⟨h1,h2⟩;rw[show j=0 by omega,h0]at h1;cases h1
 refine⟨⟨by show (c0U _ _ _ _).length=_;rw[d0z,h.l1],by show (c0U _ _ _ _).length=_;rw[d0z,h.l2],fun k=>?_,fun k=>?_,fun k hk=>?_,fun k hk=>?_,by rw[h3];exact hs⟩,h3⟩
 .show (c0U _ _ _ _).getD _ _<=_
  rw[e1];have:=h.up1 k
  split
  .rename_i hc
   have:=h.hi1 k (by omega);omega
  .omega
 .show (c0U _ _ _ _).getD _ _<=_
  rw[e2];have:=h.up2 k
  split
  .rename_i hc
   have:=h.hi2 k (by omega);omega
  .omega
 .show (c0U _ _ _ _).getD _ _<=_
  rw[e1,U0 (by omega)];exact h.hi1 k (by omega)
 .show (c0U _ _ _ _).getD _ _<=_
  rw[e2,U0 (by omega)];exact h.hi2 k (by omega)
theorem TB.inner {os zs:Nat->Bool}(h0:os 0=false){n i:Nat}{s:List Nat×List Nat}(h:TB n i 0 s):∀ j,i+j<=n+1->TB n i j (tIn os zs i j s)/\(tIn os zs i j s).1.getD i 0=s.1.getD i 0
 | 0,_=>⟨h,rfl⟩
 | j+1,hj=>by
  obtain⟨h1,h2⟩:=TB.inner h0 h j (by omega);obtain⟨h3,h4⟩:=TB.step h0 (os:=os) (zs:=zs) h1 (by omega);exact⟨h3,h4.trans h2⟩
theorem TB.next {n i j:Nat}{s:List Nat×List Nat}(h:TB n i j s):TB n (i+1) 0 s:=by
 have p:2 ^ (i+1)<=2 ^ (i+1+1):=H6 (by omega) (by omega);exact⟨h.l1,h.l2,fun k=>O0 (h.up1 k) p,fun k=>O0 (h.up2 k) p,fun k _=>h.up1 k,fun k _=>h.up2 k,h.up1 _⟩
theorem TB.outer {os zs:Nat->Bool}(h0:os 0=false)(n:Nat):∀ i,i<=n+1->TB n i 0 (b0L os zs n i)
 | 0,_=>by
  have e1:∀ k,(1::List.replicate n 0).getD k 0<=1:=fun k=>by
   cases k with
   | zero=>simp
   | succ k=>
    rw[List.getD_cons_succ,J3,Ag]
    split<;>simp
  have e2:∀ k,(List.replicate (n+1) 0).getD k 0<=1:=fun k=>by
   rw[J3,Ag]
   split<;>simp
  refine⟨by simp[b0L],by simp[b0L],fun k=>O0 (e1 k) (by simp),fun k=>O0 (e2 k) (by simp),fun k _=>e1 k,fun k _=>e2 k,e1 _⟩
 | i+1,hi=>by
  have ih:=TB.outer h0 (zs:=zs) n i (by omega);rw[b0L]
  split
  .exact ih.next
  .exact (TB.inner h0 ih (n+1-i) (by omega)).1.next
def a0b {x i:Nat}(h:x<=2 ^ i)(hi:i<=3000):nDigits x<=4000:=by
 refine O0 (a0r h) ?_;have h1:2 ^ i<10 ^ (i+1):=by
  have h2:2 ^ i<=10 ^ i:=Mc (by omega) i;have h3:10 ^ i<10 ^ (i+1):=Gt (by omega) (by omega);omega
 exact O0 (a0l (Ed i) h1) (by omega)
end
section
open Go.RowKit
def aIn (c:Nat->Bool)(x i:Nat):Nat->List Nat->List Nat
 | 0,l=>l
 | j+1,l=>c0U (c j) (i+j) x (aIn c x i j l)
def d0S (c:Nat->Bool)(O:List Nat)(n:Nat):Nat->List Nat
 | 0=>List.replicate (n+1) 0
 | i+1=>aIn c (O.getD i 0) i (n+1-i) (d0S c O n i)
theorem c0V (c:Nat->Bool)(x i:Nat):∀ (j:Nat) (l:List Nat),(aIn c x i j l).length=l.length
 | 0,l=>rfl
 | j+1,l=>by rw[aIn,d0z,c0V c x i j l]
theorem c0v (c:Nat->Bool)(O:List Nat)(n:Nat):∀ i,(d0S c O n i).length=n+1
 | 0=>by simp[d0S]
 | i+1=>by rw[d0S,c0V,c0v c O n i]
def p0e (b:Bool)(k:Nat)(l:List Nat):c0U b k 0 l=l:=by
 unfold c0U
 split
 .rw[Ac];apply At
  intro m;rw[Ec]
  split
  .rename_i h
   subst h
   split
   .rename_i hk
    rw[J3,J0 hk];rfl
   .rename_i hk
    rw[I7 (by omega)]
  .rfl
 .rfl
theorem e0X (c:Nat->Bool)(i:Nat):∀ (j:Nat) (l:List Nat),aIn c 0 i j l=l
 | 0,l=>rfl
 | j+1,l=>by rw[aIn,p0e,e0X c i j l]
theorem f0q {c:Nat->Bool}{x i n:Nat}{l:List Nat}(hl:l.length=n+1):∀ {j:Nat},i+j<=n+1->∀ k,(aIn c x i j l).getD k 0=l.getD k 0+(if i<=k/\k<i+j/\c (k-i)=true then x else 0)
 | 0,_,k=>by rw[aIn,U0 (by omega)];rfl
 | j+1,h,k=>by
  rw[aIn,h0j _ (by rw[c0V];omega),f0q hl (by omega) k,Bn]
  congr 1
  by_cases hk:k=i+j
  .subst hk;rw[U0 (by omega),show i+j-i=j by omega,J8];by_cases hc:c j=true
   .rw[J2 ⟨hc,rfl⟩,J2 ⟨by omega,by omega,hc⟩]
   .rw[U0 (fun h=>hc h.1),U0 (fun h=>hc h.2.2)]
  .have e0:(if c j=true/\k=i+j then x else 0)=0:=U0 (fun h=>hk h.2);rw[e0,Ac];by_cases hc:i<=k/\k<i+j/\c (k-i)=true
   .rw[J2 hc,J2 ⟨hc.1,by omega,hc.2.2⟩]
   .rw[U0 hc,U0 (fun h=>hc ⟨h.1,by omega,h.2.2⟩)]
theorem g0l {c:Nat->Bool}{O:List Nat}{n:Nat}:∀ {i:Nat},i<=n+1->∀ k,k<=n->(d0S c O n i).getD k 0=a0k (fun i'=>if i'<=k/\c (k-i')=true then O.getD i' 0 else 0) i
 | 0,_,k,hk=>by simp[d0S,a0k,J3,Ag,show k<n+1 by omega]
 | i+1,h,k,hk=>by
  rw[d0S,f0q (c0v c O n i) (by omega),g0l (by omega) k hk,a0k]
  congr 1
  by_cases hc:i<=k/\c (k-i)=true
  .rw[J2 hc,J2 ⟨hc.1,by omega,hc.2⟩]
  .rw[U0 hc,U0 (fun h=>hc ⟨h.1,h.2.2⟩)]
def fnL (f:Nat->Nat)(n:Nat):List Nat:=(List.range (n+1)).map f
def f0j (f:Nat->Nat)(n:Nat):(fnL f n).length=n+1:=by simp[fnL]
def g0Z {f:Nat->Nat}{n k:Nat}(h:k<=n):(fnL f n).getD k 0=f k:=by simp[fnL,J3,show k<n+1 by omega]
def r0v {l:List Nat}{f:Nat->Nat}{n:Nat}(hl:l.length=n+1)(h:∀ k,k<=n->l.getD k 0=f k):l=fnL f n:=by
 apply At
 intro k;by_cases hk:k<=n
 .have h1:=h k hk;rw[J3,J0 (by omega)]at h1;rw[J0 (by omega)];simp only[Option.getD_some]at h1;rw[h1];simp[fnL,show k<n+1 by omega]
 .rw[I7 (by omega),I7 (by rw[f0j];omega)]
def s0w {c:Nat->Bool}{f:Nat->Nat}{n:Nat}:d0S c (fnL f n) n (n+1)=fnL (cvo (chi c) f) n:=by
 refine r0v (c0v _ _ _ _) fun k hk=>?_
 rw[g0l nr0 k hk,g0h];unfold cvo;have e:∀ m,a0k (fun i'=>if i'<=k/\c (k-i')=true then (fnL f n).getD i' 0 else 0) (k+1+m)=a0k (fun i'=>if i'<=k/\c (k-i')=true then (fnL f n).getD i' 0 else 0) (k+1):=fun m=>by
  induction m with
  | zero=>rfl
  | succ m ih=>rw[<- Bn,a0k,ih,U0 (by omega)];rfl
 rw[show n+1=k+1+(n-k) by omega,e];refine a0d fun i hi=>?_
 rw[g0Z (by omega)];unfold chi;by_cases hc:c (k-i)=true
 .rw[J2 ⟨by omega,hc⟩,J2 hc,De]
 .rw[U0 (fun h=>hc h.2),U0 hc,Hl]
def i0C (N D n i:Nat):List Nat:=fnL (opn N D i) n
def p0h (N D n i:Nat):List Nat:=fnL (edn N D i) n
def q0F (N D n:Nat):(List.replicate (n+1) 0).set 0 1=i0C N D n 0:=by
 refine r0v (by simp) fun k hk=>?_
 rw[J3,Ec];unfold opn dlt;by_cases h:k=0
 .subst h;simp
 .rw[U0 (fun e=>h e.symm),U0 h];simp[Ag,show k<n+1 by omega]
def k0k (N D n i:Nat):d0S (a0C N D) (i0C N D n i) n (n+1)=i0C N D n (i+1):=s0w
def r0N (N D n i:Nat):d0S (a0i N D) (i0C N D n i) n (n+1)=p0h N D n i:=s0w
def v0F {c:Nat->Bool}{f:Nat->Nat}{B n:Nat}(h:∀ s,s<=n->f s<=B):∀ k,k<=n->cvo (chi c) f k<=(n+1)*B:=fun k hk=>by
 unfold cvo;have h1:a0k (fun s=>chi c s*f (k-s)) (k+1)<=a0k (fun _=>B) (k+1):=g0u fun s hs=>by
  have:=a1J c s;have:=h (k-s) (by omega)
  calc chi c s*f (k-s)<=1*f (k-s):=C9 _ (by assumption)
   _<=B:=by omega
 have h2:∀ m,a0k (fun _=>B) m=m*B:=fun m=>by
  induction m with
  | zero=>simp[a0k]
  | succ m ih=>rw[a0k,ih,Iv]
 rw[h2]at h1;exact O0 h1 (C9 _ (by omega))
theorem g0L {N D n:Nat}(hn:n<=32):∀ i s,s<=n->opn N D i s<=2 ^ (6*i)
 | 0,s,hs=>by unfold opn dlt;split<;>simp
 | i+1,s,hs=>by
  have h:=v0F (c:=a0C N D) (f:=opn N D i) (B:=2 ^ (6*i)) (n:=n) (fun s hs=>g0L hn i s hs) s hs;rw[opn];refine O0 h ?_;rw[show 6*(i+1)=6+6*i by omega,Cr];exact C9 _ (by omega)
def n0s {N D n:Nat}(hn:n<=32)(i s:Nat)(hs:s<=n):edn N D i s<=2 ^ (6*(i+1)):=by
 have h:=v0F (c:=a0i N D) (f:=opn N D i) (B:=2 ^ (6*i)) (n:=n) (fun s hs=>g0L hn i s hs) s hs;unfold edn;refine O0 h ?_;rw[show 6*(i+1)=6+6*i by omega,Cr];exact C9 _ (by omega)
def Iq:=@Nat.add_le_add_left
def a1W {c:Nat->Bool}{O:List Nat}{n i j k:Nat}(hi:i<=n)(hij:i+j<=n+1)(hk:k<=n):(aIn c (O.getD i 0) i j (d0S c O n i)).getD k 0<=(d0S c O n (n+1)).getD k 0:=by
 rw[f0q (c0v _ _ _ _) hij,g0l (by omega) k hk,g0l nr0 k hk];refine O0 ?_ (a0K (show i+1<=n+1 by omega));rw[a0k];refine Iq ?_ _;by_cases hc:i<=k/\c (k-i)=true
 .rw[J2 hc];split<;>omega
 .rw[U0 hc,U0 (fun h=>hc ⟨h.1,h.2.2⟩)];exact J4 _
def j0t (c:Int->Nat)(v:Int)(x:Nat):Int->Nat:=fun w=>if w=v then c w+x else c w
theorem g0s (f:Nat->Nat->Nat)(m:Nat):∀ n,a0k (fun i=>a0k (fun k=>f i k) m) n=a0k (fun k=>a0k (fun i=>f i k) n) m
 | 0=>by simp only[a0k];rw[a0B]
 | n+1=>by rw[a0k,g0s f m n,<- b0U];rfl
def v0W (c:Prop)[Decidable c](f:Nat->Nat)(n:Nat):a0k (fun i=>if c then f i else 0) n=if c then a0k f n else 0:=by
 split
 .rfl
 .exact a0B n
def c1 (N D n i s:Nat)(v:Int):Nat:=a0k (fun i'=>if (i':Int)=v then a0k (fun s'=>edn N D i' s'*2 ^ (n-s')) (n+1) else 0) i+(if (i:Int)=v then a0k (fun s'=>edn N D i s'*2 ^ (n-s')) s else 0)
def y0r (N D n:Nat):c1 N D n 0 0=fun _=>0:=by funext v;simp[c1,a0k]
def s0o (N D n i s:Nat):c1 N D n i (s+1)=j0t (c1 N D n i s) (i:Int) (edn N D i s*2 ^ (n-s)):=by
 funext v
 unfold j0t c1;by_cases h:(i:Int)=v
 .subst h;rw[J2 rfl,J2 rfl,J2 rfl,a0k];omega
 .rw[U0 h,U0 h,U0 (fun e=>h e.symm)]
def v0K (N D n i:Nat):c1 N D n i (n+1)=c1 N D n (i+1) 0:=by
 funext v
 unfold c1;rw[a0k];simp[a0k]
def y0s {N D n i s:Nat}(h:edn N D i s=0):c1 N D n i (s+1)=c1 N D n i s:=by
 rw[s0o,h]
 funext v
 unfold j0t
 split<;>simp
def v0L {N D:Nat}(h:N<D)(n:Nat)(v:Int):c1 N D n (n+1) 0 v=gV N D false n v:=by
 rw[r0q];unfold c1;have e:∀ i,a0k (fun s'=>edn N D i s'*2 ^ (n-s')) (n+1)=cw n (h0p N D i):=fun i=>(e0q h i n).symm
 simp only[e];rw[show (if ((n+1:Nat):Int)=v then a0k (fun s'=>edn N D (n+1) s'*2 ^ (n-s')) 0 else 0)=0 by split<;>rfl,Ac];by_cases h0:0<=v
 .rw[J2 h0]
  rw[a0d (d:=fun i=>if v.toNat=i then cw n (h0p N D v.toNat) else 0) (fun i _=>by
   by_cases hi:(i:Int)=v
   .rw[J2 hi,J2 (by omega),show v.toNat=i by omega]
   .rw[U0 hi,U0 (by omega)])]
  have e2:∀ m,a0k (fun i=>if v.toNat=i then cw n (h0p N D v.toNat) else 0) m=if v.toNat<m then cw n (h0p N D v.toNat) else 0:=fun m=>by
   induction m with
   | zero=>simp[a0k]
   | succ m ih=>
    rw[a0k,ih];by_cases h1:v.toNat<m
    .rw[J2 h1,U0 (by omega),J2 (by omega)];rfl
    .rw[U0 h1,J8];by_cases h2:v.toNat=m
     .rw[J2 h2,J2 (by omega)]
     .rw[U0 h2,U0 (by omega)]
  rw[e2]
  split
  .rfl
  .rename_i hn
   refine (l0W fun l hl=>?_).symm;unfold h0p;cases hs:s1 N D l 0 0 with
   | none=>rfl
   | some xp=>
    obtain⟨x,p⟩:=xp;obtain⟨b1,b2⟩:=l0g h hs;exact M6 (by omega)
 .rw[U0 h0];rw[a0d (d:=fun _=>0) (fun i _=>U0 (by omega)),a0B]
def a1R {N D n i s:Nat}(h:N<D)(hi:i<=n)(hs:s<=n+1)(v:Int):c1 N D n i s v<=gV N D false n v:=by
 rw[<- v0L h];have h1:c1 N D n i s v<=c1 N D n (i+1) 0 v:=by
  rw[<- v0K];unfold c1;refine Iq ?_ _
  split
  .exact a0K hs
  .exact J4 _
 refine O0 h1 ?_;unfold c1;have e:∀ i,(if ((i:Nat):Int)=v then a0k (fun s'=>edn N D i s'*2 ^ (n-s')) 0 else 0)=0:=fun i=>by split<;>rfl
 rw[e,e];exact a0K (by omega)
def p2 (N D n i s k u:Nat)(v:Int):Nat:=if (i:Int)-(k:Int)=v then a0k (fun u'=>edn N D i s*edn N D k u'*2 ^ (n-s-u')) u else 0
def q2 (N D n i s k:Nat)(v:Int):Nat:=a0k (fun k'=>p2 N D n i s k' (n-s+1) v) k
def r2 (N D n i s:Nat)(v:Int):Nat:=a0k (fun s'=>q2 N D n i s' (n+1) v) s
def t2 (N D n i:Nat)(v:Int):Nat:=a0k (fun i'=>r2 N D n i' (n+1) v) i
def c2 (N D n i s k u:Nat)(v:Int):Nat:=t2 N D n i v+r2 N D n i s v+q2 N D n i s k v+p2 N D n i s k u v
def c0Y (N D n i s k:Nat)(v:Int):p2 N D n i s k 0 v=0:=by unfold p2;split<;>rfl
def y0o (N D n:Nat):c2 N D n 0 0 0 0=fun _=>0:=by funext v;simp[c2,t2,r2,q2,c0Y,a0k]
def c1g (N D n i s k u:Nat):c2 N D n i s k (u+1)=j0t (c2 N D n i s k u) ((i:Int)-(k:Int)) (edn N D i s*edn N D k u*2 ^ (n-s-u)):=by
 funext v
 unfold j0t c2 p2;by_cases h:(i:Int)-(k:Int)=v
 .subst h;rw[J2 rfl,J2 rfl,J2 rfl,a0k];omega
 .rw[U0 h,U0 h,U0 (fun e=>h e.symm)]
def y0p {N D n i s k u:Nat}(h:edn N D k u=0):c2 N D n i s k (u+1)=c2 N D n i s k u:=by
 rw[c1g,h]
 funext v
 unfold j0t
 split<;>simp
def c1o (N D n i s k:Nat):c2 N D n i s k (n-s+1)=c2 N D n i s (k+1) 0:=by
 funext v
 unfold c2;rw[c0Y];unfold q2;rw[a0k];omega
def c1h (N D n i s:Nat):c2 N D n i s (n+1) 0=c2 N D n i (s+1) 0 0:=by
 funext v
 unfold c2;rw[c0Y,c0Y];unfold r2;rw[a0k];simp only[q2,a0k];omega
def y0q {N D n i s:Nat}(h:edn N D i s=0):c2 N D n i (s+1) 0 0=c2 N D n i s 0 0:=by
 rw[<- c1h]
 funext v
 unfold c2;rw[c0Y,c0Y];have e:q2 N D n i s (n+1) v=0:=by
  unfold q2
  rw[a0d (d:=fun _=>0) (fun k _=>by
   unfold p2
   split
   .rw[a0d (d:=fun _=>0) (fun u _=>by rw[h,Gl,Gl]),a0B]
   .rfl),a0B]
 rw[e];simp[q2,a0k]
def c1p (N D n i:Nat):c2 N D n i (n+1) 0 0=c2 N D n (i+1) 0 0 0:=by
 funext v
 unfold c2;rw[c0Y,c0Y];unfold t2;rw[a0k];simp only[q2,r2,a0k]
def v0J {N D:Nat}(h:N<D)(n:Nat)(v:Int):c2 N D n (n+1) 0 0 0 v=gV N D true n v:=by
 rw[v0x h];unfold c2;rw[c0Y];simp only[q2,a0k,r2,Ac];unfold t2 r2 q2;refine a0d fun i _=>?_
 rw[g0s (fun s k=>p2 N D n i s k (n-s+1) v)];refine a0d fun k _=>?_
 unfold p2;rw[v0W];by_cases hv:(i:Int)-(k:Int)=v
 .rw[J2 hv,J2 hv,l0U h k i n];unfold cvo;refine a0d fun s _=>?_
  rw[<- e0w];refine a0d fun u _=>?_
  unfold pw2;rw[U8]
 .rw[U0 hv,U0 hv]
def a1Q {N D n i s k u:Nat}(h:N<D)(hi:i<=n)(hs:s<=n)(hk:k<=n)(hu:u<=n-s+1)(v:Int):c2 N D n i s k u v<=gV N D true n v:=by
 rw[<- v0J h];have a1:p2 N D n i s k u v<=p2 N D n i s k (n-s+1) v:=by
  unfold p2
  split
  .exact a0K hu
  .exact J4 _
 have a2:q2 N D n i s k v+p2 N D n i s k (n-s+1) v<=q2 N D n i s (n+1) v:=by
  have:q2 N D n i s (k+1) v<=q2 N D n i s (n+1) v:=a0K (by omega);unfold q2 at *;rw[a0k]at this;omega
 have a3:r2 N D n i s v+q2 N D n i s (n+1) v<=r2 N D n i (n+1) v:=by
  have:r2 N D n i (s+1) v<=r2 N D n i (n+1) v:=a0K (by omega);unfold r2 at *;rw[a0k]at this;omega
 have a4:t2 N D n i v+r2 N D n i (n+1) v<=t2 N D n (n+1) v:=by
  have:t2 N D n (i+1) v<=t2 N D n (n+1) v:=a0K (by omega);unfold t2 at *;rw[a0k]at this;omega
 unfold c2;omega
open Go.Maps
open Go.Lib (decDigits nDigits)
def b0B (p:ByteArray×ByteArray):List UInt8:=p.1.data.toList
def a0y (L:List (ByteArray×ByteArray)):List (ByteArray×ByteArray):=L.mergeSort (fun p q=>leB (b0B p) (b0B q))
def b0D {L:List (ByteArray×ByteArray)}{p:ByteArray×ByteArray}:p∈a0y L↔p∈L:=List.mem_mergeSort
def c0b (L:List (ByteArray×ByteArray)):(a0y L).length=L.length:=List.length_mergeSort L
def g0Q:∀ a b c:List UInt8,leB a b=true->leB b c=true->leB a c=true:=fun a b c h1 h2=>by simp only[leB,K6]at *;exact List.le_trans h1 h2
def q0T:∀ a b:List UInt8,(leB a b || leB b a)=true:=fun a b=>by simp only[leB,Ai,K6];exact List.le_total a b
def c0x (L:List (ByteArray×ByteArray)):(a0y L).Pairwise (fun p q=>leB (b0B p) (b0B q)=true):=
 List.pairwise_mergeSort (le:=fun p q=>leB (b0B p) (b0B q)) (fun a b c=>g0Q (b0B a) (b0B b) (b0B c)) (fun a b=>q0T (b0B a) (b0B b)) L
def a0O (L:List (ByteArray×ByteArray)):List Value:=L.flatMap (fun p=>[.string p.1,.string p.2])
def a0Y (L:List (ByteArray×ByteArray)):(a0O L).length=L.length*2:=by
 unfold a0O
 induction L with
 | nil=>rfl
 | cons p r ih=>rw[Ng,Z4,ih,U7];simp;omega
def b0l (L M:List (ByteArray×ByteArray)):a0O (L++M)=a0O L++a0O M:=by simp[a0O]
def c0M {L:List (ByteArray×ByteArray)}:∀ {i:Nat} {p:ByteArray×ByteArray},L[i]?=some p->(a0O L)[2*i]?=some (.string p.1)/\(a0O L)[2*i+1]?=some (.string p.2):=by
 induction L with
 | nil=>intro i p h;simp at h
 | cons q r ih=>
  intro i p h;cases i with
  | zero=>simp at h;subst h;exact⟨rfl,rfl⟩
  | succ i=>
   have h':r[i]?=some p:=by simpa using h
   obtain⟨h1,h2⟩:=ih h';have e:a0O (q::r) = [.string q.1,.string q.2]++a0O r:=rfl;rw[e,show 2*(i+1)=2+2*i by omega]
   constructor
   .rw[G8 (by simp)];simpa using h1
   .rw[G8 (by simp<;>omega)];simp only[U7,Bx];rw[show 2+2*i+1-(0+1+1)=2*i+1 by omega];exact h2
theorem MRow.of_owns {w:World}{base n:Nat}{e:TypeId}{v:Value}{L:List (ByteArray×ByteArray)}(h:w.ownsRow base e 2 v n (a0O L)):MRow w v L:=by
 have hn:n=L.length:=by have:=h.1;rw[a0Y]at this;omega
 subst hn;refine⟨?_⟩;have hh:=h;rcases h.2 with ⟨rfl,h0⟩ | ⟨g,cap,cur,rfl,hb,hg,h1,h2,h3,h4⟩
 .exact⟨none,0,by rw[h0],by omega,by omega,fun i x hx=>by have:=(O4.1 hx).1;omega⟩
 .refine⟨some ⟨g,0,none⟩,cap,rfl,h1,by unfold maxLen at h2;exact h2,fun i x hx=>⟨g,0,rfl,(J6.1 hg).1,?_⟩⟩;obtain⟨m1,m2⟩:=c0M hx;have k1:=hh.cells rfl _ _ m1;have k2:=hh.cells rfl _ _ m2;rw[Addr.add_lit]at k1 k2;rw[<- Bn]at k2;exact⟨k1,k2⟩
def k0o (i:Nat):(a0f i).data.toList≠b0o.data.toList:=by
 intro e;have h:(108:UInt8)∈decDigits i:=by
  rw[<- a0q,e];decide
 exact absurd (b0K i 108 h) (by decide)
open Go.Shelf
def g0V:(Tryz.prog.info? 42).map (fun i=>(i.zero,i.size,i.bytes))=some (some (.agg #[.string ⟨#[]⟩,.string ⟨#[]⟩]),2,32):=by kernel_rfl
def s0L (w:World):(zeroValue 23).run Tryz.prog w=.ok (.string ⟨#[]⟩) w:=by kernel_rfl
def f0T (t:Nat):shB 0 t=⟨#[48]⟩:=by
 have e:qmk false 0 t=0:=by unfold qmk sgn;simp
 have h1:¬ ovQ 0:=by
  have:nDigits 0<=4000:=by rw[c0A];omega
  have:nDigits 1<=4000:=by rw[b0n];omega
  unfold ovQ;rw[show (0:Rat).num.natAbs=0 from rfl,show (0:Rat).den=1 from rfl];omega
 unfold shB;rw[e];unfold c0p;rw[U0 h1];apply b0c
 rw[txQ,b0T,show (0:Rat).num.natAbs=0 from rfl,show (0:Rat).den=1 from rfl,show decide ((0:Rat).num<0)=false from rfl,b0Y]
 rfl
end
section
def m0B (m:Bool)(n d:Nat):sgn m (n*d)=sgn m n*(d:Int):=by cases m<;>simp[sgn,Int.neg_mul]
def q0m (p q:Rat):p+q=mkRat (sgn (decide (p.num<0)) (p.num.natAbs*q.den)+sgn (decide (q.num<0)) (q.num.natAbs*p.den)) (p.den*q.den):=by
 rw[m0B,m0B,h0D,h0D,Rat.add_def',Int.mul_comm q.num]
 try rw[Int.mul_comm q.num]
def m0A (m:Bool)(x y:Nat):sgn m x+sgn m y=sgn m (x+y):=by cases m<;>simp[sgn]<;>omega
def m0D {m1 m2:Bool}(h:m1≠m2){x y:Nat}(hl:x<y):sgn m1 x+sgn m2 y=sgn m2 (y-x):=by
 cases m1<;>cases m2<;>simp[sgn]at *<;>omega
def m0C {m1 m2:Bool}(h:m1≠m2){x y:Nat}(hl:y<=x):sgn m1 x+sgn m2 y=sgn m1 (x-y):=by
 cases m1<;>cases m2<;>simp[sgn]at *<;>omega
open Go.RowKit
open Go.Lib (decDigits nDigits)
def n0Y (m1 m2:Bool)(x y:Nat):(sgn m1 x+sgn m2 y).natAbs<=x+y:=by
 cases m1<;>cases m2<;>simp[sgn]<;>omega
structure Dig (K:Nat)(q:Rat):Prop where
 n:q.num.natAbs<10 ^ K
 d:q.den<10 ^ K
theorem Dig.fits {K:Nat}{q:Rat}(h:Dig K q)(h0:0<K)(hk:K<=4000):¬ ovQ q:=by
 unfold ovQ;have h1:=a0l h0 h.n;have h2:=a0l h0 h.d;omega
def Ii:=@Int.natAbs_ediv_le_natAbs
def v0E {K:Nat}{z:Int}{d:Nat}(hd:0<d)(h1:z.natAbs<10 ^ K)(h2:d<10 ^ K):Dig K (mkRat z d):=by
 refine⟨?_,?_⟩
 .rw[Jm,U0 (by omega)];exact Df (Ii _ _) h1
 .rw[Nl,U0 (by omega)];exact Df (Dp _ _) h2
def x0R {K L:Nat}{p q:Rat}(hp:Dig K p)(hq:Dig L q):Dig (K+L) (p*q):=by
 rw[<- i0w];unfold qmk;exact v0E (Dr p.den_pos q.den_pos) (by rw[b0s];exact h0a hp.n hq.n) (h0a hp.d hq.d)
def Ir:=@Rat.neg_num
def Ij:=@Int.natAbs_neg
def Md:=@Rat.neg_den
def x0Q {K:Nat}{q:Rat}(h:Dig K q):Dig K (-q):=⟨by rw[Ir,Ij];exact h.n,by rw[Md];exact h.d⟩
def x0P:Dig 1 (1:Rat):=⟨by decide,by decide⟩
def t1:ByteArray:=⟨#[49]⟩
def z0b:t1=txQ 1:=by
 unfold t1 txQ txB;rw[show (1:Rat).num.natAbs=1 from rfl,show (1:Rat).den=1 from rfl,f0m]
 rfl
def u0u:¬ ovQ 1:=x0P.fits (by omega) (by omega)
def b1y:qE t1=0:=by rw[z0b];exact m0N u0u
def b1l:vQ t1=1:=by rw[z0b,f0r]
def k0i {q:Rat}(h:¬ ovQ q):c0p q=txQ q:=U0 h
def q0B {q:Rat}(h:¬ ovQ q):c0G q=0:=U0 h
def w0R {f:Rat->Rat->Rat}{s t:ByteArray}(h0:¬ (qE s=0/\qE t=0)):(if qE s=0 then qE t else qE s)≠0/\d0j f s t=⟨#[]⟩/\h0o f s t=(if qE s=0 then qE t else qE s):=by
 refine⟨?_,by rw[d0j,U0 h0],?_⟩
 .split
  .rename_i h;exact fun e=>h0 ⟨h,e⟩
  .rename_i h;exact h
 .rw[h0o]
  split
  .rename_i h;rw[U0 (fun e=>h0 ⟨h,e⟩)]
  .rfl
def s0G (q:Rat):Int:=if q.num=0 then 0 else if q.num<0 then -1 else 1
def m0Q (p q:Rat):Int:=s0G (p-q)
def cmB (s t:ByteArray):Int:=if qE s=0/\qE t=0 then m0Q (vQ s) (vQ t) else 0
def cmE (s t:ByteArray):Int:=if qE s=0 then qE t else qE s
def f0g {n:Nat}:(limbs n).length=0↔n=0:=by
 constructor
 .intro h;have h2:limbs n=limbs 0:=by rw[Ak h,limbs_zero]
  exact e0L h2
 .rintro rfl;rw[limbs_zero];rfl
def p0g (z:Int):Int:=if z=0 then 0 else if z<0 then -1 else 1
def g0P {z:Int}{d:Nat}(hd:d≠0):(mkRat z d).num=0↔z=0:=by
 rw[Jm,U0 hd];have hg:(0:Int)<(Nat.gcd d z.natAbs:Nat):=by
  have:=Fo z.natAbs (Bz hd);omega
 have hdv:((Nat.gcd d z.natAbs:Nat):Int)∣z:=Int.ofNat_dvd_left.2 (Nat.gcd_dvd_right _ _)
 constructor
 .intro h;have:=Int.ediv_mul_cancel hdv;rw[h,Int.zero_mul]at this;exact this.symm
 .rintro rfl;simp
def Fa:=@Int.lt_or_le
def h0K {z:Int}{d:Nat}(hd:d≠0):(mkRat z d).num<0↔z<0:=by
 rw[Jm,U0 hd];have hg:(0:Int)<(Nat.gcd d z.natAbs:Nat):=by
  have:=Fo z.natAbs (Bz hd);omega
 constructor
 .intro h;rcases Fa z 0 with h1 | h1
  .exact h1
  .have:=Int.ediv_nonneg h1 (Int.le_of_lt hg);omega
 .intro h;exact Int.ediv_neg_of_neg_of_pos h hg
def w0h {z:Int}{d:Nat}(hd:d≠0):s0G (mkRat z d)=p0g z:=by
 unfold s0G p0g;by_cases h:z=0
 .rw[J2 ((g0P hd).2 h),J2 h]
 .rw[U0 (fun e=>h ((g0P hd).1 e)),U0 h];by_cases h2:z<0
  .rw[J2 ((h0K hd).2 h2),J2 h2]
  .rw[U0 (fun e=>h2 ((h0K hd).1 e)),U0 h2]
def Hi:=@Rat.sub_eq_add_neg
def z0K {a c:Int}{b d:Nat}(hb:b≠0)(hd:d≠0):mkRat a b-mkRat c d=mkRat (a*d-c*b) (b*d):=by
 rw[Hi,Rat.neg_mkRat,Rat.mkRat_add_mkRat _ _ hb hd,Int.neg_mul,Int.sub_eq_add_neg]
def w0O {a c:Int}{b d:Nat}(hb:b≠0)(hd:d≠0):m0Q (mkRat a b) (mkRat c d)=p0g (a*d-c*b):=by
 unfold m0Q;rw[z0K hb hd,w0h (Nat.mul_ne_zero hb hd)]
def f0c (a b:Nat):qmk false a b=mkRat (a:Int) b:=by unfold qmk sgn;rfl
def g0f {K:Nat}{z:Int}{d:Nat}(hd:d≠0)(h1:nDigits z.natAbs<=K)(h2:nDigits d<=K):Dig K (mkRat z d):=
 v0E (Bz hd) (U6 (Da _) (H6 (by omega) h1)) (U6 (Da _) (H6 (by omega) h2))
def h0C {a b:Nat}(hb:b≠0)(h1:nDigits a<=4000)(h2:nDigits b<=4000):shB a b=txQ (mkRat (a:Int) b):=by
 unfold shB;rw[f0c];exact k0i ((g0f hb (by simpa using h1) h2).fits (by omega) (by omega))
def l0w {f:Rat->Rat->Rat}{p q:Rat}(hp:¬ ovQ p)(hq:¬ ovQ q)(h:¬ ovQ (f p q)):d0j f (txQ p) (txQ q)=txQ (f p q)/\h0o f (txQ p) (txQ q)=0:=by
 have h1:=m0N hp;have h2:=m0N hq;refine⟨?_,?_⟩
 .rw[d0j,J2 ⟨h1,h2⟩,f0r,f0r,k0i h]
 .rw[h0o,J2 h1,J2 h2,f0r,f0r,q0B h]
open Go.Shelf
def Hb:=@List.mergeSort_perm
def s0X {L:List (ByteArray×ByteArray)}(nd:(L.map b0B).Nodup):((a0y L).map b0B).Nodup:=(((Hb L _).map b0B).nodup_iff).2 nd
def m0V {i j:Nat}(h:a0f i=a0f j):i=j:=by rw[<- b0x i,h,b0x]
end
section
open Go.RowKit
open Go.Lib (decDigits nDigits)
def zB (v:Int):ByteArray:=⟨(Lib.itoa v).toArray⟩
def i0c (v:Int):(zB v).data.toList=Lib.itoa v:=by simp[zB]
def j0x (n:Nat):zB (n:Int)=a0f n:=by
 unfold zB a0f;rw[Lib.itoa_nonneg]
def d0e {a b:Nat}(h:decDigits a=decDigits b):a=b:=by
 have:a0f a=a0f b:=by unfold a0f;rw[h]
 exact m0V this
def j0v (n:Nat)(r:List UInt8):decDigits n≠45::r:=fun h=>by
 have:=e0J n;rw[h]at this;simp[Lib.hasPrefix]at this
def j0y {v w:Int}(h:zB v=zB w):v=w:=by
 have h1:Lib.itoa v=Lib.itoa w:=by rw[<- i0c,<- i0c,h]
 unfold Lib.itoa at h1
 split at h1<;>split at h1
 .rename_i a b
  have:=d0e (List.cons.inj h1).2;omega
 .rename_i a b
  exact absurd h1.symm (j0v _ _)
 .rename_i a b
  exact absurd h1 (j0v _ _)
 .rename_i a b
  have:=d0e h1;omega
def g0m (v:Int):(zB v).data.toList≠b0o.data.toList:=fun h=>by
 rw[i0c]at h;unfold Lib.itoa at h
 split at h
 .have:=congrArg List.head? h;simp[b0o]at this
 .have h2:=k0o v.toNat;rw[a0q]at h2;exact h2 h
def glM (c:Int->Nat)(t n:Nat):List (ByteArray×ByteArray):=(List.range (2*n+1)).filterMap fun (j:Nat)=>if c ((j:Int)-n)=0 then none else some (zB ((j:Int)-n),shB (c ((j:Int)-n)) t)
def glP (c:Int->Nat)(t n r:Nat):List (ByteArray×ByteArray):=glM c t n++if r=0 then [] else [(b0o,shB r t)]
def r0m {c:Int->Nat}{t n:Nat}{p:ByteArray×ByteArray}:p∈glM c t n ↔ ∃ v:Int,-(n:Int)<=v/\v<=n/\c v≠0/\p=(zB v,shB (c v) t):=by
 unfold glM;rw[List.mem_filterMap]
 constructor
 .rintro⟨j,hj,h⟩;rw[Ev]at hj
  split at h
  .cases h
  .rename_i h0
   exact⟨(j:Int)-n,by omega,by omega,h0,(J9 h).symm⟩
 .rintro⟨v,h1,h2,h3,rfl⟩;refine⟨(v+n).toNat,Ev.2 (by omega),?_⟩;rw[show ((v+(n:Int)).toNat:Int)-(n:Int)=v by omega,U0 h3]
def v0v (c:Int->Nat)(t n:Nat):((glM c t n).map b0B).Nodup:=by
 unfold glM;rw[List.map_filterMap];refine List.Pairwise.filterMap (R:=fun a b=>a≠b) _ (fun a b hab x hx y hy=>?_) List.nodup_range;simp only[Option.map_eq_some_iff]at hx hy;obtain⟨p,hp,rfl⟩:=hx;obtain⟨q,hq,rfl⟩:=hy
 split at hp
 .cases hp
 .split at hq
  .cases hq
  .obtain rfl:=(J9 hp).symm;obtain rfl:=(J9 hq).symm;intro e;have:=j0y (b0c e);exact hab (by omega)
def Bj:=@List.map_append
def Gv:=@List.nodup_append
def r0l (c:Int->Nat)(t n r:Nat):((glP c t n r).map b0B).Nodup:=by
 unfold glP
 split
 .rw[Dn];exact v0v c t n
 .rw[Bj,Gv];refine⟨v0v c t n,by simp,?_⟩;intro a ha b hb e;rw[Fr]at ha;obtain⟨p,hp,rfl⟩:=ha;obtain⟨v,-,-,-,rfl⟩:=r0m.1 hp;simp at hb;subst hb;exact g0m v e
def d0t {c:Int->Nat}{t n r:Nat}{p:ByteArray×ByteArray}:p∈glP c t n r↔(∃ v:Int,-(n:Int)<=v/\v<=n/\c v≠0/\p=(zB v,shB (c v) t))\/(r≠0/\p=(b0o,shB r t)):=by
 unfold glP;rw[Fu,r0m];refine or_congr Iff.rfl ?_
 split
 .rename_i h;simp[h]
 .rename_i h;simp[h]
def Nv:=@List.le_antisymm
def Is:=@List.getElem_of_mem
def Ik:=@List.pairwise_iff_getElem
def Lc:=@List.getElem_map
def e0Z {L M:List (ByteArray×ByteArray)}(h1:(L.map b0B).Nodup)(h2:(M.map b0B).Nodup)(h:∀ p,p∈L↔p∈M):a0y L=a0y M:=by
 have n1:L.Nodup:=List.Pairwise.of_map b0B (fun a b h e=>h (congrArg b0B e)) h1;have n2:M.Nodup:=List.Pairwise.of_map b0B (fun a b h e=>h (congrArg b0B e)) h2;have hp:L.Perm M:=(List.perm_ext_iff_of_nodup n1 n2).2 h;have hs:(a0y L).Perm (a0y M):=((Hb L _).trans hp).trans (Hb M _).symm;refine List.Perm.eq_of_pairwise (le:=fun p q=>leB (b0B p) (b0B q)=true) ?_ (c0x _) (c0x _) hs;intro a b ha hb hab hba;simp only[leB,K6]at hab hba;have e:b0B a=b0B b:=Nv hab hba;have hb2:b∈L:=(h b).2 (b0D.1 hb);have ha2:a∈L:=b0D.1 ha;obtain⟨i,hi,rfl⟩:=Is ha2;obtain⟨j,hj,rfl⟩:=Is hb2;have hij:i=j:=by
  rcases Dd i j with h3 | h3 | h3
  .have:=Ik.1 h1 i j (by simpa using hi) (by simpa using hj) h3;simp only[Lc,ne_eq]at this;exact absurd e this
  .exact h3
  .have:=Ik.1 h1 j i (by simpa using hj) (by simpa using hi) h3;simp only[Lc,ne_eq]at this;exact absurd e.symm this
 subst hij
 rfl
end
section
open Go.RowKit
theorem g0t (x:Nat)(k:Nat):∀ n,a0k (fun j=>if j=k then x else 0) n=if k<n then x else 0
 | 0=>by simp[a0k]
 | n+1=>by
  rw[a0k,g0t x k n];by_cases h1:k<n
  .rw[J2 h1,U0 (by omega),J2 (by omega)];rfl
  .rw[U0 h1,J8];by_cases h2:n=k
   .rw[J2 h2,J2 (by omega)]
   .rw[U0 h2,U0 (by omega)]
def Lr:=@List.map_cons
theorem f0U (c:Int->Nat)(n:Nat):∀ vs:List Int,vs.Nodup->(∀ v∈vs,-(n:Int)<=v/\v<=n)->(vs.map c).sum=a0k (fun j=>if ((j:Int)-n)∈vs then c ((j:Int)-n) else 0) (2*n+1)
 | [],_,_=>by
  rw[a0d (d:=fun _=>0) (fun j _=>by simp),a0B];rfl
 | v::vs,hn,hb=>by
  have ih:=f0U c n vs (List.nodup_cons.1 hn).2 fun w hw=>hb w (Co _ hw)
  have hv:=hb v (Ct ..);have hnv:=(List.nodup_cons.1 hn).1;rw[Lr,List.sum_cons,ih];have e:a0k (fun j=>if ((j:Int)-n)∈v::vs then c ((j:Int)-n) else 0) (2*n+1)=a0k (fun j=>(if j=(v+n).toNat then c v else 0)+(if ((j:Int)-n)∈vs then c ((j:Int)-n) else 0)) (2*n+1):=by
   refine a0d fun j hj=>?_
   by_cases h1:j=(v+n).toNat
   .have h2:(j:Int)-n=v:=by omega
    rw[h2,J2 (Ct ..),J2 h1,U0 hnv];rfl
   .have h2:(j:Int)-n≠v:=by omega
    rw[U0 h1,J8];by_cases h3:((j:Int)-n)∈vs
    .rw[J2 h3,J2 (Co _ h3)]
    .rw[U0 h3,U0 (fun h=>by rcases Ci.1 h with h | h;exact h2 h;exact h3 h)]
  rw[e,b0U,g0t,J2 (by omega)]
structure Seen (c:Int->Nat)(n:Nat)(left:Int->Bool)(vs:List Int):Prop where
 nd:vs.Nodup
 mem:∀ v,v∈vs↔c v≠0/\left v=false
theorem Seen.start {c:Int->Nat}{n:Nat}{left:Int->Bool}(h:∀ v,c v≠0->left v=true):Seen c n left []:=⟨List.nodup_nil,fun v=>⟨fun hv=>by simp at hv,fun ⟨h1,h2⟩=>by rw[h v h1]at h2;cases h2⟩⟩
theorem Seen.step {c:Int->Nat}{n:Nat}{left left':Int->Bool}{vs:List Int}{x:Int}(h:Seen c n left vs)(hx:left x=true)(hc:c x≠0)(hl:∀ v,left' v=(left v && !decide (v=x))):Seen c n left' (vs ++ [x]):=by
 refine⟨?_,fun v=>?_⟩
 .rw[Gv];refine⟨h.nd,by simp,fun a ha b hb e=>?_⟩;simp at hb;subst hb;subst e;have:=((h.mem a).1 ha).2;rw[hx]at this;cases this
 .rw[Fu,h.mem,hl]
  constructor
  .rintro (⟨h1,h2⟩ | h1)
   .exact⟨h1,by rw[h2];rfl⟩
   .simp at h1;subst h1;exact⟨hc,by simp⟩
  .rintro⟨h1,h2⟩;rw[Bool.and_eq_false_iff]at h2;rcases h2 with h2 | h2
   .exact .inl ⟨h1,h2⟩
   .right;simp at h2;simp[h2]
theorem Seen.sum_le {N D:Nat}(hND:N<D){two:Bool}{n:Nat}{left:Int->Bool}{vs:List Int}(h:Seen (gV N D two n) n left vs):(vs.map (gV N D two n)).sum<=2 ^ n:=by
 rw[f0U _ n vs h.nd (fun v hv=>by
  have h1:=((h.mem v).1 hv).1;rcases Fa v (-(n:Int)) with h2 | h2
  .exact absurd (d0v hND (.inl h2)) h1
  .rcases Fa (n:Int) v with h3 | h3
   .exact absurd (d0v hND (.inr h3)) h1
   .exact⟨h2,h3⟩)]
 have h1:=g0X hND two n;have h2:a0k (fun j=>if ((j:Int)-n)∈vs then gV N D two n ((j:Int)-n) else 0) (2*n+1)<=a0k (fun j=>gV N D two n ((j:Int)-n)) (2*n+1):=g0u fun j _=>by split<;>omega
 omega
theorem Seen.sum_all {N D:Nat}(hND:N<D){two:Bool}{n:Nat}{left:Int->Bool}{vs:List Int}(h:Seen (gV N D two n) n left vs)(hl:∀ v,left v=false):2 ^ n-(vs.map (gV N D two n)).sum=gL N D two n:=by
 rw[f0U _ n vs h.nd (fun v hv=>by
  have h1:=((h.mem v).1 hv).1;rcases Fa v (-(n:Int)) with h2 | h2
  .exact absurd (d0v hND (.inl h2)) h1
  .rcases Fa (n:Int) v with h3 | h3
   .exact absurd (d0v hND (.inr h3)) h1
   .exact⟨h2,h3⟩)]
 have h1:=g0X hND two n;have h2:a0k (fun j=>if ((j:Int)-n)∈vs then gV N D two n ((j:Int)-n) else 0) (2*n+1)=a0k (fun j=>gV N D two n ((j:Int)-n)) (2*n+1):=a0d fun j _=>by
  split
  .rfl
  .rename_i hm
   rw[h.mem]at hm;by_cases h0:gV N D two n ((j:Int)-n)=0
   .exact h0.symm
   .exact absurd ⟨h0,hl _⟩ hm
 omega
theorem Seen.pairs {N D:Nat}(hND:N<D){two:Bool}{n t r:Nat}{left:Int->Bool}{vs:List Int}(h:Seen (gV N D two n) n left vs)(hl:∀ v,left v=false):
 (((vs.map fun v=>(zB v,shB (gV N D two n v) t))++if r=0 then [] else [(b0o,shB r t)]).map b0B).Nodup/\a0y ((vs.map fun v=>(zB v,shB (gV N D two n v) t))++if r=0 then [] else [(b0o,shB r t)])=a0y (glP (gV N D two n) t n r):=by
 have hk:((vs.map fun v=>(zB v,shB (gV N D two n v) t)).map b0B).Nodup:=by
  rw[List.map_map];refine List.Pairwise.map (R:=fun a b=>a≠b) _ (fun a b hab e=>hab (j0y (b0c e))) h.nd
 have nd:(((vs.map fun v=>(zB v,shB (gV N D two n v) t))++if r=0 then [] else [(b0o,shB r t)]).map b0B).Nodup:=by
  split
  .rw[Dn];exact hk
  .rw[Bj,Gv];refine⟨hk,by simp,fun a ha b hb e=>?_⟩;simp only[Fr]at ha;obtain⟨p,⟨v,-,rfl⟩,rfl⟩:=ha;simp at hb;subst hb;exact g0m v e
 refine⟨nd,e0Z nd (r0l _ _ _ _) fun p=>?_⟩;rw[d0t,Fu,Fr];refine or_congr ?_ ?_
 .constructor
  .rintro⟨v,hv,rfl⟩;have h1:=((h.mem v).1 hv).1;refine⟨v,?_,?_,h1,rfl⟩
   .rcases Fa v (-(n:Int)) with h2 | h2
    .exact absurd (d0v hND (.inl h2)) h1
    .exact h2
   .rcases Fa (n:Int) v with h3 | h3
    .exact absurd (d0v hND (.inr h3)) h1
    .exact h3
  .rintro⟨v,-,-,h1,rfl⟩;exact⟨v,(h.mem v).2 ⟨h1,hl v⟩,rfl⟩
 .split
  .rename_i h;simp[h]
  .rename_i h;simp[h]
def zS (n:Nat)(f:Int->Nat):Nat:=a0k (fun j=>f ((j:Int)-n)) (2*n+1)
def b0y {n:Nat}{f g:Int->Nat}(h:∀ v,-(n:Int)<=v->v<=n->f v=g v):zS n f=zS n g:=
 a0d fun j hj=>h _ (by omega) (by omega)
def y0I (n:Nat)(f g:Int->Nat):zS n (fun v=>f v+g v)=zS n f+zS n g:=b0U _ _ _
def y0G (n k:Nat)(f:Int->Nat):zS n (fun v=>k*f v)=k*zS n f:=e0w _ _ _
def p0l (n k:Nat)(f:Int->Nat):zS n (fun v=>f v*k)=zS n f*k:=by
 rw[b0y (g:=fun v=>k*f v) (fun v _ _=>E9 _ _),y0G,E9]
def p0j (n:Nat):zS n (fun _=>0)=0:=a0B _
def y0H {n:Nat}{f g:Int->Nat}(h:∀ v,-(n:Int)<=v->v<=n->f v<=g v):zS n f<=zS n g:=
 g0u fun j hj=>h _ (by omega) (by omega)
def p0k {n:Nat}{x:Int}(h1 : -(n:Int)<=x)(h2:x<=n)(y:Nat):zS n (fun v=>if v=x then y else 0)=y:=by
 unfold zS
 rw[a0d (d:=fun j=>if j=(x+n).toNat then y else 0) (fun j hj=>by
  show (if (j:Int)-n=x then y else 0)=_
  by_cases h:(j:Int)-n=x
  .rw[J2 h,J2 (by omega)]
  .rw[U0 h,U0 (by omega)]),g0t,J2 (by omega)]
def j0w {n:Nat}{f:Int->Nat}(h:∀ v:Int,v<0->f v=0):zS n f=a0k (fun j=>f (j:Int)) (n+1):=by
 unfold zS;have split:∀ (a b:Nat) (u:Nat->Nat),a0k u (a+b)=a0k u a+a0k (fun j=>u (a+j)) b:=by
  intro a b u
  induction b with
  | zero=>rw[Ac];rfl
  | succ b ih=>rw[<- Bn,a0k,ih,a0k];omega
 rw[show 2*n+1=n+(n+1) by omega,split,a0d (d:=fun _=>0) (fun j hj=>h _ (by omega)),a0B,J8];exact a0d fun j hj=>by rw[show ((n+j:Nat):Int)-n=(j:Int) by omega]
def vw (n:Nat):List (Int->Nat)->(List Int->Nat)->Nat
 | [],F=>F []
 | g::gs,F=>zS n fun x=>g x*vw n gs fun r=>F (x::r)
theorem f0M {n:Nat}:∀ {gs:List (Int->Nat)} {F G:List Int->Nat},(∀ xs,xs.length=gs.length->(∀ x∈xs,-(n:Int)<=x/\x<=n)->F xs=G xs)->vw n gs F=vw n gs G
 | [],F,G,h=>h [] rfl (by simp)
 | g::gs,F,G,h=>b0y fun v h1 h2=>by
  rw[f0M (gs:=gs) (fun r hr hb=>h (v::r) (by simp[hr]) (by
   intro x hx;rcases Ci.1 hx with rfl | hx
   .exact⟨h1,h2⟩
   .exact hb x hx))]
theorem y0M {n:Nat}:∀ {gs:List (Int->Nat)} {F G:List Int->Nat},(∀ xs,xs.length=gs.length->F xs<=G xs)->vw n gs F<=vw n gs G
 | [],F,G,h=>h [] rfl
 | g::gs,F,G,h=>y0H fun v _ _=>Aa _ (y0M (gs:=gs) fun r hr=>h (v::r) (by simp[hr]))
theorem u0Y (n:Nat):∀ (gs:List (Int->Nat)) (F G:List Int->Nat),vw n gs (fun xs=>F xs+G xs)=vw n gs F+vw n gs G
 | [],F,G=>rfl
 | g::gs,F,G=>by
  rw[vw,vw,vw,<- y0I];exact b0y fun v _ _=>by rw[u0Y n gs,K9]
theorem k0Z (n:Nat):∀ gs:List (Int->Nat),vw n gs (fun _=>0)=0
 | []=>rfl
 | g::gs=>by rw[vw,b0y (g:=fun _=>0) (fun v _ _=>by rw[k0Z n gs,Hl]),p0j]
theorem p0p (n:Nat)(gs:List (Int->Nat))(F:Nat->List Int->Nat):∀ M,vw n gs (fun xs=>a0k (fun i=>F i xs) M)=a0k (fun i=>vw n gs (F i)) M
 | 0=>k0Z n gs
 | M+1=>by
  show vw n gs (fun xs=>a0k (fun i=>F i xs) M+F M xs)=_
  rw[u0Y,p0p n gs F M];rfl
def pPr (n:Nat):List (Int->Nat)->List (Int->Bool)->Nat
 | g::gs,p::ps=>zS n (fun x=>if p x=true then g x else 0)*pPr n gs ps
 | _,_=>1
def s0K:List (Int->Bool)->List Int->Bool
 | p::ps,x::xs=>p x && s0K ps xs
 | _,_=>true
def b1 (b:Bool):Nat:=if b=true then 1 else 0
theorem p0q (n:Nat):∀ (gs:List (Int->Nat)) (ps:List (Int->Bool)),gs.length=ps.length->vw n gs (fun xs=>b1 (s0K ps xs))=pPr n gs ps
 | [],[],_=>rfl
 | g::gs,p::ps,h=>by
  have ih:=p0q n gs ps (by simpa using h);rw[vw,pPr,<- p0l];refine b0y fun v _ _=>?_
  by_cases hp:p v=true
  .rw[J2 hp,<- ih]
   congr 1
   exact f0M fun xs _ _=>by rw[s0K,hp,Ej]
  .rw[U0 hp,Gl];have:vw n gs (fun r=>b1 (s0K (p::ps) (v::r)))=0:=by
    rw[f0M (G:=fun _=>0) (fun xs _ _=>by rw[s0K,Kf.2 hp];rfl),k0Z]
   rw[this,Hl]
def w0J (n:Nat)(gs:List (Int->Nat)):Nat:=vw n gs fun _=>1
def q0u (n:Nat)(g:Int->Nat)(gs:List (Int->Nat)):w0J n (g::gs)=zS n g*w0J n gs:=by
 unfold w0J;rw[vw,p0l]
theorem q0t {n:Nat}:∀ {gs:List (Int->Nat)},(∀ g∈gs,zS n g<=2 ^ n)->w0J n gs<=2 ^ (n*gs.length)
 | [],_=>by simp[w0J,vw]
 | g::gs,h=>by
  rw[q0u,U7,K9,De,Iy,Cr];exact Bk (h g (Ct ..)) (q0t fun g' hg=>h g' (Co _ hg))
def s0M {n M:Nat}{gs:List (Int->Nat)}{F:Nat->List Int->Nat}(h:∀ xs,xs.length=gs.length->a0k (fun i=>F i xs) M<=1):a0k (fun i=>vw n gs (F i)) M<=w0J n gs:=by
 rw[<- p0p];exact y0M h
def b1R (b:Bool):b1 b<=1:=by unfold b1;split<;>omega
theorem p0C {p:Nat->Bool}(h:∀ i j,p i=true->p j=true->i=j):∀ M,a0k (fun i=>b1 (p i)) M<=1
 | 0=>S4 _
 | M+1=>by
  rw[a0k];by_cases hp:p M=true
  .rw[a0d (d:=fun _=>0) (fun i hi=>by
    have:p i≠true:=fun hh=>by have:=h i M hh hp;omega
    rw[b1,U0 this]),a0B,J8]
   exact b1R _
  .rw[show b1 (p M)=0 from U0 hp,Ac];exact p0C h M
def n0i {N D:Nat}(h:N<D)(two:Bool)(n:Nat):zS n (gV N D two n)+gL N D two n=2 ^ n:=g0X h two n
open Go.Lib (decDigits nDigits)
def h0v {x m:Nat}(hx:x<=2 ^ m)(h:m<=1000):nDigits x<=4000:=
 O0 (a0r hx) (h0z h)
def dyB (x m:Nat):ByteArray:=shB x (2 ^ m)
def dyQ (x m:Nat):Rat:=mkRat (x:Int) (2 ^ m)
def Mv:=@Nat.ne_of_gt
def d0W (m:Nat):2 ^ m≠0:=Mv (Ff (by omega))
theorem h0c {x m:Nat}(hx:x<=2 ^ m)(h:m<=1000):dyB x m=txQ (dyQ x m):=
 h0C (d0W m) (h0v hx h) (h0v nr0 h)
def d0d {x m:Nat}(hx:x<=2 ^ m)(h:m<=1000):¬ ovQ (dyQ x m):=
 (g0f (d0W m) (by simpa using h0v hx h) (h0v nr0 h)).fits (by omega) (by omega)
def l0R (x y m k:Nat):dyQ x m*dyQ y k=dyQ (x*y) (m+k):=by
 unfold dyQ;rw[Rat.mkRat_mul_mkRat,By,Cr]
def It:=@Rat.mkRat_mul_right
def h0d (x y m:Nat):dyQ x m+dyQ y m=dyQ (x+y) m:=by
 unfold dyQ;rw[Rat.mkRat_add_mkRat _ _ (d0W m) (d0W m),<- Int.add_mul,It (d0W m),Fz]
def l0Q {x y m:Nat}(h:y<=x):dyQ x m-dyQ y m=dyQ (x-y) m:=by
 have:=h0d (x-y) y m;rw[Nat.sub_add_cancel h]at this;rw[<- this,Rat.add_sub_cancel]
def a1A {x y m k:Nat}(hx:x<=2 ^ m)(hy:y<=2 ^ k)(h:m+k<=1000):d0j (· * ·) (dyB x m) (dyB y k)=dyB (x*y) (m+k):=by
 have hxy:x*y<=2 ^ (m+k):=by rw[Cr];exact Bk hx hy
 rw[h0c hx (by omega),h0c hy (by omega),(l0w (f:=(· * ·)) (d0d hx (by omega)) (d0d hy (by omega)) (by show ¬ ovQ (_*_);rw[l0R];exact d0d hxy h)).1];show txQ (_*_)=_
 rw[l0R,h0c hxy h]
def v0D {x y m:Nat}(hx:x+y<=2 ^ m)(h:m<=1000):d0j (· + ·) (dyB x m) (dyB y m)=dyB (x+y) m:=by
 rw[h0c (x:=x) (by omega) h,h0c (x:=y) (by omega) h,(l0w (f:=(· + ·)) (d0d (by omega) (by omega)) (d0d (by omega) (by omega)) (by show ¬ ovQ (_+_);rw[h0d];exact d0d hx h)).1];show txQ (_+_)=_
 rw[h0d,h0c hx h]
def a1y {x y m:Nat}(hx:x<=2 ^ m)(hy:y<=x)(h:m<=1000):d0j (· - ·) (dyB x m) (dyB y m)=dyB (x-y) m:=by
 rw[h0c (x:=x) hx h,h0c (x:=y) (by omega) h,(l0w (f:=(· - ·)) (d0d hx (by omega)) (d0d (by omega) (by omega)) (by show ¬ ovQ (_-_);rw[l0Q hy];exact d0d (by omega) h)).1];show txQ (_-_)=_
 rw[l0Q hy,h0c (by omega) h]
def a1x (x m k:Nat):dyB (x*2 ^ k) (m+k)=dyB x m:=by
 unfold dyB shB;rw[f0c,f0c,By,Cr,It (d0W k)]
def j0b (m:Nat):dyB 0 m=⟨#[48]⟩:=by
 have:=a1x 0 0 m;rw[Gl,J8]at this;rw[this];unfold dyB;rw[h0C (by decide) (by decide +kernel) (by decide +kernel)]
 decide +kernel
def a1z:dyB 1 0=⟨#[49]⟩:=by
 unfold dyB;rw[h0C (by decide) (by decide +kernel) (by decide +kernel)]
 decide +kernel
def x0N (m:Nat):dyB (2 ^ m) m=⟨#[49]⟩:=by
 have:=a1x 1 0 m;rw[Gr,J8]at this;rw[this,a1z]
end
section
open Go.RowKit
def amT (s:Nat×Nat×Int)(v:Int):Nat×Nat×Int:=if s.1=0\/s.2.2<v then (s.1+1,s.1,v) else (s.1+1,s.2.1,s.2.2)
def amS (l:List Int):Nat×Nat×Int:=l.foldl amT (0,0,0)
def j0o (l:List Int)(v:Int):amS (l ++ [v])=amT (amS l) v:=by unfold amS;rw[List.foldl_append];rfl
structure IsMx (l:List Int)(i:Nat)(v:Int):Prop where
 at_:l[i]?=some v
 before:∀ (k:Nat) (x:Int),k<i->l[k]?=some x->x<v
 all:∀ (k:Nat) (x:Int),l[k]?=some x->x<=v
theorem IsMx.uniq {l:List Int}{i j:Nat}{v w:Int}(h:IsMx l i v)(k:IsMx l j w):i=j:=by
 have h1:=h.all _ _ k.at_;have h2:=k.all _ _ h.at_;rcases Dd i j with a | a | a
 .have:=k.before _ _ a h.at_;omega
 .exact a
 .have:=h.before _ _ a k.at_;omega
def m0m (l:List Int):(amS l).1=l.length:=by
 suffices h:∀ (l:List Int) s,(l.foldl amT s).1=s.1+l.length by unfold amS;rw[h];exact J8 _
 intro l
 induction l with
 | nil=>intro s;rfl
 | cons v r ih=>
  intro s;rw[Ji,ih,U7];have:(amT s v).1=s.1+1:=by unfold amT;split<;>rfl
  omega
def s0u:∀ n (l:List Int),l.length=n->l ≠ []->IsMx l (amS l).2.1 (amS l).2.2:=by
 intro n
 induction n with
 | zero=>intro l hl hne;exact absurd (Ei.1 hl) hne
 | succ n ih=>
  intro l hl hne;obtain⟨r,v,rfl⟩:∃ r v,l=r ++ [v]:=⟨l.dropLast,l.getLast hne,(Fk hne).symm⟩;rw[Z4,H7]at hl;rw[j0o];have hlen:=m0m r;by_cases hr:r = []
  .subst hr;refine⟨rfl,fun k x hk hx=>?_,fun k x hx=>?_⟩
   .exact absurd hk (Nat.not_lt_zero _)
   .cases k with
    | zero=>simp at hx;subst hx;exact Int.le_refl _
    | succ k=>simp at hx
  .have hm:=ih r (by omega) hr;have hpos:r.length≠0:=fun h=>hr (Ei.1 h)
   unfold amT;have get:∀ k x,(r ++ [v])[k]?=some x->(k<r.length/\r[k]?=some x)\/(k=r.length/\x=v):=fun k x hx=>by
    rw[Le]at hx
    split at hx
    .exact .inl ⟨by assumption,hx⟩
    .refine .inr ?_;by_cases h0:k-r.length=0
     .rw[h0]at hx;simp at hx;exact⟨by omega,hx.symm⟩
     .obtain⟨q,hq⟩:∃ q,k-r.length=q+1:=⟨k-r.length-1,by omega⟩;rw[hq]at hx;simp at hx
   by_cases hv:(amS r).2.2<v
   .rw[J2 (.inr hv)];refine⟨?_,fun k x hk hx=>?_,fun k x hx=>?_⟩
    .show (r ++ [v])[(amS r).1]?=some v
     rw[hlen];simp
    .have hk':k<r.length:=by rw[<- hlen];exact hk
     rcases get k x hx with ⟨_,h⟩ | ⟨h,_⟩
     .have:=hm.all k x h;show x<v;omega
     .omega
    .rcases get k x hx with ⟨_,h⟩ | ⟨_,rfl⟩
     .have:=hm.all k x h;show x<=v;omega
     .exact Int.le_refl _
   .rw[U0 (by rw[hlen];omega)];have hlt:(amS r).2.1<r.length:=(O4.1 hm.at_).1;refine⟨?_,fun k x hk hx=>?_,fun k x hx=>?_⟩
    .show (r ++ [v])[(amS r).2.1]? = _
     rw[I9 hlt];exact hm.at_
    .rcases get k x hx with ⟨_,h⟩ | ⟨h,_⟩
     .exact hm.before k x hk h
     .have:k<(amS r).2.1:=hk;omega
    .rcases get k x hx with ⟨_,h⟩ | ⟨_,rfl⟩
     .exact hm.all k x h
     .show x<=(amS r).2.2;omega
def amx (l:List Int):Nat:=(amS l).2.1
def s0t {l:List Int}{i:Nat}(hne:l ≠ []):amx l=i ↔ ∃ v,IsMx l i v:=by
 have h:=s0u _ l rfl hne
 constructor
 .rintro rfl;exact⟨_,h⟩
 .rintro⟨v,hv⟩;exact h.uniq hv
def cmC (g:Int->Nat)(n:Nat)(j:Int):Nat:=a0k (fun x=>g (x:Int)) (max 0 (min j ((n:Int)+1))).toNat
def n0z {g:Int->Nat}(n:Nat)(hg:∀ v:Int,v<0->g v=0)(j:Int):zS n (fun x=>if decide (x<j)=true then g x else 0)=cmC g n j:=by
 rw[j0w (fun v hv=>by rw[hg v hv];split<;>rfl)];unfold cmC;obtain⟨m,hm⟩:∃ m:Nat,(max 0 (min j ((n:Int)+1))).toNat=m:=⟨_,rfl⟩;rw[hm];have hmn:m<=n+1:=by omega
 have key:∀ t,a0k (fun x=>if decide ((x:Int)<j)=true then g (x:Int) else 0) t=a0k (fun x=>if x<m then g (x:Int) else 0) t\/n+1<t:=by
  intro t;by_cases ht:n+1<t
  .exact .inr ht
  .refine .inl (a0d fun x hx=>?_);by_cases h:(x:Int)<j
   .rw[J2 (E7 h),J2 (by omega)]
   .rw[U0 (by simpa using h),U0 (by omega)]
 rcases key (n+1) with h | h
 .rw[h];obtain⟨d,hd⟩:∃ d,n+1=m+d:=⟨n+1-m,by omega⟩;rw[hd];clear h hd
  induction d with
  | zero=>exact a0d fun x hx=>J2 (by omega)
  | succ d ih=>rw[<- Bn,a0k,ih,U0 (by omega),Ac]
 .omega
def n0y {g:Int->Nat}{n:Nat}(h:zS n g<=2 ^ n)(hg:∀ v:Int,v<0->g v=0)(j:Int):cmC g n j<=2 ^ n:=by
 rw[<- n0z n hg j];refine O0 (y0H fun v _ _=>?_) h
 split<;>omega
def s0J (ci v:Int)(i k:Nat)(ck:Int):Int->Bool:=fun x=>if k=i then decide (x=v) else if k<i then decide (x<ci+v-ck) else decide (x<ci+v-ck+1)
def psL (ci v:Int)(i:Nat):Nat->List Int->List (Int->Bool)
 | _,[]=>[]
 | k,ck::r=>s0J ci v i k ck::psL ci v i (k+1) r
theorem h0I (ci v:Int)(i:Nat):∀ (l:List Int) k,(psL ci v i k l).length=l.length
 | [],_=>rfl
 | c::r,k=>by rw[psL,U7,h0I ci v i r,U7]
def fkF (g:Int->Nat)(n:Nat)(ci v:Int)(i:Nat):Nat->List Int->Nat->Nat
 | _,[],p=>p
 | k,ck::r,p=>fkF g n ci v i (k+1) r (if k=i then p else p*cmC g n (if k<i then ci+v-ck else ci+v-ck+1))
theorem e0l (g:Int->Nat)(n:Nat)(ci v:Int)(i:Nat):∀ (l:List Int) (k p:Nat),fkF g n ci v i k l p=p*fkF g n ci v i k l 1
 | [],k,p=>(De p).symm
 | c::r,k,p=>by
  rw[fkF,e0l g n ci v i r,fkF,e0l g n ci v i r (k+1) (if k=i then 1 else _)]
  split
  .rw[Gr]
  .rw[Gr,U8]
theorem r0y {g:Int->Nat}{n:Nat}(hg:∀ v:Int,v<0->g v=0){ci v:Int}{i:Nat}:∀ (l:List Int) (k:Nat),(∀ j,j<l.length->k+j≠i)->pPr n (List.replicate l.length g) (psL ci v i k l)=fkF g n ci v i k l 1
 | [],k,_=>rfl
 | c::r,k,h=>by
  have h0:k≠i:=h 0 (by simp);rw[U7,Io,psL,pPr,fkF,U0 h0,e0l,Gr,r0y hg r (k+1) (fun j hj=>by have:=h (j+1) (by simp;omega);omega)]
  congr 1
  unfold s0J;rw[<- n0z n hg];refine b0y fun x _ _=>?_
  rw[U0 h0];by_cases hk:k<i
  .rw[J2 hk,J2 hk]
  .rw[U0 hk,U0 hk]
theorem n0m {g:Int->Nat}{n:Nat}(hg:∀ v:Int,v<0->g v=0){ci v:Int}{i:Nat}(h1 : -(n:Int)<=v)(h2:v<=n):∀ (l:List Int) (k:Nat),k<=i->i<k+l.length->pPr n (List.replicate l.length g) (psL ci v i k l)=fkF g n ci v i k l (g v)
 | [],k,h3,h4=>by simp at h4;omega
 | c::r,k,h3,h4=>by
  rw[U7]at h4;rw[U7,Io,psL,pPr,fkF];by_cases hk:k=i
  .rw[J2 hk,r0y hg r (k+1) (fun j hj=>by omega),e0l g n ci v i r (k+1) (g v)]
   congr 1
   rw[b0y (g:=fun x=>if x=v then g v else 0) (fun x _ _=>by
    unfold s0J;rw[J2 hk];by_cases e:x=v
    .subst e;simp
    .rw[U0 (by simpa using e),U0 e]),p0k h1 h2]
  .rw[U0 hk,n0m hg h1 h2 r (k+1) (by omega) (by omega),e0l g n ci v i r (k+1) (g v*_),e0l g n ci v i r (k+1) (g v)];have:zS n (fun x=>if s0J ci v i k c x=true then g x else 0)=cmC g n (if k<i then ci+v-c else ci+v-c+1):=by
    unfold s0J;rw[<- n0z n hg];refine b0y fun x _ _=>?_
    rw[U0 hk];by_cases hl:k<i
    .rw[J2 hl,J2 hl]
    .rw[U0 hl,U0 hl]
   rw[this,<- U8,E9 (cmC _ _ _)]
def fkT (g:Int->Nat)(n:Nat)(c:List Int)(i:Nat):Nat:=a0k (fun v=>fkF g n (c.getD i 0) (v:Int) i 0 c (g (v:Int))) (n+1)
def nzV (c xs:List Int):List Int:=List.zipWith (· + ·) c xs
theorem n0N {ci v:Int}{i:Nat}:∀ (l xs:List Int) (k:Nat),xs.length=l.length->(s0K (psL ci v i k l) xs=true ↔ ∀ j x ck,l[j]?=some ck->xs[j]?=some x->s0J ci v i (k+j) ck x=true)
 | [],[],k,_=>by simp[psL,s0K]
 | c::r,x::xs,k,h=>by
  rw[psL,s0K,F9,n0N r xs (k+1) (by simpa using h)]
  constructor
  .rintro⟨h1,h2⟩ j y cy hc hy;cases j with
   | zero=>simp at hc hy;subst hc hy;exact h1
   | succ j=>simp at hc hy;have:=h2 j y cy hc hy;rwa[Nat.add_right_comm]at this
  .intro h1;refine⟨h1 0 x c rfl rfl,fun j y cy hc hy=>?_⟩;have:=h1 (j+1) y cy (by simpa using hc) (by simpa using hy);rwa[Nat.add_right_comm]
def k0m {c xs:List Int}(h:xs.length=c.length)(k:Nat)(y:Int):(nzV c xs)[k]?=some y ↔ ∃ a b,c[k]?=some a/\xs[k]?=some b/\y=a+b:=by
 unfold nzV;rw[List.getElem?_zipWith];cases c[k]?<;>cases xs[k]?<;>simp[eq_comm]
def i0P {c xs:List Int}(h:xs.length=c.length){i:Nat}{ci v:Int}(hc:c[i]?=some ci):(s0K (psL ci v i 0 c) xs=true)↔(xs[i]?=some v/\IsMx (nzV c xs) i (ci+v)):=by
 have hi:=(O4.1 hc).1;rw[n0N c xs 0 h];simp only[J8]
 constructor
 .intro ha;have hx:xs[i]?=some v:=by
   have h1:=ha i xs[i] ci hc (J0 (by omega));unfold s0J at h1;rw[J2 rfl]at h1;rw[J0 (by omega)];exact congrArg some (M9 h1)
  refine⟨hx,(k0m h _ _).2 ⟨ci,v,hc,hx,rfl⟩,fun k y hk hy=>?_,fun k y hy=>?_⟩
  .obtain⟨a,b,h1,h2,rfl⟩:=(k0m h _ _).1 hy;have:=ha k b a h1 h2;unfold s0J at this;rw[U0 (by omega),J2 hk]at this;have:=M9 this;omega
  .obtain⟨a,b,h1,h2,rfl⟩:=(k0m h _ _).1 hy;have:=ha k b a h1 h2;unfold s0J at this;by_cases hk:k=i
   .subst hk;rw[J2 rfl]at this;have:=M9 this;rw[hc]at h1;cases h1;omega
   .rw[U0 hk]at this;by_cases hl:k<i
    .rw[J2 hl]at this;have:=M9 this;omega
    .rw[U0 hl]at this;have:=M9 this;omega
 .rintro⟨hx,hm⟩ k x ck h1 h2;unfold s0J;have hy:=(k0m h _ _).2 ⟨ck,x,h1,h2,rfl⟩;by_cases hk:k=i
  .subst hk;rw[hx]at h2;cases h2;rw[J2 rfl];exact E7 rfl
  .rw[U0 hk];by_cases hl:k<i
   .rw[J2 hl];have:=hm.before k _ hl hy;exact E7 (by omega)
   .rw[U0 hl];have:=hm.all k _ hy;exact E7 (by omega)
def b1k (n m:Nat)(gs:List (Int->Nat))(F:Int->List Int->Nat):vw n gs (fun xs=>zS m (fun v=>F v xs))=zS m (fun v=>vw n gs (F v)):=p0p n gs _ _
def a1o {g:Int->Nat}{n:Nat}(hg:∀ v:Int,v<0->g v=0){c:List Int}{i:Nat}(hi:i<c.length):fkT g n c i=vw n (List.replicate c.length g) (fun xs=>b1 (decide (amx (nzV c xs)=i))):=by
 have hci:c[i]?=some (c.getD i 0):=by rw[J3,J0 hi];rfl
 obtain⟨ci,he⟩:=gn (c.getD i 0);unfold fkT;rw[he]at hci |-;have e1:a0k (fun v=>fkF g n ci (v:Int) i 0 c (g (v:Int))) (n+1)=zS n (fun v=>pPr n (List.replicate c.length g) (psL ci v i 0 c)):=by
  rw[b0y (g:=fun v=>fkF g n ci v i 0 c (g v)) (fun v h1 h2=>n0m hg h1 h2 c 0 (S4 _) (by omega)),j0w (fun v hv=>by rw[e0l,hg v hv,Gl])]
 rw[e1,b0y (g:=fun v=>vw n (List.replicate c.length g) (fun xs=>b1 (s0K (psL ci v i 0 c) xs))) (fun v _ _=>(p0q n _ _ (by rw[Cy,h0I])).symm),<- b1k];refine f0M fun xs hl hb=>?_
 rw[Cy]at hl;have hne:nzV c xs ≠ []:=fun h=>by
  have:(nzV c xs).length=0:=by rw[h];rfl
  unfold nzV at this;rw[List.length_zipWith,hl]at this;omega
 obtain⟨v0,hv0⟩:∃ v0,xs[i]?=some v0:=⟨_,J0 (by omega)⟩;obtain⟨b2,b3⟩:=hb v0 (C7 hv0);by_cases hm:IsMx (nzV c xs) i (ci+v0)
 .rw[E7 ((s0t hne).2 ⟨_,hm⟩)]
  rw[b0y (g:=fun v=>if v=v0 then 1 else 0) (fun v _ _=>by
   by_cases e:v=v0
   .subst e;rw[J2 rfl,b1,J2 ((i0P hl hci).2 ⟨hv0,hm⟩)]
   .rw[U0 e,b1,U0 (fun h=>by
     have:=((i0P hl hci).1 h).1;rw[hv0]at this;cases this;exact e rfl)]),p0k b2 b3]
  rfl
 .have hno:¬ amx (nzV c xs)=i:=fun h=>by
   obtain⟨v,hv⟩:=(s0t hne).1 h;obtain⟨a,b,h1,h2,rfl⟩:=(k0m hl _ _).1 hv.at_;rw[hci]at h1;rw[hv0]at h2;cases h1;cases h2;exact hm hv
  rw[M6 hno,b0y (g:=fun _=>0) (fun v _ _=>by
   rw[b1,U0 (fun h=>by
    obtain⟨h1,h2⟩:=(i0P hl hci).1 h;rw[hv0]at h1;cases h1;exact hm h2)]),p0j]
  rfl
def x0D {g:Int->Nat}{n:Nat}(hg:∀ v:Int,v<0->g v=0){c:List Int}{M:Nat}(hM:M<=c.length):a0k (fkT g n c) M<=w0J n (List.replicate c.length g):=by
 rw[a0d (fun i hi=>a1o hg (U6 hi hM))];refine s0M fun xs _=>p0C (p:=fun i=>decide (amx (nzV c xs)=i)) (fun i j h k=>?_) M
 rw[Fe]at h k;omega
def a1p {g:Int->Nat}{n:Nat}(hg:∀ v:Int,v<0->g v=0)(hz:zS n g<=2 ^ n){c:List Int}{M:Nat}(hM:M<=c.length):a0k (fkT g n c) M<=2 ^ (n*c.length):=by
 have:=q0t (n:=n) (gs:=List.replicate c.length g) (fun g' h=>by rw[Iu h];exact hz);rw[Cy]at this;exact O0 (x0D hg hM) this
open Go.Lib (decDigits nDigits)
def m0d (L:List Nat)(i k:Nat)(m:List Nat):List Nat:=m.set (i+k) (m.getD (i+k) 0+L.getD i 0*L.getD k 0)
def cIn (L:List Nat)(i:Nat):Nat->List Nat->List Nat
 | 0,m=>m
 | k+1,m=>m0d L i k (cIn L i k m)
def k0M (L:List Nat)(n:Nat):Nat->List Nat
 | 0=>List.replicate (n+1) 0
 | i+1=>cIn L i (n+1-i) (k0M L n i)
structure CB (n B t:Nat)(m:List Nat):Prop where
 len:m.length=n+1
 up:∀ k,m.getD k 0<=t*B
def n0g (l:List Nat){i:Nat}(hi:i<l.length)(x k:Nat):(l.set i x).getD k 0=if i=k then x else l.getD k 0:=by
 rw[J3,J3,Ec];by_cases h:i=k
 .subst h;simp[hi]
 .simp[h]
theorem CB.step {L m:List Nat}{n B t i k:Nat}(h:CB n (B*B) t m)(hL:∀ k,L.getD k 0<=B)(hik:i+k<=n):CB n (B*B) (t+1) (m0d L i k m):=by
 refine⟨by simp[m0d,h.len],fun j=>?_⟩;have h1:=h.up j;have h2:=h.up (i+k);have h3:=Bk (hL i) (hL k);unfold m0d;rw[n0g _ (by rw[h.len];omega),Iv]
 split<;>omega
theorem CB.inner {L m:List Nat}{n B t i:Nat}(h:CB n (B*B) t m)(hL:∀ k,L.getD k 0<=B):∀ k,i+k<=n+1->CB n (B*B) (t+k) (cIn L i k m)
 | 0,_=>h
 | k+1,hk=>CB.step (CB.inner h hL k (by omega)) hL (by omega)
theorem CB.outer {L:List Nat}{n B:Nat}(hL:∀ k,L.getD k 0<=B):∀ i,i<=n+1->CB n (B*B) (i*(n+1)) (k0M L n i)
 | 0,_=>⟨by simp[k0M],fun k=>by
  rw[k0M,J3,Ag]
  split<;>simp⟩
 | i+1,hi=>by
  have h0:=CB.outer (n:=n) hL i (by omega);have h:=CB.inner (i:=i) h0 hL (n+1-i) (by omega);refine⟨h.len,fun k=>O0 (h.up k) (C9 _ ?_)⟩;rw[Iv];omega
def rIn (L:List Nat)(n:Nat):Nat->Nat
 | 0=>2 ^ n
 | i+1=>rIn L n i-L.getD i 0*2 ^ (n-i)
theorem j0V (L:List Nat)(n:Nat):∀ i,rIn L n i<=2 ^ n
 | 0=>J4 _
 | i+1=>by have:=j0V L n i;rw[rIn];omega
def e3:Nat:=300
def e7:Nat:=700
def p0y {os zs:Nat->Bool}(h0:os 0=false){n:Nat}(hn:n<=256):(b0L os zs n (n+1)).2.length=n+1/\∀ k,(b0L os zs n (n+1)).2.getD k 0<=2 ^ e3:=by
 have h:=TB.outer (zs:=zs) h0 n (n+1) nr0;exact⟨h.l2,fun k=>O0 (h.up2 k) (H6 (by omega) (by unfold e3;omega))⟩
def h0U {n t:Nat}(hn:n<=256)(ht:t<=(n+1)*(n+1)){x:Nat}(h:x<=t*(2 ^ e3*2 ^ e3)):x<=2 ^ e7:=by
 refine O0 h ?_;have h1:t<=2 ^ 20:=by
  refine O0 ht ?_;have:(n+1)*(n+1)<=257*257:=Bk (by omega) (by omega);omega
 have h2:=C9 (2 ^ e3*2 ^ e3) h1;rw[<- Cr,<- Cr]at h2;rw[<- Cr];exact O0 h2 (H6 (by omega) (by unfold e3 e7;omega))
end
section
open Go.RowKit
theorem y0Z {os zs:Nat->Bool}(h0:os 0=false){n i:Nat}{s:List Nat×List Nat}(h1:s.1.length=n+1)(h2:s.2.length=n+1):∀ j,i+j<=n+1->tIn os zs i j s=(aIn os (s.1.getD i 0) i j s.1,aIn zs (s.1.getD i 0) i j s.2)
 | 0,_=>rfl
 | j+1,h=>by
  have e:(aIn os (s.1.getD i 0) i j s.1).getD i 0=s.1.getD i 0:=by
   rw[f0q h1 (by omega),U0 (by rw[Ce,h0];simp),Ac]
  rw[tIn,y0Z h0 h1 h2 j (by omega),n0U,e,aIn,aIn]
def m0x {os zs:Nat->Bool}(h0:os 0=false)(n:Nat):∀ i,i<=n+1->(b0L os zs n i).1.length=n+1/\(b0L os zs n i).2.length=n+1:=fun i hi=>by
 have h:=TB.outer (os:=os) (zs:=zs) h0 n i hi;exact⟨h.l1,h.l2⟩
theorem p0B {os zs:Nat->Bool}(h0:os 0=false){n i:Nat}(hi:i<=n):b0L os zs n (i+1)=(aIn os ((b0L os zs n i).1.getD i 0) i (n+1-i) (b0L os zs n i).1,aIn zs ((b0L os zs n i).1.getD i 0) i (n+1-i) (b0L os zs n i).2):=by
 obtain⟨l1,l2⟩:=m0x (os:=os) (zs:=zs) h0 n i (by omega);rw[b0L]
 split
 .rename_i hz
  rw[hz,e0X,e0X]
 .exact y0Z h0 l1 l2 _ (by omega)
def uT (os zs:Nat->Bool)(n i:Nat):Nat:=(b0L os zs n i).1.getD i 0
theorem f0P {os zs:Nat->Bool}(h0:os 0=false){n:Nat}:∀ {i:Nat},i<=n+1->∀ k,k<=n ->
 (b0L os zs n i).1.getD k 0=dlt k+a0k (fun i'=>if i'<=k/\os (k-i')=true then uT os zs n i' else 0) i /\
 (b0L os zs n i).2.getD k 0=a0k (fun i'=>if i'<=k/\zs (k-i')=true then uT os zs n i' else 0) i
 | 0,_,k,hk=>by
  constructor
  .rw[b0L];unfold dlt;cases k with
   | zero=>rfl
   | succ k=>simp[a0k,J3,Ag,show k<n by omega]
  .rw[b0L];simp[a0k,J3,Ag,show k<n+1 by omega]
 | i+1,h,k,hk=>by
  obtain⟨l1,l2⟩:=m0x (os:=os) (zs:=zs) h0 n i (by omega);obtain⟨g1,g2⟩:=f0P h0 (n:=n) (i:=i) (os:=os) (zs:=zs) (by omega) k hk;have e:∀ c:Nat->Bool,(if i<=k/\k<i+(n+1-i)/\c (k-i)=true then (b0L os zs n i).1.getD i 0 else 0)=if i<=k/\c (k-i)=true then uT os zs n i else 0:=fun c=>by
   by_cases hc:i<=k/\c (k-i)=true
   .rw[J2 hc,J2 ⟨hc.1,by omega,hc.2⟩];rfl
   .rw[U0 hc,U0 (fun hh=>hc ⟨hh.1,hh.2.2⟩)]
  rw[p0B h0 (by omega)];dsimp only;rw[f0q l1 (by omega),f0q l2 (by omega),g1,g2,a0k,a0k,e,e];exact⟨by omega,rfl⟩
def f0Q {c:Nat->Bool}{f:Nat->Nat}{k:Nat}:∀ {m:Nat},k+1<=m->a0k (fun i'=>if i'<=k/\c (k-i')=true then f i' else 0) m=cvo (chi c) f k:=fun {m} hm=>by
 rw[g0h];unfold cvo;obtain⟨d,rfl⟩:∃ d,m=k+1+d:=⟨m-(k+1),by omega⟩;have e:∀ d,a0k (fun i'=>if i'<=k/\c (k-i')=true then f i' else 0) (k+1+d)=a0k (fun i'=>if i'<=k/\c (k-i')=true then f i' else 0) (k+1):=fun d=>by
  induction d with
  | zero=>rfl
  | succ d ih=>rw[<- Bn,a0k,ih,U0 (by omega)];rfl
 rw[e];refine a0d fun i hi=>?_
 unfold chi;by_cases hc:c (k-i)=true
 .rw[J2 ⟨by omega,hc⟩,J2 hc,De]
 .rw[U0 (fun h=>hc h.2),U0 hc,Hl]
def s0O {os zs:Nat->Bool}(h0:os 0=false){n k:Nat}(hk:k<=n):uT os zs n k=dlt k+cvo (chi os) (uT os zs n) k:=by
 have h:=(f0P (zs:=zs) h0 (n:=n) (i:=k) (by omega) k hk).1;rw[<- f0Q (m:=k+1) nr0,a0k,U0 (by rw[Ce,h0];simp),Ac];exact h
def m0r {os zs:Nat->Bool}(h0:os 0=false){n k:Nat}(hk:k<=n):(b0L os zs n (n+1)).2.getD k 0=cvo (chi zs) (uT os zs n) k:=by
 rw[(f0P (os:=os) (zs:=zs) h0 (n:=n) nr0 k hk).2,f0Q (by omega)]
def r0X (f g h:Nat->Nat)(n:Nat):cvo (fun m=>f m+g m) h n=cvo f h n+cvo g h n:=by
 unfold cvo;rw[<- b0U];exact a0d fun i _=>Ax _ _ _
def p0Z {c:Nat->Bool}(h0:c 0=false){F G R:Nat->Nat}{n:Nat}(hF:∀ m,m<=n->F m=cvo (chi c) F m+R m)(hG:∀ m,m<=n->G m=cvo (chi c) G m+R m):∀ m,m<=n->F m=G m:=by
 intro m
 induction m using Nat.strongRecOn with
 | ind m ih=>
  intro hm;rw[hF m hm,hG m hm]
  congr 1
  unfold cvo;rw[b0r,b0r];have e:chi c 0=0:=by unfold chi;rw[h0];rfl
  rw[e,Gl,Gl]
  congr 1
  refine a0d fun i hi=>?_
  rw[ih (m-(i+1)) (by omega) (by omega)]
def f0A (N D:Nat)(l:List UInt8):Bool:=(s1 N D l 0 0).isSome
def d0y (N D:Nat)(l:List UInt8):Bool:=match s1 N D l 0 0 with | none=>false | some (_,p)=>f0A N D (l.drop p)
def r0T {N D:Nat}(h:N<D)(l:List UInt8):f0A N D l=b0C N D 0 1 (f0A N D) (fun _=>true) l:=by
 unfold b0C;rw[f0A,g0x h];cases hd:(b0P N D 0 1 l).1
 .rfl
 .rw[J2 rfl,Ej];by_cases hv:(b0P N D 0 1 l).2.1=1
  .rw[J2 hv,J2 hv];show _=f0A N D (l.drop (b0P N D 0 1 l).2.2)
   rw[f0A];cases s1 N D (l.drop (b0P N D 0 1 l).2.2) 0 0<;>rfl
  .rw[U0 hv,U0 hv];rfl
def o0V {N D:Nat}(h:N<D)(l:List UInt8):d0y N D l=b0C N D 0 1 (d0y N D) (f0A N D) l:=by
 unfold b0C;rw[d0y,g0x h];cases hd:(b0P N D 0 1 l).1
 .rfl
 .rw[J2 rfl,Ej];by_cases hv:(b0P N D 0 1 l).2.1=1
  .rw[J2 hv,J2 hv];show _=d0y N D (l.drop (b0P N D 0 1 l).2.2)
   rw[d0y];cases s1 N D (l.drop (b0P N D 0 1 l).2.2) 0 0 with
   | none=>rfl
   | some x=>simp[Ee]
  .rw[U0 hv,U0 hv]
section
variable {N D : Nat} (h : N < D) (n : Nat)
include h
theorem i0g {m:Nat}(hm:m<=n):cvo (fun k=>(b0L (a0C N D) (a0i N D) n (n+1)).2.getD k 0) pw2 m=cw m (f0A N D):=by
 have o0:a0C N D 0=false:=rfl;have hL:∀ m,m<=n->cvo (fun k=>(b0L (a0C N D) (a0i N D) n (n+1)).2.getD k 0) pw2 m=cvo (uT (a0C N D) (a0i N D) n) (cvo (chi (a0i N D)) pw2) m:=fun m hm=>by
  rw[a0M (f':=cvo (chi (a0i N D)) (uT (a0C N D) (a0i N D) n)) (g':=pw2) (fun s hs=>m0r o0 (by omega)) (fun _ _=>rfl),b0F,j0f]
 refine p0Z (c:=a0C N D) (F:=cvo (fun k=>(b0L (a0C N D) (a0i N D) n (n+1)).2.getD k 0) pw2) (G:=fun m=>cw m (f0A N D)) o0 (R:=cvo (chi (a0i N D)) pw2) (n:=n) (fun m hm=>?_) (fun m hm=>?_) m hm
 .rw[hL m hm,a0M (f':=fun k=>dlt k+cvo (chi (a0C N D)) (uT (a0C N D) (a0i N D) n) k) (g':=cvo (chi (a0i N D)) pw2) (fun s hs=>s0O o0 (by omega)) (fun _ _=>rfl),r0X,l0Z,b0F,Iy]
  congr 1
  exact a0M (fun _ _=>rfl) fun s hs=>(hL s (by omega)).symm
 .rw[a0E (Q:=b0C N D 0 1 (f0A N D) (fun _=>true)) (fun l _=>r0T h l),d0P h]
  congr 1
  exact a0M (fun _ _=>rfl) fun s _=>j0e s
theorem m0s {m:Nat}(hm:m<=n):cvo (cvo (fun k=>(b0L (a0C N D) (a0i N D) n (n+1)).2.getD k 0) (fun k=>(b0L (a0C N D) (a0i N D) n (n+1)).2.getD k 0)) pw2 m=cw m (d0y N D):=by
 have o0:a0C N D 0=false:=rfl;have hT:∀ s,s<=n->(b0L (a0C N D) (a0i N D) n (n+1)).2.getD s 0=cvo (chi (a0i N D)) (uT (a0C N D) (a0i N D) n) s:=fun s hs=>m0r o0 hs
 have hL:∀ m,m<=n->cvo (cvo (fun k=>(b0L (a0C N D) (a0i N D) n (n+1)).2.getD k 0) (fun k=>(b0L (a0C N D) (a0i N D) n (n+1)).2.getD k 0)) pw2 m=cvo (uT (a0C N D) (a0i N D) n) (cvo (chi (a0i N D)) (fun k=>cw k (f0A N D))) m:=fun m hm=>by
  rw[b0F,a0M (f':=cvo (chi (a0i N D)) (uT (a0C N D) (a0i N D) n)) (g':=fun k=>cw k (f0A N D)) (fun s hs=>hT s (by omega)) (fun s hs=>i0g h n (by omega)),b0F,j0f]
 refine p0Z (c:=a0C N D) (F:=cvo (cvo (fun k=>(b0L (a0C N D) (a0i N D) n (n+1)).2.getD k 0) (fun k=>(b0L (a0C N D) (a0i N D) n (n+1)).2.getD k 0)) pw2) (G:=fun m=>cw m (d0y N D)) o0 (R:=cvo (chi (a0i N D)) (fun k=>cw k (f0A N D))) (n:=n) (fun m hm=>?_) (fun m hm=>?_) m hm
 .rw[hL m hm,a0M (f':=fun k=>dlt k+cvo (chi (a0C N D)) (uT (a0C N D) (a0i N D) n) k) (g':=cvo (chi (a0i N D)) (fun k=>cw k (f0A N D))) (fun s hs=>s0O o0 (by omega)) (fun _ _=>rfl),r0X,l0Z,b0F,Iy]
  congr 1
  exact a0M (fun _ _=>rfl) fun s hs=>(hL s (by omega)).symm
 .rw[a0E (Q:=b0C N D 0 1 (d0y N D) (f0A N D)) (fun l _=>o0V h l),d0P h]
end
def k0H (P:List UInt8->Bool):∀ n,cw n P+cw n (fun l => !P l)=2 ^ n:=fun n=>by
 rw[<- f0B,<- f0B,<- e0r];have:∀ L:List (List UInt8),L.countP P+L.countP (fun l => !P l)=L.length:=fun L=>by
  induction L with
  | nil=>rfl
  | cons a r ih=>
   simp only[In,U7];cases P a<;>simp<;>omega
 exact this _
def v0y (N D n:Nat):gL N D false n=2 ^ n-cw n (f0A N D):=by
 have h:=k0H (f0A N D) n;have e:gL N D false n=cw n (fun l => !f0A N D l):=a0E fun l _=>by
  rw[Ay,Fe];unfold h0y f0A;cases s1 N D l 0 0<;>simp
 omega
def r0s (N D n:Nat):gL N D true n=2 ^ n-cw n (d0y N D):=by
 have h:=k0H (d0y N D) n;have e:gL N D true n=cw n (fun l => !d0y N D l):=a0E fun l _=>by
  rw[Ay,Fe];unfold h0y d0y f0A;cases s1 N D l 0 0 with
  | none=>simp
  | some xp=>
   simp only[Fm];cases s1 N D (l.drop xp.2) 0 0<;>simp
 omega
theorem l0i {L:List Nat}{n:Nat}(h:a0k (fun i=>L.getD i 0*2 ^ (n-i)) (n+1)<=2 ^ n):∀ i,i<=n+1->rIn L n i=2 ^ n-a0k (fun i=>L.getD i 0*2 ^ (n-i)) i
 | 0,_=>by simp[rIn,a0k]
 | i+1,hi=>by
  have:=a0K (f:=fun i=>L.getD i 0*2 ^ (n-i)) hi;rw[rIn,l0i h i (by omega),a0k];omega
def z0i {L:List Nat}{n:Nat}(h:a0k (fun i=>L.getD i 0*2 ^ (n-i)) (n+1)<=2 ^ n):∀ i,i<=n->L.getD i 0*2 ^ (n-i)<=rIn L n i:=fun i hi=>by
 have h1:=a0K (f:=fun i=>L.getD i 0*2 ^ (n-i)) (show i+1<=n+1 by omega);rw[a0k]at h1;rw[l0i h i (by omega)];omega
theorem m0e (L:List Nat)(i:Nat):∀ (k:Nat) (m:List Nat),(cIn L i k m).length=m.length
 | 0,_=>rfl
 | k+1,m=>by rw[cIn,m0d,Aq,m0e L i k m]
theorem n0E (L:List Nat)(n:Nat):∀ i,(k0M L n i).length=n+1
 | 0=>by simp[k0M]
 | i+1=>by rw[k0M,m0e,n0E L n i]
theorem m0f {L m:List Nat}{i n:Nat}(hl:m.length=n+1):∀ {k:Nat},i+k<=n+1->∀ j,(cIn L i k m).getD j 0=m.getD j 0+(if i<=j/\j<i+k then L.getD i 0*L.getD (j-i) 0 else 0)
 | 0,_,j=>by rw[cIn,U0 (by omega)];rfl
 | k+1,h,j=>by
  rw[cIn,m0d,n0g _ (by rw[m0e];omega),m0f hl (by omega),m0f hl (by omega)];by_cases hj:i+k=j
  .subst hj;rw[J2 rfl,U0 (by omega),J2 (by omega),show i+k-i=k by omega];omega
  .rw[U0 hj]
   congr 1
   by_cases hc:i<=j/\j<i+k
   .rw[J2 hc,J2 (by omega)]
   .rw[U0 hc,U0 (by omega)]
theorem n0F {L:List Nat}{n:Nat}:∀ {i:Nat},i<=n+1->∀ j,j<=n->(k0M L n i).getD j 0=a0k (fun i'=>if i'<=j then L.getD i' 0*L.getD (j-i') 0 else 0) i
 | 0,_,j,hj=>by simp[k0M,a0k,J3,Ag,show j<n+1 by omega]
 | i+1,h,j,hj=>by
  rw[k0M,m0f (n0E L n i) (by omega),n0F (by omega) j hj,a0k]
  congr 1
  by_cases hc:i<=j
  .rw[J2 hc,J2 (by omega)]
  .rw[U0 hc,U0 (by omega)]
def u0P {L:List Nat}{n j:Nat}(hj:j<=n):(k0M L n (n+1)).getD j 0=cvo (fun k=>L.getD k 0) (fun k=>L.getD k 0) j:=by
 rw[n0F nr0 j hj];unfold cvo;obtain⟨d,hd⟩:∃ d,n+1=j+1+d:=⟨n-j,by omega⟩;rw[hd];have e:∀ d,a0k (fun i'=>if i'<=j then L.getD i' 0*L.getD (j-i') 0 else 0) (j+1+d)=a0k (fun i'=>if i'<=j then L.getD i' 0*L.getD (j-i') 0 else 0) (j+1):=fun d=>by
  induction d with
  | zero=>rfl
  | succ d ih=>rw[<- Bn,a0k,ih,U0 (by omega)];rfl
 rw[e];exact a0d fun i hi=>J2 (by omega)
open Go.Shelf
open Go.Lib (decDigits nDigits)
def q0D {a b:Nat}:decide (b0d a b<=0)=decide (a<=b):=by
 unfold b0d
 split
 .simp;omega
 .split<;>simp<;>omega
def y0i (w:World)(n d:ByteArray):
 Calls Tryz.prog 344 #[.string n,.string d] w fun e w'=>e=.returned (.func (.func 357) #[] #[.pointer (some ⟨w.heap.size,0,none⟩),.pointer (some ⟨w.heap.size+1,0,none⟩)])/\w'=(w.alloc (.cells #[.string n] 23)).alloc (.cells #[.string d] 23):=by
 go_enter Tryz.func344,Tryz.ntmps344;go_wp2_with fail;go_ret
 exact⟨rfl,rfl⟩
def a1L (w:World)(bn bd N D K T:Nat)(hn:Blk w bn #[.string (a0f N)] 23)(hd:Blk w bd #[.string (a0f D)] 23)(hf:Fits N D K T)(hL:Lay w):
 Calls Tryz.prog 357 #[.string (a0f K),.string (a0f T),.pointer (some ⟨bn,0,none⟩),.pointer (some ⟨bd,0,none⟩)] w fun e w'=>e=.returned (.tuple #[.int .i64 (sdV N D K T:Nat),.bool (sdB N D K T)])/\Below w.heap.size w w':=by
 have dN:=a0Z hf.n (by decide) (by decide);have dD:=a0Z hf.d (by decide) (by decide);have dK:=a0Z hf.k (by decide) (by decide);have dT:=a0Z hf.t (by decide) (by decide);have f1:=h0a hf.n hf.t;have f2:=h0a hf.k hf.d;have dP:=a0Z f1 (by decide) (by decide);have dQ:=a0Z f2 (by decide) (by decide);have dS:=a0Z (i0X f2 (a1s hf.d (by decide))) (by decide) (by decide);have T1:=fun V hV=>hid (s0k V (a0f N) (a0f T) (a0N dN) (a0N dT) hV)
 have T2:=fun V hV=>hid (s0k V (a0f K) (a0f D) (a0N dK) (a0N dD) hV)
 have T3:=fun V hV=>hid (s0l V (a0f (K*D)) (a0f D) (a0N dQ) (a0N dD) hV)
 have C1:=fun V=>hid (q0N V (a0f (N*T)) (a0f (K*D)) (a0N dP) (a0N dQ))
 have C2:=fun V=>hid (q0N V (a0f (K*D+D)) (a0f (N*T)) (a0N dS) (a0N dP))
 rw[c0Z dN dT dP]at T1;rw[c0Z dK dD dQ]at T2;rw[c0Z dQ dD dS]at T3;rw[j0h dP dQ]at C1;rw[j0h dS dP]at C2;have HL:=hid hL;have HN:=hid hn;have HD:=hid hd;have c0:=hn.cell 0;have c1:=hd.cell 0;simp only[J5,Ar]at c0 c1;have hSV:sdV N D K T=if N*T<=K*D then 0 else 1:=rfl
 have hSB:sdB N D K T=(decide (N*T<=K*D) || decide (K*D+D<=N*T)):=rfl;rw[hSV,hSB];obtain⟨P,hP⟩:=gn (N*T);obtain⟨Q,hQ⟩:=gn (K*D);rw[hP]at T1 C1 C2 |-;rw[hQ]at T2 T3 C1 C2 |-;obtain⟨sn,hsn⟩:=gn (a0f N);obtain⟨sd,hsd⟩:=gn (a0f D);obtain⟨sk,hsk⟩:=gn (a0f K);obtain⟨st,hst⟩:=gn (a0f T);rw[hsn]at T1 c0 HN;rw[hsd]at T2 T3 c1 HD;rw[hsk]at T2 |-;rw[hst]at T1 |-;clear hsn hsd hsk hst hP hQ hSV hSB dN dD dK dT f1 f2 dP dQ dS hf hL hn hd;go_enter Tryz.func357,Tryz.ntmps357;go_wp2_with fail;refine a0m [0,1,3,4] 4 (fun W'=>W'.cell? ⟨bn,0,none⟩=some (.string sn)/\W'.cell? ⟨bd,0,none⟩=some (.string sd)) (by kernel_rfl) (by kernel_rfl) (by kernel_rfl) (by kernel_rfl) ⟨c0,c1⟩ ?_
 iterate 4
  refine⟨_,rfl,?_⟩;apply Exists.intro
  refine⟨.inl ⟨by rfl,?_⟩,?_⟩
  ·(intro W' hW'
    obtain⟨q1,q2⟩:=hW'
    go_simp
    try (with_reducible rfl))
  simp only[Act.put,Ao,Mt,Jb]
 refine a0c (i:=2) (by kernel_rfl) (by rfl) (by rfl) ?_;go_wp2_with fail;refine (T1 _ (HL.out.call br0.drew)).out.mono ?_;rintro e w1 ⟨rfl,hb1⟩;have y1:=hid (show Below w.heap.size w w1 from br0.drew.trans hb1);have N1:=hid (HN.out.call y1.out);have D1:=hid (HD.out.call y1.out);clear hb1;go_wp2_with fail;refine⟨⟨N1.out.cell 0,D1.out.cell 0⟩,?_⟩;refine a0c (i:=5) (by kernel_rfl) (by rfl) (by rfl) ?_;go_wp2_with fail;refine (T2 _ (HL.out.call y1.out)).out.mono ?_;rintro e w2 ⟨rfl,hb2⟩;have y2:=hid (a0a y1.out hb2);have N2:=hid (N1.out.call hb2);have D2:=hid (D1.out.call hb2);clear hb2;go_wp2_with fail;refine⟨⟨N2.out.cell 0,D2.out.cell 0⟩,?_⟩;refine a0c (i:=6) (by kernel_rfl) (by rfl) (by rfl) ?_;go_wp2_with fail;refine⟨⟨N2.out.cell 0,D2.out.cell 0⟩,?_⟩;refine a0c (i:=7) (by kernel_rfl) (by rfl) (by rfl) ?_;go_wp2_with fail;refine⟨⟨N2.out.cell 0,D2.out.cell 0⟩,?_⟩;refine H8 (by kernel_rfl) ?_ _;simp only[b0h];go_wp2_with fail;refine (C1 _).out.mono ?_;rintro e w3 ⟨rfl,hb3⟩;have y3:=hid (a0a y2.out hb3);have D3:=hid (D2.out.call hb3);clear hb3;have o1:=q0D (a:=P) (b:=Q);obtain⟨x1,hx1⟩:=gn (b0d P Q);rw[hx1]at o1 |-;clear hx1;by_cases h:P<=Q
 .simp only[h,decide_true,Fm,Bool.true_or]at o1 |-;go_wp2_with fail;go_ret2
  exact⟨rfl,y3.out⟩
 .have o2:=q0D (a:=Q+D) (b:=P);have d3:=D3.out.cell 0;simp only[J5,Ar]at d3;obtain⟨x2,hx2⟩:=gn (b0d (Q+D) P);obtain⟨r,hr⟩:=gn (decide (Q+D<=P));rw[hx2]at o2 C2;rw[hr]at o2;simp only[h,decide_false,Ew,Bool.false_or]at o1 |-;clear hx2;go_wp2_with fail;refine (T3 _ (HL.out.call y3.out)).out.mono ?_;rintro e w4 ⟨rfl,hb4⟩;have y4:=hid (a0a y3.out hb4);clear hb4;go_wp2_with fail;refine (C2 _).out.mono ?_;rintro e w5 ⟨rfl,hb5⟩;have y5:=hid (a0a y4.out hb5);clear hb5;go_wp2_with fail;go_ret2
  exact⟨rfl,y5.out⟩
def j0F (b k t:ByteArray)(bn bd:Nat)(dn:Bool)(v u:Int):Array Value:=
 #[.string b,.string k,.string t,.func (.func 357) #[] #[.pointer (some ⟨bn,0,none⟩),.pointer (some ⟨bd,0,none⟩)],.bool dn,.int .i64 v,.int .i64 u]
structure Toss (w:World)(g bn bd:Nat)(b:ByteArray)(N D K T u:Nat):Prop where
 blk:Blk w g (j0F b (a0f K) (a0f T) bn bd false 0 u) 330
 num:Blk w bn #[.string (a0f N)] 23
 den:Blk w bd #[.string (a0f D)] 23
 ln:bn<g
 ld:bd<g
def a1N (w:World)(g bn bd:Nat)(b:ByteArray)(N D K T u:Nat)(ht:Toss w g bn bd b N D K T u)(hf:Fits N D K T)(hL:Lay w)(hs:b.size<=100000)(hu:u<=b.size):
 Calls Tryz.prog 345 #[.pointer (some ⟨g,0,none⟩)] w fun e w'=>
  Below g w w' /\
  ((sdB N D K T=true/\e=.returned .nilFunc/\Blk w' g (j0F b (a0f K) (a0f T) bn bd true (sdV N D K T:Nat) u) 330) \/
   (sdB N D K T=false/\u=b.size/\e=.returned .nilFunc/\Toss w' g bn bd b N D K T u) \/
   (sdB N D K T=false/\u<b.size/\e=.returned (.func (.func 360) #[.pointer (some ⟨g,0,none⟩)] #[])/\Toss w' g bn bd b N D K T u)):=by
 have HB:=hid ht.blk;have HN:=hid ht.num;have HD:=hid ht.den;have LN:=hid ht.ln;have LD:=hid ht.ld;have LG:=hid (Blk.lt ht.blk);have HU:=hid hu;have c1:w.cell? ⟨g,1,none⟩=some (.string (a0f K)):=ht.blk.cell 1;have c2:w.cell? ⟨g,2,none⟩=some (.string (a0f T)):=ht.blk.cell 2;have c3:w.cell? ⟨g,3,none⟩=some (.func (.func 357) #[] #[.pointer (some ⟨bn,0,none⟩),.pointer (some ⟨bd,0,none⟩)]):=ht.blk.cell 3;have e51:∀ args w,(callFunc 357 args).run Tryz.prog w=.ok (.enter 357 args) w:=Ch Tryz.func357 (by kernel_rfl) rfl;obtain⟨sk,hsk⟩:=gn (a0f K);obtain⟨st,hst⟩:=gn (a0f T);have HK:=hid hsk;have HT:=hid hst;rw[hsk]at c1;rw[hst]at c2;have CS:=hid (a1L w.drew bn bd N D K T ht.num ht.den hf (hL.call br0.drew));rw[hsk,hst]at CS;obtain⟨xv,hxv⟩:=gn (sdV N D K T);obtain⟨xb,hxb⟩:=gn (sdB N D K T);rw[hxv,hxb]at CS;rw[hxv,hxb];clear hsk hst ht hf hL hs hu hxv hxb;go_enter Tryz.func345,Tryz.ntmps345;go_wp2_with fail;refine a0m [0,1,2,3,4,5,6,7,8,9,10,11] 6 (fun W'=>(W'.cell? ⟨g,1,none⟩=some (.string sk)/\W'.cell? ⟨g,2,none⟩=some (.string st))/\W'.cell? ⟨g,3,none⟩=some (.func (.func 357) #[] #[.pointer (some ⟨bn,0,none⟩),.pointer (some ⟨bd,0,none⟩)])) (by kernel_rfl) (by kernel_rfl) (by kernel_rfl) (by kernel_rfl) ⟨⟨c1,c2⟩,c3⟩ ?_
 iterate 12
  refine⟨_,rfl,?_⟩;apply Exists.intro
  refine⟨.inl ⟨by rfl,?_⟩,?_⟩
  ·(intro W' hW'
    obtain⟨⟨q1,q2⟩,q3⟩:=hW'
    go_simp
    try (with_reducible rfl))
  go_frame
 refine a0c (i:=12) (by kernel_rfl) (by rfl) (by rfl) ?_;go_wp2_with fail;refine CS.out.mono ?_;rintro e w1 ⟨rfl,hb1⟩;have y1:=hid (show Below w.heap.size w w1 from br0.drew.trans hb1);have B1:=hid (HB.out.call y1.out);have N1:=hid (HN.out.call y1.out);have D1:=hid (HD.out.call y1.out);have d0:w1.cell? ⟨g,0,none⟩=some (.string b):=B1.out.cell 0;have d1:w1.cell? ⟨g,1,none⟩=some (.string (a0f K)):=B1.out.cell 1;have d2:w1.cell? ⟨g,2,none⟩=some (.string (a0f T)):=B1.out.cell 2;have d3:w1.cell? ⟨g,3,none⟩=some (.func (.func 357) #[] #[.pointer (some ⟨bn,0,none⟩),.pointer (some ⟨bd,0,none⟩)]):=B1.out.cell 3;have d4:w1.cell? ⟨g,4,none⟩=some (.bool false):=B1.out.cell 4;have d5:w1.cell? ⟨g,5,none⟩=some (.int .i64 0):=B1.out.cell 5;have d6:w1.cell? ⟨g,6,none⟩=some (.int .i64 u):=B1.out.cell 6;have f4:=B1.out.free 4;have f5:=B1.out.free 5;rw[HK.out]at d1;rw[HT.out]at d2;clear hb1 c1 c2 c3;go_wp2_with fail;refine⟨⟨⟨d1,d2⟩,d3⟩,?_⟩;refine b0e (is:=[13,14,15,16,17]) (g:=0) (by kernel_rfl) rfl ⟨⟨d1,d2⟩,d3⟩ (by kernel_rfl) ?_
 iterate 5
  refine⟨_,rfl,?_⟩;apply Exists.intro
  refine⟨.inl ⟨by rfl,?_⟩,?_⟩
  ·(intro W' hW'
    clear hW'
    go_simp
    try (with_reducible rfl))
  go_frame
 refine H8 (by kernel_rfl) ?_ _;simp only[b0h];cases xb
 .go_wp2_with fail;refine a0m [0,1,2,3,4,5,6,7,8,9,10] 0 (fun W'=>W'.cell? ⟨g,0,none⟩=some (.string b)/\W'.cell? ⟨g,6,none⟩=some (.int .i64 u)) (by kernel_rfl) (by kernel_rfl) (by kernel_rfl) (by kernel_rfl) ⟨d0,d6⟩ ?_
  iterate 11
   refine⟨_,rfl,?_⟩;apply Exists.intro
   refine⟨.inl ⟨by rfl,?_⟩,?_⟩
   ·(intro W' hW'
     obtain⟨q1,q2⟩:=hW'
     go_simp
     try (with_reducible rfl))
   go_frame
  refine H8 (by kernel_rfl) ?_ _;simp only[b0h];have y2:=hid y1.out.drew;have T2:Hid (Toss w1.drew g bn bd b N D K T u):=⟨B1.out,N1.out,D1.out,LN.out,LD.out⟩;obtain⟨r,hr⟩:=gn (((u:Int)==(b.size:Int)));rw[hr];have HR:=hid hr;clear hr d0 d1 d2 d3 d4 d5 d6 f4 f5 e51;cases r
  .have HU2:=hid (show u<b.size from by have h1:=HU.out;have h2:=HR.out;simp at h2;omega);go_wp2_with fail;go_ret
   exact⟨y2.out.mono (Di LG.out),.inr ⟨HU2.out,rfl,T2.out⟩⟩
  .have HU2:=hid (show u=b.size from by have h2:=HR.out;simp at h2;omega);go_wp2_with fail;go_ret
   exact⟨y2.out.mono (Di LG.out),.inl ⟨HU2.out,rfl,T2.out⟩⟩
 .go_wp2_with fail;go_ret
  have r1:=(B1.out.set 4 (.bool true)).set 5 (.int .i64 xv);refine⟨?_,⟨rfl,?_⟩⟩
  .exact ((y1.out.mono (Di LG.out)).setCell nr0 _).setCell nr0 _
  .simpa[j0F]using r1
end
section
open Go.RowKit
variable {P : Program} {Q : Exit -> Act -> World -> Prop}
def c0w (P:Program)(ops:Array Oper)(Q:Exit->Act->World->Prop)(rest:List Oper):Exit->Act->World->Prop
 | .normal,a,w=>wpList P ops Q rest a w
 | e,a,w=>Q e a w
theorem i0D {md:Region.Mode}{ops:Array Oper}:∀ (fuel:Nat) (listed:Array Bool) (a:Act) (w:World),wpAny P md ops (b0h Q) fuel listed a w->wpAny P md ops Q fuel listed a w:=by
 intro fuel
 induction fuel with
 | zero=>exact fun _ _ _ h=>h
 | succ fuel ih=>
  rintro listed a w ⟨h1,h2⟩;refine⟨h1,fun i hi=>?_⟩;have h:=h2 i hi;unfold wpOp at h |-
  split at h
  .rename_i ho
   exact ih _ _ _ h
  .rename_i o ho
   split at h
   .rename_i hw
    rw[J2 hw];rcases h with h | ⟨_,a',w',h⟩
    .exact .inl (k0V (fun a w h=>ih _ _ _ h) (fun _ _ _ h=>h.elim) (fun ⟨_,_,h⟩=>h.elim) h)
    .exact h.elim
   .rename_i hw
    rw[U0 hw];exact ih _ _ _ h
end
section
open Go.RowKit
variable {P : Program} {Q : Exit -> Act -> World -> Prop} {md : Region.Mode} {ops : Array Oper} {oz : Oper}
inductive Dep (md:Region.Mode) (ops:Array Oper) (oz:Oper):Nat->Prop
 | here {e:Edge}:e∈oz.after->Region.binds md e=true->Dep md ops oz e.on
 | step {i:Nat} {o:Oper} {f:Edge}:Dep md ops oz i->ops[i]?=some o->f∈o.after->Region.binds md f=true->Dep md ops oz f.on
theorem Dep.on {listed:Array Bool}(hc:Closed md ops listed)(h:∀ e∈oz.after,Region.binds md e=true->listed.getD e.on false=true){i:Nat}(hd:Dep md ops oz i):listed.getD i false=true:=by
 induction hd with
 | here he hb=>exact h _ he hb
 | step _ ho hf hb ih=>exact hc _ _ ho ih _ hf hb
theorem f0G {L0:List Nat}(hz:∀ e∈oz.after,Region.binds md e=true->e.on<ops.size)(hz2:∀ i,i<ops.size->i∈L0\/Dep md ops oz i)(hfwd:∀ i o,ops[i]?=some o->∀ e∈o.after,Region.binds md e=true->e.on<i){listed:Array Bool}(hs:listed.size=ops.size)(hcl:Closed md ops listed)(h0L:∀ i∈L0,listed.getD i false=true)(hn:¬ k0Q ops.size listed):
 ∀ j,j∈Region.ready md (ops.push oz) (listed.push false)->j∈Region.ready md ops listed:=by
 intro j hj;rw[Gj]at hj |-;obtain⟨h0,o,ho,hall⟩:=hj;have hlt:j<ops.size+1:=by have:=(J6.1 ho).1;simpa using this
 by_cases hj':j=ops.size
 .subst hj';have:o=oz:=by simpa using ho.symm
  subst this;refine absurd (fun i hi=>?_) hn;rcases hz2 i hi with h | h
  .exact h0L i h
  .refine Dep.on hcl (fun e he hb=>?_) h;have h1:=hall e he hb;have h2:=hz e he hb;rwa[a0v (by omega)]at h1
 .have hjl:j<ops.size:=by omega
  rw[Cs hjl]at ho;rw[a0v (by omega)]at h0;refine⟨h0,o,by rw[E8 hjl];exact ho,fun e he hb=>?_⟩;have h1:=hall e he hb;have h2:=hfwd j o (by rw[E8 hjl];exact ho) e he hb;rwa[a0v (by omega)]at h1
def u0G (md:Region.Mode)(ops:Array Oper)(j i:Nat):Bool:=match ops[j]? with | some o=>o.after.toList.any (fun f=>Region.binds md f && f.on==i) | none=>false
theorem o0Q {j i:Nat}(h:u0G md ops j i=true):∃ o f,ops[j]?=some o/\f∈o.after/\Region.binds md f=true/\f.on=i:=by
 unfold u0G at h
 split at h
 .rename_i o ho
  simp only[Cm,F9,Dk,Cq]at h;obtain⟨f,hf,hb,hon⟩:=h;exact⟨o,f,ho,hf,hb,hon⟩
 .cases h
def b1f (md:Region.Mode)(ops:Array Oper)(known:List Nat):List (Nat×Nat)->List Nat
 | []=>known
 | (i,j)::r=>b1f md ops (if (known.contains j && u0G md ops j i)=true then i::known else known) r
theorem m0o:∀ (r:List (Nat×Nat)) (known:List Nat),(∀ i∈known,Dep md ops oz i)->∀ i∈b1f md ops known r,Dep md ops oz i
 | [],known,h=>h
 | (i,j)::r,known,h=>by
  unfold b1f;refine m0o r _ ?_;by_cases hc:(known.contains j && u0G md ops j i)=true
  .rw[J2 hc];simp only[F9]at hc;obtain⟨hj,hx⟩:=hc;obtain⟨o,f,ho,hf,hb,hon⟩:=o0Q hx;intro m hm;rcases Ci.1 hm with rfl | hm
   .rw[<- hon];exact .step (h j (by simpa using hj)) ho hf hb
   .exact h m hm
  .rw[U0 hc];exact h
def m0c (md:Region.Mode)(ops:Array Oper)(listed:Array Bool):Bool:=
 (List.range ops.size).all fun j => !listed.getD j false || (match ops[j]? with | some o=>o.after.toList.all (fun e => !Region.binds md e || listed.getD e.on false) | none=>true)
theorem k0L {listed:Array Bool}(h:m0c md ops listed=true):Closed md ops listed:=by
 intro j o ho hj e he hb;simp only[m0c,Bc,Ev,Ai,Bv]at h;rcases h j (J6.1 ho).1 with h1 | h1
 .rw[hj]at h1;cases h1
 .rw[ho]at h1;simp only[Bc,Cq,Ai,Bv]at h1;rcases h1 e he with h2 | h2
  .rw[hb]at h2;cases h2
  .exact h2
theorem Closed.pushed {listed:Array Bool}(h:Closed md ops listed)(hs:listed.size=ops.size)(hfwd:∀ i o,ops[i]?=some o->∀ e∈o.after,Region.binds md e=true->e.on<i):Closed md (ops.push oz) (listed.push false):=by
 intro j o ho hj e he hb;have hlt:j<ops.size+1:=by have:=(J6.1 ho).1;simpa using this
 by_cases hj2:j=ops.size
 .subst hj2
  exfalso
  simp[Array.getD,<- hs]at hj
 .have h1:j<ops.size:=by omega
  rw[Cs h1]at ho;rw[a0v (by omega)]at hj;have ho':ops[j]?=some o:=by rw[E8 h1];exact ho
  have h2:=hfwd j o ho' e he hb;rw[a0v (by omega)];exact h j o ho' hj e he hb
theorem g0n {l:List Oper}{S:World->Prop}{L L':Act->Prop}(hL:∀ a,L a->L' a):∀ (is:List Nat) (a:Act),d0T P l S L is a->d0T P l S L' is a
 | [],a,h=>hL a h
 | i::is,a,⟨o,ho,v,hy,h⟩=>⟨o,ho,v,hy,g0n hL is _ h⟩
theorem r0j:∀ (fuel:Nat) (listed:Array Bool) (a:Act) (w:World),wpAny P md ops Q fuel listed a w->wpAnyH P md ops Q (fun _=>True) fuel listed a w:=by
 intro fuel
 induction fuel with
 | zero=>exact fun _ _ _ h=>h
 | succ fuel ih=>
  rintro listed a w ⟨h1,h2⟩;refine⟨h1,fun i hi=>?_⟩;have h:=h2 i hi;unfold wpOp at h |-
  split at h
  .rename_i ho
   exact⟨trivial,ih _ _ _ h⟩
  .rename_i o ho
   split at h
   .rename_i hw
    rw[J2 hw];exact h.imp (fun h=>Oper.wp_mono (fun a w h=>⟨trivial,ih _ _ _ h⟩) h) id
   .rename_i hw
    rw[U0 hw];exact⟨trivial,ih _ _ _ h⟩
end
section
open Go.RowKit
variable {P : Program} {Q : Exit -> Act -> World -> Prop} {md : Region.Mode} {ops : Array Oper} {oz : Oper}
theorem k0X {o:Oper}{tmps:Array Value}(h:∀ g,o.guard=some g->g.1<ops.size):Region.wanted o (yielded (ops.push oz) tmps)=Region.wanted o (yielded ops tmps):=by
 unfold Region.wanted;cases hg:o.guard with
 | none=>rfl
 | some g=>
  obtain⟨j,b⟩:=g;have hj:=h _ hg;dsimp only at hj |-;have e:yielded (ops.push oz) tmps j=yielded ops tmps j:=by
   unfold yielded;rw[Cs hj,E8 hj]
  rw[e]
theorem k0W {Q':Exit->Act->World->Prop}{L0:List Nat}(hgd:∀ (i:Nat) (o:Oper),ops[i]?=some o->∀ g,o.guard=some g->g.1<ops.size)(hgz:oz.guard=none)
 (hz:∀ e∈oz.after,Region.binds md e=true->e.on<ops.size) (hz2:∀ i,i<ops.size->i∈L0\/Dep md ops oz i)
 (hfwd:∀ i o,ops[i]?=some o->∀ e∈o.after,Region.binds md e=true->e.on<i)
 (hP:∀ c a w,Q' (.panic c) a w->Q (.panic c) a w) (hL:LetsOut Q'->LetsOut Q) (hN:∀ a w,Q' .normal a w->oz.wp P a w (fun a w=>Q .normal a w) Q\/(oz.asks P a w/\LetsOut Q)):
 ∀ (fuel:Nat) (listed:Array Bool) (a:Act) (w:World),listed.size=ops.size->Closed md ops listed->(∀ i∈L0,listed.getD i false=true)->wpAny P md ops Q' fuel listed a w->wpAny P md (ops.push oz) Q (fuel+1) (listed.push false) a w:=by
 have lastStep:∀ (fuel:Nat) (listed:Array Bool) (a:Act) (w:World),listed.size=ops.size->k0Q ops.size listed->Q' .normal a w->wpAny P md (ops.push oz) Q (fuel+1) (listed.push false) a w:=by
  intro fuel listed a w hs hall hq;have hmem:ops.size∈Region.ready md (ops.push oz) (listed.push false):=by
   rw[Gj];refine⟨by rw[<- hs];simp[Array.getD],oz,by simp,fun e he hb=>?_⟩;have:=hz e he hb;rw[a0v (by omega)];exact hall _ this
  refine⟨fun h=>(by rw[h]at hmem;cases hmem),fun j hj=>?_⟩;have hje:=d0V hs hall j hj;subst hje;have hdone:Region.ready md (ops.push oz) ((listed.push false).setIfInBounds ops.size true) = []:=by
   refine Cg.2 fun k hk=>?_
   rw[Gj]at hk;obtain⟨h0,o,ho,_⟩:=hk;have hlt:k<ops.size+1:=by have:=(J6.1 ho).1;simpa using this
   by_cases hk':k=ops.size
   .subst hk';simp[Array.getD,hs]at h0
   .have h1:k<ops.size:=by omega
    have h2:=hall k h1;have h3:k<listed.size:=by omega
    simp[Array.getD,h3,Kd h3,Ne.symm hk',Km h3]at h0 h2;rw[h0]at h2;cases h2
  unfold wpOp;simp only[Array.getElem?_push_size];have hw:Region.wanted oz (yielded (ops.push oz) a.tmps)=true:=by simp[Region.wanted,hgz]
  rw[J2 hw];refine (hN a w hq).imp (fun hx=>Oper.wp_mono (fun a' w' h'=>?_) hx) id;cases fuel with
  | zero=>exact⟨hdone,h'⟩
  | succ fuel=>exact⟨fun _=>h',fun k hk=>by rw[hdone]at hk;cases hk⟩
 intro fuel
 induction fuel with
 | zero=>
  intro listed a w hs _ _ h;exact lastStep 0 listed a w hs (d0g hfwd hs h.1) h.2
 | succ fuel ih=>
  intro listed a w hs hcl h0L h;by_cases hall:k0Q ops.size listed
  .refine lastStep (fuel+1) listed a w hs hall (h.1 (Cg.2 fun k hk=>?_));rw[Gj]at hk;obtain⟨h0,o,ho,_⟩:=hk;have h1:=(J6.1 ho).1;have h2:=hall k h1;have h3:k<listed.size:=by omega
   simp[Array.getD,h3]at h0 h2;rw[h0]at h2;cases h2
  .refine⟨fun hr=>?_,fun j hj=>?_⟩
   .have:Region.ready md ops listed = []:=Cg.2 fun k hk=>by
     have hk2:k∈Region.ready md (ops.push oz) (listed.push false):=by
      rw[Gj]at hk |-;obtain⟨h0,o,ho,hh⟩:=hk;have h1:=(J6.1 ho).1;refine⟨by rw[a0v (by omega)];exact h0,o,by rw[Cs h1,<- E8 h1];exact ho,fun e he hb=>?_⟩;rw[a0v (by have:=hfwd k o ho e he hb;omega)];exact hh e he hb
     rw[hr]at hk2;cases hk2
    exact absurd (d0g hfwd hs this) hall
   .have hj':=f0G hz hz2 hfwd hs hcl h0L hall j hj;have h1:=h.2 j hj';have hlt:j<ops.size:=by
     rw[Gj]at hj';obtain⟨_,o,ho,_⟩:=hj';exact (J6.1 ho).1
    unfold wpOp at h1 |-;rw[Cs hlt];rw[E8 hlt]at h1;simp only at h1 |-;have hg:=k0X (oz:=oz) (tmps:=a.tmps) (hgd j _ (E8 hlt));rw[hg];by_cases hw:Region.wanted ops[j] (yielded ops a.tmps)=true
    .rw[J2 hw]at h1 |-;rcases h1 with h1 | ⟨h1,h2⟩
     .refine .inl (k0V (fun a' w' h'=>?_) hP hL h1);rw[i0l (by omega)];exact ih _ _ _ (by simp[hs]) (hcl.set hj') (fun i hi=>Nk (h0L i hi)) h'
     .exact .inr ⟨h1,hL h2⟩
    .rw[U0 hw]at h1 |-;rw[i0l (by omega)];exact ih _ _ _ (by simp[hs]) (hcl.set hj') (fun i hi=>Nk (h0L i hi)) h1
def i0j (md:Region.Mode)(ops:Array Oper)(oz:Oper)(L0:List Nat)(via:List (Nat×Nat)):Bool:=
 ops.toList.all (fun o=>match o.guard with | none=>true | some g=>decide (g.1<ops.size)) && oz.guard.isNone && oz.after.toList.all (fun e => !Region.binds md e || decide (e.on<ops.size)) &&
 (List.range ops.size).all (fun i=>L0.contains i || (b1f md ops ((oz.after.toList.filter (Region.binds md)).map (·.on)) via).contains i) &&
 (List.range ops.size).all (fun i=>match ops[i]? with | some o=>o.after.toList.all (fun e => !Region.binds md e || decide (e.on<i)) | none=>true)
theorem q0I {Q':Exit->Act->World->Prop}{L0:List Nat}{via:List (Nat×Nat)}{a:Act}{w:World}{fuel:Nat}{listed:Array Bool}(hB:i0j md ops oz L0 via=true)(hs:listed.size=ops.size)(hcl:Closed md ops listed)(h0L:∀ i∈L0,listed.getD i false=true)
 (hP:∀ c a w,Q' (.panic c) a w->Q (.panic c) a w) (hL:LetsOut Q'->LetsOut Q) (hN:∀ a w,Q' .normal a w->oz.wp P a w (fun a w=>Q .normal a w) Q\/(oz.asks P a w/\LetsOut Q))
 (h:wpAny P md ops Q' fuel listed a w):wpAny P md (ops.push oz) Q (fuel+1) (listed.push false) a w:=by
 simp only[i0j,F9,Bc,Ev,K6,Ih,Cq,Ai,Bv]at hB;obtain⟨⟨⟨⟨h1,h2⟩,h3⟩,h4⟩,h5⟩:=hB
 refine k0W (L0:=L0) (fun i o ho g hg=>by
  have:=h1 o (Array.mem_of_getElem? ho);rw[hg]at this;simpa using this) h2 (fun e he hb=>?_) (fun i hi=>?_) (fun i o ho e he hb=>?_) hP hL hN fuel listed a w hs hcl h0L h
 .rcases h3 e he with h | h
  .rw[hb]at h;cases h
  .exact h
 .rcases h4 i hi with h | h
  .exact .inl (by simpa using h)
  .refine .inr (m0o via _ (fun j hj=>?_) i (by simpa using h));obtain⟨e,he,rfl⟩:=Fr.1 hj;obtain⟨he1,he2⟩:=List.mem_filter.1 he;exact .here (by simpa using he1) he2
 .have:=h5 i (J6.1 ho).1;rw[ho]at this;simp only[Bc,Cq,Ai,Bv,K6]at this;rcases this e he with h | h
  .rw[hb]at h;cases h
  .exact h
def g0R (l:List Oper)(L0:List Nat)(via:List (Nat×Nat)):Nat->Nat->Bool
 | 0,_=>true
 | k+1,n=>(match l[n]? with | some oz=>i0j .any (l.take n).toArray oz L0 via | none=>false) && g0R l L0 via k (n+1)
theorem f0p (l:List Oper)(L0:List Nat)(via:List (Nat×Nat)){a:Act}{w:World}:∀ (k n fuel:Nat) (listed:Array Bool),n+k=l.length->g0R l L0 via k n=true->listed.size=(l.take n).toArray.size->Closed .any (l.take n).toArray listed->(∀ i∈L0,listed.getD i false=true) ->
 wpAny P .any (l.take n).toArray (c0w P l.toArray Q (l.drop n)) fuel listed a w ->
 wpAny P .any l.toArray Q (fuel+k) (listed++Array.replicate k false) a w
 | 0,n,fuel,listed,hn,_,hs,hc,h0,h=>by
  have e1:l.take n=l:=J7 (by omega);have e2:l.drop n = []:=Bm (by omega);have e3:c0w P l.toArray Q []=Q:=by
   funext e a w
   cases e<;>simp[c0w,wpList]
  rw[e1,e2,e3]at h;simpa using h
 | k+1,n,fuel,listed,hn,hB,hs,hc,h0,h=>by
  simp only[g0R,F9]at hB;obtain⟨h1,h2⟩:=hB;have hlt:n<l.length:=by omega
  rw[J0 hlt]at h1;have e1:l.take (n+1)=l.take n ++ [l[n]]:=Em hlt;have e2:l.drop n=l[n]::l.drop (n+1):=H9 hlt;have e3:(l.take (n+1)).toArray=(l.take n).toArray.push l[n]:=by rw[e1];simp
  have h1':=h1;simp only[i0j,F9,Bc,Ev,Ih,Cq,Ai,Bv,K6]at h1';have hgz:l[n].guard=none:=h1'.1.1.1.2;have hfwd:∀ (i:Nat) (o:Oper),(l.take n).toArray[i]?=some o->∀ e∈o.after,Region.binds .any e=true->e.on<i:=by
   intro i o ho e he hb;have:=h1'.2 i (J6.1 ho).1;rw[ho]at this;simp only[Bc,Cq,Ai,Bv,K6]at this;rcases this e he with h | h
   .rw[hb]at h;cases h
   .exact h
  have step:=q0I (P:=P) (md:=.any) (ops:=(l.take n).toArray) (oz:=l[n]) (Q:=c0w P l.toArray Q (l.drop (n+1))) (Q':=c0w P l.toArray Q (l.drop n)) (L0:=L0) (via:=via) (a:=a) (w:=w) (fuel:=fuel) (listed:=listed) h1 hs hc h0 (fun _ _ _ h=>h) (fun ⟨a,w,h⟩=>⟨a,w,h⟩) (fun a w hq=>by
   have hq':wpList P l.toArray Q (l.drop n) a w:=hq;rw[e2]at hq';unfold wpList at hq';have hw:Region.wanted l[n] (yielded l.toArray a.tmps)=true:=by simp[Region.wanted,hgz]
   rw[J2 hw]at hq';rcases hq' with hq' | ⟨h3,h4⟩
   .exact .inl (k0V (fun _ _ h=>h) (fun _ _ _ h=>h) (fun ⟨a,w,h⟩=>⟨a,w,h⟩) hq')
   .exact .inr ⟨h3,by obtain⟨a,w,h⟩:=h4;exact⟨a,w,h⟩⟩) h
  rw[<- e3]at step
  have:=f0p l L0 via k (n+1) (fuel+1) (listed.push false) (by omega) h2 (by rw[e3,Hm,Hm,hs]) (by rw[e3];exact hc.pushed hs hfwd) (fun i hi=>by
   have hx:=h0 i hi;by_cases hi2:i<listed.size
   .rw[a0v hi2];exact hx
   .simp[Array.getD,hi2]at hx) step
  have e5:listed.push false++Array.replicate k false=listed++Array.replicate (k+1) false:=by
   apply Gd
   intro i;simp only[Array.getElem?_append,Array.getElem?_push,Hm,Array.getElem?_replicate];by_cases h1:i<listed.size
   .have h2:i<listed.size+1:=by omega
    have h3:¬ i=listed.size:=by omega
    simp[h1,h2,h3]
   .by_cases h2:i=listed.size
    .subst h2;simp
    .have h3:¬ i<listed.size+1:=by omega
     simp[h1,h3];have e:i-(listed.size+1)<k↔i-listed.size<k+1:=by omega
     simp[e]
  rw[e5]at this;rw[show fuel+(k+1)=fuel+1+k by omega];exact this
theorem g0W {id:Nat}{a:Act}{w:World}{l:List Oper}(n k:Nat)(pre:List Nat)(via:List (Nat×Nat))(is:List Nat)(g:Nat)(S:World->Prop)(hm:P.follows .mixedOrders=true)(hk:n+k=l.length)
 (hsel0:Region.noSelect l.toArray=true) (hpre:k0g .any l.toArray pre (Array.replicate l.toArray.size false)=true)
 (hlast:g0R l pre via k n=true) (hset:n0Z pre (Array.replicate l.toArray.size false)=n0Z pre (Array.replicate n false)++Array.replicate k false) (hsz:(n0Z pre (Array.replicate n false)).size=(l.take n).toArray.size) (hclo:m0c .any (l.take n).toArray (n0Z pre (Array.replicate n false))=true) (hon:(pre.all fun i=>(n0Z pre (Array.replicate n false)).getD i false)=true)
 (hsel:Region.noSelect (l.take n).toArray=true) (hg:g+is.length+k+pre.length=l.toArray.size) (hB:k0g .any (l.take n).toArray is (n0Z pre (Array.replicate n false))=true) (hS:S w.drew)
 (h:d0T P l (fun _=>True) (fun a1=>d0T P (l.take n) S (fun a'=>wpAnyH P .any (l.take n).toArray (b0h (c0w P l.toArray (b0h Q) (l.drop n))) S g (n0Z is (n0Z pre (Array.replicate n false))) a' w.drew) is a1) pre a):(Code.region id l.toArray true).wp P Q a w:=by
 refine wp_region_any hm (i0D _ _ _ _ (Ln (S:=fun _=>True) _ _ _ _ ?_));have h1:=c0Q (P:=P) (md:=.any) (Q:=Q) (S:=fun _=>True) (w:=w.drew) hsel0 (g:=g+is.length+k) trivial pre (Array.replicate l.toArray.size false) a hpre ?_
 .rw[hg]at h1;exact h1
 .refine g0n (fun a1 h2=>?_) pre a h;refine r0j _ _ _ _ ?_;rw[hset];refine f0p l pre via k n (g+is.length) _ hk hlast hsz (k0L hclo) (fun i hi=>by simpa using List.all_eq_true.1 hon i hi) ?_;exact i0D _ _ _ _ (Ln (S:=S) _ _ _ _ (c0Q (P:=P) (md:=.any) (S:=S) hsel (g:=g) hS is _ a1 hB h2))
end
section
open Go.RowKit Go.Shelf
open Go.Lib (decDigits nDigits)
def n0D (V:World)(K:Nat)(hK:K<10 ^ eK)(hL:Lay V):Calls Tryz.prog 359 #[.string (a0f K),.string (a0f K)] V fun e w'=>e=.returned (.string (a0f (K+K)))/\Below V.heap.size V w':=by
 have dK:=a0Z hK (by decide) (by decide);have h:=s0l V (a0f K) (a0f K) (a0N dK) (a0N dK) hL;rw[c0Z dK dK (a0Z (i0X hK hK) (by decide) (by decide))]at h;exact h
def b1O (V:World)(K:Nat)(hK:K<10 ^ (eK+1))(hL:Lay V):Calls Tryz.prog 359 #[.string (a0f K),.string ⟨#[49]⟩] V fun e w'=>e=.returned (.string (a0f (K+1)))/\Below V.heap.size V w':=by
 have dK:=a0Z hK (by decide) (by decide);have e1:(⟨#[49]⟩:ByteArray)=a0f 1:=by unfold a0f;rw[f0m]
 have d1:nDigits 1<=4000:=a0Z (n:=1) (k:=1) (by decide) (by decide) (by decide);have h:=s0l V (a0f K) (a0f 1) (a0N dK) (a0N d1) hL;rw[c0Z dK d1 (a0Z (k:=eK+1+1) (i0X hK (U6 (show 1<10 by decide) (Nat.le_self_pow (by decide) 10))) (by decide) (by decide))]at h;rw[e1];exact h
def Ab:=@List.drop_succ_cons
def a1M (w:World)(g bn bd:Nat)(b:ByteArray)(N D K T u:Nat)(ht:Toss w g bn bd b N D K T u)(hf:Fits N D K T)(hL:Lay w)(hs:b.size<=100000)(hu:u<b.size)(hG:s0D g):
 Calls Tryz.prog 360 #[.pointer (some ⟨g,0,none⟩)] w fun e w'=>
  Below g w w'/\e=.returned (.func (.func 345) #[.pointer (some ⟨g,0,none⟩)] #[])/\Toss w' g bn bd b N D (K+K+(if b[u]=49 then 1 else 0)) (T+T) (u+1):=by
 have HB:=hid ht.blk;have HN:=hid ht.num;have HD:=hid ht.den;have LN:=hid ht.ln;have LD:=hid ht.ld;have LG:=hid (Blk.lt ht.blk);have HL:=hid hL;have HS:=hid hs;have HG:=hid hG;have c1:w.cell? ⟨g,1,none⟩=some (.string (a0f K)):=ht.blk.cell 1;have c2:w.cell? ⟨g,2,none⟩=some (.string (a0f T)):=ht.blk.cell 2;have P1:=fun V hV=>hid (n0D V K hf.k hV)
 have P2:=fun V hV=>hid (n0D V T hf.t hV)
 have P3:=fun V hV=>hid (b1O V (K+K) (i0X hf.k hf.k) hV)
 obtain⟨sk,hsk⟩:=gn (a0f K);obtain⟨st,hst⟩:=gn (a0f T);rw[hsk]at c1 P1 HB;rw[hst]at c2 P2 HB;clear hsk hst ht hf hL hs hG;go_enter Tryz.func360,Tryz.ntmps360;go_wp2_with fail;refine g0W 20 6 [1] [(13,14),(12,13),(11,12),(17,18),(16,17),(15,16),(20,21),(23,24)] [0,2,3,4,5,6,7,8,9,11,12,13,14,15,16,17,18] 2 (fun W'=>W'.cell? ⟨g,1,none⟩=some (.string sk)/\W'.cell? ⟨g,2,none⟩=some (.string st)) (by kernel_rfl) (by kernel_rfl) (by kernel_rfl) (by kernel_rfl) (by kernel_rfl) (by kernel_rfl) (by kernel_rfl) (by kernel_rfl) (by kernel_rfl) (by kernel_rfl) (by kernel_rfl) (by kernel_rfl) ⟨c1,c2⟩ ?_
 iterate 1
  refine⟨_,rfl,?_⟩;apply Exists.intro
  refine⟨.inl ⟨by rfl,?_⟩,?_⟩
  ·(intro W' hW'
    clear hW'
    go_simp
    try (with_reducible rfl))
  go_frame
 iterate 17
  refine⟨_,rfl,?_⟩;apply Exists.intro
  refine⟨.inl ⟨by rfl,?_⟩,?_⟩
  ·(intro W' hW'
    obtain⟨q1,q2⟩:=hW'
    go_simp
    try (with_reducible rfl))
  go_frame
 refine a0c (i:=10) (by kernel_rfl) (by rfl) (by rfl) ?_;go_wp2_with fail;refine (P1 _ (HL.out.call br0.drew)).out.mono ?_;rintro e w1 ⟨rfl,hb1⟩;have y1:=hid (show Below w.heap.size w w1 from br0.drew.trans hb1);have B1:=hid (HB.out.call y1.out);clear hb1;go_wp2_with fail;refine⟨⟨B1.out.cell 1,B1.out.cell 2⟩,?_⟩;refine a0c (i:=19) (by kernel_rfl) (by rfl) (by rfl) ?_;go_wp2_with fail;refine (P2 _ (HL.out.call y1.out)).out.mono ?_;rintro e w2 ⟨rfl,hb2⟩;have y2:=hid (a0a y1.out hb2);have B2:=hid (HB.out.call y2.out);have N2:=hid (HN.out.call y2.out);have D2:=hid (HD.out.call y2.out);clear hb2;go_wp2_with fail;refine⟨⟨B2.out.cell 1,B2.out.cell 2⟩,?_⟩;refine H8 (by kernel_rfl) ?_ _;simp only[b0h,c0w,Ab,A9];have d1:w2.cell? ⟨g,1,none⟩=some (.string sk):=B2.out.cell 1;have d2:w2.cell? ⟨g,2,none⟩=some (.string st):=B2.out.cell 2;have f1:=B2.out.free 1;have f2:=B2.out.free 2;obtain⟨kk,hkk⟩:=gn (a0f (K+K));obtain⟨tt,htt⟩:=gn (a0f (T+T));rw[hkk,htt];have HKK:=hid hkk;have HTT:=hid htt;rw[hkk]at P3;clear hkk htt c1 c2 P1 P2;go_wp2_with fail;simp only[b0h];have b3:Blk ((w2.setCell ⟨g,1,none⟩ (.string kk)).setCell ⟨g,2,none⟩ (.string tt)) g (j0F b kk tt bn bd false 0 u) 330:=by
  have:=(B2.out.set 1 (.string kk)).set 2 (.string tt);simpa[j0F]using this
 have z3:Below g w2 ((w2.setCell ⟨g,1,none⟩ (.string kk)).setCell ⟨g,2,none⟩ (.string tt)):=(((Z3 g w2).setCell nr0 _).setCell nr0 _);obtain⟨w3,hw3⟩:=gn ((w2.setCell ⟨g,1,none⟩ (.string kk)).setCell ⟨g,2,none⟩ (.string tt));rw[hw3]at b3 z3 |-;have B3:=hid b3;have N3:=hid (N2.out.below z3 LN.out);have D3:=hid (D2.out.below z3 LD.out);have y3:=hid ((y2.out.mono (Di LG.out)).trans z3);have L3:=hid ((HL.out.call y2.out).below z3 HG.out);clear b3 z3 hw3 d1 d2 f1 f2;have d0:w3.cell? ⟨g,0,none⟩=some (.string b):=B3.out.cell 0;have d6:w3.cell? ⟨g,6,none⟩=some (.int .i64 u):=B3.out.cell 6;have h0:(0:Int)<=(u:Int):=by omega
 have h1:(u:Int)<(b.size:Int):=by omega
 go_wp2_with fail;refine a0m [0,1,2,3,4,5,6,7,8,9,10] 0 (fun W'=>W'.cell? ⟨g,0,none⟩=some (.string b)/\W'.cell? ⟨g,6,none⟩=some (.int .i64 u)) (by kernel_rfl) (by kernel_rfl) (by kernel_rfl) (by kernel_rfl) ⟨d0,d6⟩ ?_
 iterate 11
  refine⟨_,rfl,?_⟩;apply Exists.intro
  refine⟨.inl ⟨by rfl,?_⟩,?_⟩
  ·(intro W' hW'
    obtain⟨q1,q2⟩:=hW'
    go_simp
    try (with_reducible rfl))
  go_frame
 refine H8 (by kernel_rfl) ?_ _;simp only[b0h];have e1:((b[u].toNat:Int)==49)=decide (b[u]=49):=by
  rw[Ay,Dk,Fe]
  constructor
  .intro h;apply Eh.1
   simp;omega
  .intro h;rw[h]
   rfl
 rw[e1];have d1:w3.cell? ⟨g,1,none⟩=some (.string kk):=B3.out.cell 1;have f1:=B3.out.free 1;have f6:=B3.out.free 6;have q6:IntKind.i64.wrap ((u:Int)+1)=(u:Int)+1:=Q0 _ ⟨by omega,by have:=HS.out;omega⟩;clear e1;by_cases hb:b[u]=49
 .simp only[hb,decide_true,Fm];have HBU:=hid hb;clear hb;go_wp2_with fail;refine (P3 _ (L3.out.call br0.drew)).out.mono ?_;rintro e w4 ⟨rfl,hb4⟩;have y34:=hid (show Below w3.heap.size w3 w4 from br0.drew.trans hb4);clear hb4;have lg3:=Blk.lt B3.out;have B4:=hid (B3.out.call y34.out);have N4:=hid (N3.out.call y34.out);have D4:=hid (D3.out.call y34.out);have y4:=hid (y3.out.trans (y34.out.mono (Di lg3)));have g1:w4.cell? ⟨g,1,none⟩=some (.string kk):=B4.out.cell 1;have g6:w4.cell? ⟨g,6,none⟩=some (.int .i64 u):=B4.out.cell 6;have k1:=B4.out.free 1;have k6:=B4.out.free 6;clear d0 d1 d6 f1 f6 lg3;go_wp2_with fail;go_ret
  have r:=(B4.out.set 1 (.string (a0f (K+K+1)))).set 6 (.int .i64 ((u:Int)+1));refine⟨(y4.out.setCell nr0 _).setCell nr0 _,rfl,?_⟩;refine⟨?_,(N4.out.other (by simp;have:=LN.out;omega) _).other (by simp;have:=LN.out;omega) _,(D4.out.other (by simp;have:=LD.out;omega) _).other (by simp;have:=LD.out;omega) _,LN.out,LD.out⟩;rw[HTT.out,show ((u+1:Nat):Int)=(u:Int)+1 by omega];exact r
 .simp only[hb,decide_false,Ew,Ac];have HBU:=hid hb;clear hb d1 f1;go_wp2_with fail;go_ret
  have r:=(show Blk w3.drew g (j0F b kk tt bn bd false 0 u) 330 from B3.out).set 6 (.int .i64 ((u:Int)+1));refine⟨y3.out.drew.setCell nr0 _,rfl,?_⟩;refine⟨?_,(N3.out).other (by simp;have:=LN.out;omega) _,(D3.out).other (by simp;have:=LD.out;omega) _,LN.out,LD.out⟩;rw[HKK.out,HTT.out,show ((u+1:Nat):Int)=(u:Int)+1 by omega];exact r
end
end Go.Proofs.YtfkpfpobmobnbaaGreatDoor
