/- Texts that the proof rests on, merged: Cv4, Tot2, Cv5, Cv6, Pl4, Pl5, Pl6, QPlus, Dig, QO, Pn3, Pn4, Cv7, Cv8, Vw, Dy, Tot3, Cv9, Nq0, Bg, R1b, R1d, R1k, R1l, R1m, R1n, R1o, R1c, R3a, Rp1, R2d, R2e, R2f, R2i. -/
import Derived.Test.YtfkpfpobmobnbaaGreatDoorPc4
import Derived.Sort.KeysCollected
import Derived.Test.YtfkpfpobmobnbaaGreatDoorProg
import Derived.Maps.StringElems
import Derived.Lib.ItoaMem
import Derived.IntWalk
import Derived.Laws.IdiomStrings
import Derived.WalkSpells
import Derived.Laws.Concat
set_option linter.defProp false
set_option linter.unusedVariables false
set_option linter.unusedSimpArgs false
set_option linter.unusedSectionVars false
set_option maxRecDepth 100000
set_option maxHeartbeats 8000000
namespace Go.Proofs.YtfkpfpobmobnbaaGreatDoor
section
open Go.RowKit
def h0K (N D:Nat)(two:Bool)(l:List UInt8):Option Int:=match s1 N D l 0 0 with
 | none=>none
 | some (x,p)=>if two=true then (match s1 N D (l.drop p) 0 0 with | none=>none | some (y,_)=>some ((x:Int)-(y:Int))) else some (x:Int)
def gV (N D:Nat)(two:Bool)(n:Nat)(v:Int):Nat:=cw n fun l=>decide (h0K N D two l=some v)
def gL (N D:Nat)(two:Bool)(n:Nat):Nat:=cw n fun l=>decide (h0K N D two l=none)
theorem l0i {N D:Nat}(h:N<D){l:List UInt8}{x p:Nat}(hs:s1 N D l 0 0=some (x,p)):p<=l.length/\x<=l.length:=by
 have:=n0V h l.length 0 0 x p (J5 _) (by omega) hs;omega
theorem i0s {N D:Nat}(h:N<D){two:Bool}{l:List UInt8}{v:Int}(hv:h0K N D two l=some v) : -(l.length:Int)<=v/\v<=l.length:=by
 unfold h0K at hv;cases hs:s1 N D l 0 0 with
 | none=>rw[hs]at hv;cases hv
 | some xp=>
  obtain⟨x,p⟩:=xp;obtain⟨b1,b2⟩:=l0i h hs;rw[hs]at hv;cases two
  .simp at hv;omega
  .simp only[Fp]at hv;cases hs2:s1 N D (l.drop p) 0 0 with
   | none=>rw[hs2]at hv;cases hv
   | some yq=>
    obtain⟨y,q⟩:=yq;obtain⟨b3,b4⟩:=l0i h hs2;rw[hs2]at hv;rw[S9]at b4;simp at hv;omega
def l0S {n:Nat}{P:List UInt8->Bool}(h:∀ l,l.length=n->P l=false):cw n P=0:=by
 rw[a0D (Q:=fun _=>false) h,c0s]
def d0n {N D:Nat}(h:N<D){two:Bool}{n:Nat}{v:Int}(hv:v < -(n:Int)\/(n:Int)<v):gV N D two n v=0:=by
 refine l0S fun l hl=>I7 fun e=>?_
 have:=i0s h e;omega
def v0O (N D n:Nat)(v:Int):gV N D false n v=if 0<=v then cw n (h0A N D v.toNat) else 0:=by
 unfold gV
 split
 .rename_i h0
  refine a0D fun l hl=>?_
  unfold h0K h0A;cases s1 N D l 0 0 with
  | none=>rfl
  | some xp=>
   obtain⟨x,p⟩:=xp;simp only[Er,Gu];rw[Fr,At];omega
 .rename_i h0
  refine l0S fun l hl=>I7 fun e=>?_
  unfold h0K at e;cases hs:s1 N D l 0 0 with
  | none=>rw[hs]at e;cases e
  | some xp=>rw[hs]at e;simp at e;omega
theorem f0G {α : Type}(g : α->Option (Nat×Nat))(Q:Nat->Nat->Bool)(M:Nat):∀ L:List α,(∀ x∈L,∀ i k,g x=some (i,k)->i<M/\k<M) ->
 L.countP (fun x=>match g x with | none=>false | some p=>Q p.1 p.2)=a0n (fun i=>a0n (fun k=>if Q i k=true then L.countP (fun x=>decide (g x=some (i,k))) else 0) M) M
 | [],_=>by
  have h2:∀ i,a0n (fun k=>if Q i k=true then ([]:List α).countP (fun x=>decide (g x=some (i,k))) else 0) M=0:=fun i=>by
   rw[a0d (d:=fun _=>0) (fun k _=>by simp),a0E]
  rw[a0d (d:=fun _=>0) (fun i _=>h2 i),a0E];rfl
 | x::r,h=>by
  have ih:=f0G g Q M r fun y hy=>h y (Cd _ hy)
  have e:∀ i,a0n (fun k=>if Q i k=true then (x::r).countP (fun x=>decide (g x=some (i,k))) else 0) M=a0n (fun k=>if Q i k=true then r.countP (fun x=>decide (g x=some (i,k))) else 0) M+a0n (fun k=>if Q i k=true/\g x=some (i,k) then 1 else 0) M:=fun i=>by
   rw[<- c0n];refine a0d fun k _=>?_
   rw[Ip];by_cases h1:Q i k=true
   .rw[U0 h1,U0 h1]
    congr 1
    simp[h1]
   .rw[Q0 h1,Q0 h1,Q0 (fun hh=>h1 hh.1)]
  rw[Ip,ih,a0d (fun i _=>e i),c0n]
  congr 1
  cases hg:g x with
  | none=>
   rw[a0d (d:=fun _=>0) (fun i _=>by rw[a0d (d:=fun _=>0) (fun k _=>by simp),a0E]),a0E];simp
  | some p=>
   obtain⟨a,b⟩:=p;obtain⟨ha,hb⟩:=h x (Dt ..) a b hg;by_cases hq:Q a b=true
   .have e2:∀ i,a0n (fun k=>if Q i k=true/\some (a,b)=some (i,k) then 1 else 0) M=if a=i then 1 else 0:=fun i=>by
     by_cases h1:a=i
     .subst h1
      rw[U0 rfl,a0d (d:=fun k=>if b=k then 1 else 0) (fun k _=>by
       by_cases h2:b=k
       .subst h2;simp[hq]
       .rw[Q0 h2,Q0 (by simp;exact fun _=>h2)])]
      rw[f0S,U0 hb]
     .rw[Q0 h1,a0d (d:=fun _=>0) (fun k _=>Q0 (by simp;exact fun _ hh=>absurd hh h1)),a0E]
    rw[a0d (fun i _=>e2 i),f0S,U0 ha];simp[hq]
   .rw[a0d (d:=fun _=>0) (fun i _=>by rw[a0d (d:=fun _=>0) (fun k _=>Q0 (by rintro⟨h1,h2⟩;simp at h2;obtain⟨rfl,rfl⟩:=h2;exact hq h1)),a0E]),a0E];simp[hq]
def z0l (N D:Nat)(l:List UInt8):Option (Nat×Nat):=match s1 N D l 0 0 with
 | none=>none
 | some (x,p)=>match s1 N D (l.drop p) 0 0 with | none=>none | some (y,_)=>some (x,y)
def Gv:=@decide_eq_true_iff
def p0s (N D i k:Nat)(l:List UInt8):decide (z0l N D l=some (i,k))=s0I N D i k l:=by
 rw[Bc,Gv];unfold z0l s0I h0A;cases s1 N D l 0 0 with
 | none=>simp
 | some xp=>
  obtain⟨x,p⟩:=xp;dsimp only;cases s1 N D (l.drop p) 0 0 with
  | none=>simp
  | some yq=>simp
def Nl:=@List.countP_congr
def v0N {N D:Nat}(h:N<D)(n:Nat)(v:Int):gV N D true n v=a0n (fun i=>a0n (fun k=>if (i:Int)-(k:Int)=v then cw n (s0I N D i k) else 0) (n+1)) (n+1):=by
 have h1:=f0G (z0l N D) (fun i k=>decide ((i:Int)-(k:Int)=v)) (n+1) (s0z n) (fun l hl i k hg=>by
  have hn:=g0p hl;unfold z0l at hg;cases hs:s1 N D l 0 0 with
  | none=>rw[hs]at hg;cases hg
  | some xp=>
   obtain⟨x,p⟩:=xp;obtain⟨b1,b2⟩:=l0i h hs;rw[hs]at hg;dsimp only at hg;cases hs2:s1 N D (l.drop p) 0 0 with
   | none=>rw[hs2]at hg;cases hg
   | some yq=>
    obtain⟨y,q⟩:=yq;obtain⟨b3,b4⟩:=l0i h hs2;rw[hs2]at hg;rw[S9]at b4;simp at hg;omega)
 unfold gV;rw[<- f0F];refine Eq.trans ?_ (h1.trans ?_)
 .refine Nl fun l hl=>?_
  unfold h0K z0l;cases s1 N D l 0 0 with
  | none=>simp
  | some xp=>
   obtain⟨x,p⟩:=xp;simp only[Fp];cases s1 N D (l.drop p) 0 0 with
   | none=>simp
   | some yq=>simp
 .refine a0d fun i _=>a0d fun k _=>?_
  simp only[S5]
  split
  .rw[f0F];exact a0D fun l _=>p0s N D i k l
  .rfl
def h0k {N D:Nat}(h:N<D)(two:Bool)(n:Nat):a0n (fun j=>gV N D two n ((j:Int)-(n:Int))) (2*n+1)+gL N D two n=2 ^ n:=by
 have h1:=k0M (fun l=>((h0K N D two l).isSome,((h0K N D two l).getD 0+(n:Int)).toNat)) (2*n+1) (s0z n) (fun l hl hd=>by
  have hn:=g0p hl;dsimp only at hd |-;obtain⟨v,hv⟩:=Option.isSome_iff_exists.1 hd;have:=i0s h hv;rw[hv,Option.getD_some];omega)
 rw[e0o]at h1;rw[<- h1]
 congr 1
 .refine a0d fun j hj=>?_
  unfold gV;rw[<- f0F];refine Nl fun l hl=>?_
  have hn:=g0p hl;cases hv:h0K N D two l with
  | none=>simp
  | some v=>
   have:=i0s h hv;simp;omega
 .unfold gL;rw[<- f0F];refine Nl fun l hl=>?_
  cases h0K N D two l<;>simp
def l0J {N D:Nat}(h:N<D)(two:Bool)(n:Nat)(v:Int):gV N D two n v<=2 ^ n:=by
 by_cases hv:v < -(n:Int)\/(n:Int)<v
 .rw[d0n h hv];exact J5 _
 .have h1:=h0k h two n;have h2:=w0p (f:=fun j=>gV N D two n ((j:Int)-(n:Int))) (i:=(v+n).toNat) (n:=2*n+1) (by omega);rw[show ((v+(n:Int)).toNat:Int)-(n:Int)=v by omega]at h2;omega
open Go.Lib (decDigits nDigits)
def s0L (l:List Nat):List Value:=l.map fun n=>.string (a0g n)
@[simp] theorem numL_length (l:List Nat):(s0L l).length=l.length:=by simp[s0L]
def t0S {l:List Nat}{i:Nat}(h:i<l.length):(s0L l)[i]?=some (.string (a0g (l.getD i 0))):=by
 simp[s0L,J2,J0 h]
def t0R (l:List Nat)(i x:Nat):(s0L l).set i (.string (a0g x))=s0L (l.set i x):=by simp[s0L,List.map_set]
def c0X (c:Bool)(k x:Nat)(l:List Nat):List Nat:=if c=true then l.set k (l.getD k 0+x) else l
def d0y (c:Bool)(k x:Nat)(l:List Nat):(c0X c k x l).length=l.length:=by unfold c0X;split<;>simp
def d0i (k x:Nat)(l:List Nat):c0X false k x l=l:=rfl
def c0W (k x:Nat)(l:List Nat):c0X true k x l=l.set k (l.getD k 0+x):=rfl
def h0s (c:Bool){k x:Nat}{l:List Nat}(hk:k<l.length)(i:Nat):(c0X c k x l).getD i 0=l.getD i 0+(if c=true/\i=k then x else 0):=by
 cases c
 .rw[d0i];simp
 .rw[c0W,J2,J2,Ge];by_cases h:k=i
  .subst h;simp[hk,J2]
  .simp[h,show ¬ i=k from fun e=>h e.symm]
def n0O (os zs:Nat->Bool)(i j:Nat)(s:List Nat×List Nat):List Nat×List Nat:=(c0X (os j) (i+j) (s.1.getD i 0) s.1,c0X (zs j) (i+j) (s.1.getD i 0) s.2)
def tIn (os zs:Nat->Bool)(i:Nat):Nat->List Nat×List Nat->List Nat×List Nat
 | 0,s=>s
 | j+1,s=>n0O os zs i j (tIn os zs i j s)
def b0L (os zs:Nat->Bool)(n:Nat):Nat->List Nat×List Nat
 | 0=>(1::List.replicate n 0,List.replicate (n+1) 0)
 | i+1=>if (b0L os zs n i).1.getD i 0=0 then b0L os zs n i else tIn os zs i (n+1-i) (b0L os zs n i)
structure TB (n i j:Nat)(s:List Nat×List Nat):Prop where
 l1:s.1.length=n+1
 l2:s.2.length=n+1
 up1:∀ k,s.1.getD k 0<=2 ^ (i+1)
 up2:∀ k,s.2.getD k 0<=2 ^ (i+1)
 hi1:∀ k,i+j<=k->s.1.getD k 0<=2 ^ i
 hi2:∀ k,i+j<=k->s.2.getD k 0<=2 ^ i
 src:s.1.getD i 0<=2 ^ i
theorem TB.step {os zs:Nat->Bool}(h0:os 0=false){n i j:Nat}{s:List Nat×List Nat}(h:TB n i j s)(hij:i+j<=n):TB n i (j+1) (n0O os zs i j s)/\(n0O os zs i j s).1.getD i 0=s.1.getD i 0:=by
 have e1:=h0s (os j) (x:=s.1.getD i 0) (show i+j<s.1.length by rw[h.l1];omega);have e2:=h0s (zs j) (x:=s.1.getD i 0) (show i+j<s.2.length by rw[h.l2];omega);have hs:=h.src;have h3:(n0O os zs i j s).1.getD i 0=s.1.getD i 0:=by
  show (c0X _ _ _ _).getD _ _=_
  rw[e1];rw[Q0]
  .omega
  .rintro⟨h1,h2⟩;rw[show j=0 by omega,h0]at h1;cases h1
 refine⟨⟨by show (c0X _ _ _ _).length=_;rw[d0y,h.l1],by show (c0X _ _ _ _).length=_;rw[d0y,h.l2],fun k=>?_,fun k=>?_,fun k hk=>?_,fun k hk=>?_,by rw[h3];exact hs⟩,h3⟩
 .show (c0X _ _ _ _).getD _ _<=_
  rw[e1];have:=h.up1 k
  split
  .rename_i hc
   have:=h.hi1 k (by omega);omega
  .omega
 .show (c0X _ _ _ _).getD _ _<=_
  rw[e2];have:=h.up2 k
  split
  .rename_i hc
   have:=h.hi2 k (by omega);omega
  .omega
 .show (c0X _ _ _ _).getD _ _<=_
  rw[e1,Q0 (by omega)];exact h.hi1 k (by omega)
 .show (c0X _ _ _ _).getD _ _<=_
  rw[e2,Q0 (by omega)];exact h.hi2 k (by omega)
theorem TB.inner {os zs:Nat->Bool}(h0:os 0=false){n i:Nat}{s:List Nat×List Nat}(h:TB n i 0 s):∀ j,i+j<=n+1->TB n i j (tIn os zs i j s)/\(tIn os zs i j s).1.getD i 0=s.1.getD i 0
 | 0,_=>⟨h,rfl⟩
 | j+1,hj=>by
  obtain⟨h1,h2⟩:=TB.inner h0 h j (by omega);obtain⟨h3,h4⟩:=TB.step h0 (os:=os) (zs:=zs) h1 (by omega);exact⟨h3,h4.trans h2⟩
theorem TB.next {n i j:Nat}{s:List Nat×List Nat}(h:TB n i j s):TB n (i+1) 0 s:=by
 have p:2 ^ (i+1)<=2 ^ (i+1+1):=Z4 (by omega) (by omega);exact⟨h.l1,h.l2,fun k=>E0 (h.up1 k) p,fun k=>E0 (h.up2 k) p,fun k _=>h.up1 k,fun k _=>h.up2 k,h.up1 _⟩
theorem TB.outer {os zs:Nat->Bool}(h0:os 0=false)(n:Nat):∀ i,i<=n+1->TB n i 0 (b0L os zs n i)
 | 0,_=>by
  have e1:∀ k,(1::List.replicate n 0).getD k 0<=1:=fun k=>by
   cases k with
   | zero=>simp
   | succ k=>
    rw[List.getD_cons_succ,J2,Ah]
    split<;>simp
  have e2:∀ k,(List.replicate (n+1) 0).getD k 0<=1:=fun k=>by
   rw[J2,Ah]
   split<;>simp
  refine⟨by simp[b0L],by simp[b0L],fun k=>E0 (e1 k) (by simp),fun k=>E0 (e2 k) (by simp),fun k _=>e1 k,fun k _=>e2 k,e1 _⟩
 | i+1,hi=>by
  have ih:=TB.outer h0 (zs:=zs) n i (by omega);rw[b0L]
  split
  .exact ih.next
  .exact (TB.inner h0 ih (n+1-i) (by omega)).1.next
def a0b {x i:Nat}(h:x<=2 ^ i)(hi:i<=3000):nDigits x<=4000:=by
 refine E0 (a0r h) ?_;have h1:2 ^ i<10 ^ (i+1):=by
  have h2:2 ^ i<=10 ^ i:=Dn (by omega) i;have h3:10 ^ i<10 ^ (i+1):=Hb (by omega) (by omega);omega
 exact E0 (a0j (Ew i) h1) (by omega)
end
section
open Go.RowKit
def aIn (c:Nat->Bool)(x i:Nat):Nat->List Nat->List Nat
 | 0,l=>l
 | j+1,l=>c0X (c j) (i+j) x (aIn c x i j l)
def d0T (c:Nat->Bool)(O:List Nat)(n:Nat):Nat->List Nat
 | 0=>List.replicate (n+1) 0
 | i+1=>aIn c (O.getD i 0) i (n+1-i) (d0T c O n i)
theorem c0Y (c:Nat->Bool)(x i:Nat):∀ (j:Nat) (l:List Nat),(aIn c x i j l).length=l.length
 | 0,l=>rfl
 | j+1,l=>by rw[aIn,d0y,c0Y c x i j l]
theorem c0y (c:Nat->Bool)(O:List Nat)(n:Nat):∀ i,(d0T c O n i).length=n+1
 | 0=>by simp[d0T]
 | i+1=>by rw[d0T,c0Y,c0y c O n i]
def p0d (b:Bool)(k:Nat)(l:List Nat):c0X b k 0 l=l:=by
 unfold c0X
 split
 .rw[Ao];apply Bp
  intro m;rw[Ge]
  split
  .rename_i h
   subst h
   split
   .rename_i hk
    rw[J2,J0 hk];rfl
   .rename_i hk
    rw[U6 (by omega)]
  .rfl
 .rfl
theorem e0X (c:Nat->Bool)(i:Nat):∀ (j:Nat) (l:List Nat),aIn c 0 i j l=l
 | 0,l=>rfl
 | j+1,l=>by rw[aIn,p0d,e0X c i j l]
theorem f0u {c:Nat->Bool}{x i n:Nat}{l:List Nat}(hl:l.length=n+1):∀ {j:Nat},i+j<=n+1->∀ k,(aIn c x i j l).getD k 0=l.getD k 0+(if i<=k/\k<i+j/\c (k-i)=true then x else 0)
 | 0,_,k=>by rw[aIn,Q0 (by omega)];rfl
 | j+1,h,k=>by
  rw[aIn,h0s _ (by rw[c0Y];omega),f0u hl (by omega) k,De]
  congr 1
  by_cases hk:k=i+j
  .subst hk;rw[Q0 (by omega),show i+j-i=j by omega,U7];by_cases hc:c j=true
   .rw[U0 ⟨hc,rfl⟩,U0 ⟨by omega,by omega,hc⟩]
   .rw[Q0 (fun h=>hc h.1),Q0 (fun h=>hc h.2.2)]
  .have e0:(if c j=true/\k=i+j then x else 0)=0:=Q0 (fun h=>hk h.2);rw[e0,Ao];by_cases hc:i<=k/\k<i+j/\c (k-i)=true
   .rw[U0 hc,U0 ⟨hc.1,by omega,hc.2.2⟩]
   .rw[Q0 hc,Q0 (fun h=>hc ⟨h.1,by omega,h.2.2⟩)]
theorem g0q {c:Nat->Bool}{O:List Nat}{n:Nat}:∀ {i:Nat},i<=n+1->∀ k,k<=n->(d0T c O n i).getD k 0=a0n (fun i'=>if i'<=k/\c (k-i')=true then O.getD i' 0 else 0) i
 | 0,_,k,hk=>by simp[d0T,a0n,J2,Ah,show k<n+1 by omega]
 | i+1,h,k,hk=>by
  rw[d0T,f0u (c0y c O n i) (by omega),g0q (by omega) k hk,a0n]
  congr 1
  by_cases hc:i<=k/\c (k-i)=true
  .rw[U0 hc,U0 ⟨hc.1,by omega,hc.2⟩]
  .rw[Q0 hc,Q0 (fun h=>hc ⟨h.1,h.2.2⟩)]
def fnL (f:Nat->Nat)(n:Nat):List Nat:=(List.range (n+1)).map f
def f0n (f:Nat->Nat)(n:Nat):(fnL f n).length=n+1:=by simp[fnL]
def h0l {f:Nat->Nat}{n k:Nat}(h:k<=n):(fnL f n).getD k 0=f k:=by simp[fnL,J2,show k<n+1 by omega]
def r0J {l:List Nat}{f:Nat->Nat}{n:Nat}(hl:l.length=n+1)(h:∀ k,k<=n->l.getD k 0=f k):l=fnL f n:=by
 apply Bp
 intro k;by_cases hk:k<=n
 .have h1:=h k hk;rw[J2,J0 (by omega)]at h1;rw[J0 (by omega)];simp only[Option.getD_some]at h1;rw[h1];simp[fnL,show k<n+1 by omega]
 .rw[U6 (by omega),U6 (by rw[f0n];omega)]
def s0A {c:Nat->Bool}{f:Nat->Nat}{n:Nat}:d0T c (fnL f n) n (n+1)=fnL (cvo (chi c) f) n:=by
 refine r0J (c0y _ _ _ _) fun k hk=>?_
 rw[g0q nr k hk,g0m];unfold cvo;have e:∀ m,a0n (fun i'=>if i'<=k/\c (k-i')=true then (fnL f n).getD i' 0 else 0) (k+1+m)=a0n (fun i'=>if i'<=k/\c (k-i')=true then (fnL f n).getD i' 0 else 0) (k+1):=fun m=>by
  induction m with
  | zero=>rfl
  | succ m ih=>rw[<- De,a0n,ih,Q0 (by omega)];rfl
 rw[show n+1=k+1+(n-k) by omega,e];refine a0d fun i hi=>?_
 rw[h0l (by omega)];unfold chi;by_cases hc:c (k-i)=true
 .rw[U0 ⟨by omega,hc⟩,U0 hc,Fq]
 .rw[Q0 (fun h=>hc h.2),Q0 hc,Eu]
def i0O (N D n i:Nat):List Nat:=fnL (opn N D i) n
def p0g (N D n i:Nat):List Nat:=fnL (edn N D i) n
def q0x (N D n:Nat):(List.replicate (n+1) 0).set 0 1=i0O N D n 0:=by
 refine r0J (by simp) fun k hk=>?_
 rw[J2,Ge];unfold opn dlt;by_cases h:k=0
 .subst h;simp
 .rw[Q0 (fun e=>h e.symm),Q0 h];simp[Ah,show k<n+1 by omega]
def k0q (N D n i:Nat):d0T (a0C N D) (i0O N D n i) n (n+1)=i0O N D n (i+1):=s0A
def r0T (N D n i:Nat):d0T (a0i N D) (i0O N D n i) n (n+1)=p0g N D n i:=s0A
def v0W {c:Nat->Bool}{f:Nat->Nat}{B n:Nat}(h:∀ s,s<=n->f s<=B):∀ k,k<=n->cvo (chi c) f k<=(n+1)*B:=fun k hk=>by
 unfold cvo;have h1:a0n (fun s=>chi c s*f (k-s)) (k+1)<=a0n (fun _=>B) (k+1):=g0A fun s hs=>by
  have:=a1R c s;have:=h (k-s) (by omega)
  calc chi c s*f (k-s)<=1*f (k-s):=H8 _ (by assumption)
   _<=B:=by omega
 have h2:∀ m,a0n (fun _=>B) m=m*B:=fun m=>by
  induction m with
  | zero=>simp[a0n]
  | succ m ih=>rw[a0n,ih,He]
 rw[h2]at h1;exact E0 h1 (H8 _ (by omega))
theorem g0V {N D n:Nat}(hn:n<=32):∀ i s,s<=n->opn N D i s<=2 ^ (6*i)
 | 0,s,hs=>by unfold opn dlt;split<;>simp
 | i+1,s,hs=>by
  have h:=v0W (c:=a0C N D) (f:=opn N D i) (B:=2 ^ (6*i)) (n:=n) (fun s hs=>g0V hn i s hs) s hs;rw[opn];refine E0 h ?_;rw[show 6*(i+1)=6+6*i by omega,Dd];exact H8 _ (by omega)
def n0p {N D n:Nat}(hn:n<=32)(i s:Nat)(hs:s<=n):edn N D i s<=2 ^ (6*(i+1)):=by
 have h:=v0W (c:=a0i N D) (f:=opn N D i) (B:=2 ^ (6*i)) (n:=n) (fun s hs=>g0V hn i s hs) s hs;unfold edn;refine E0 h ?_;rw[show 6*(i+1)=6+6*i by omega,Dd];exact H8 _ (by omega)
def Is:=@Nat.add_le_add_left
def b1a {c:Nat->Bool}{O:List Nat}{n i j k:Nat}(hi:i<=n)(hij:i+j<=n+1)(hk:k<=n):(aIn c (O.getD i 0) i j (d0T c O n i)).getD k 0<=(d0T c O n (n+1)).getD k 0:=by
 rw[f0u (c0y _ _ _ _) hij,g0q (by omega) k hk,g0q nr k hk];refine E0 ?_ (a0S (show i+1<=n+1 by omega));rw[a0n];refine Is ?_ _;by_cases hc:i<=k/\c (k-i)=true
 .rw[U0 hc];split<;>omega
 .rw[Q0 hc,Q0 (fun h=>hc ⟨h.1,h.2.2⟩)];exact Z3 _
def j0F (c:Int->Nat)(v:Int)(x:Nat):Int->Nat:=fun w=>if w=v then c w+x else c w
theorem g0y (f:Nat->Nat->Nat)(m:Nat):∀ n,a0n (fun i=>a0n (fun k=>f i k) m) n=a0n (fun k=>a0n (fun i=>f i k) n) m
 | 0=>by simp only[a0n];rw[a0E]
 | n+1=>by rw[a0n,g0y f m n,<- c0n];rfl
def w0o (c:Prop)[Decidable c](f:Nat->Nat)(n:Nat):a0n (fun i=>if c then f i else 0) n=if c then a0n f n else 0:=by
 split
 .rfl
 .exact a0E n
def c1 (N D n i s:Nat)(v:Int):Nat:=a0n (fun i'=>if (i':Int)=v then a0n (fun s'=>edn N D i' s'*2 ^ (n-s')) (n+1) else 0) i+(if (i:Int)=v then a0n (fun s'=>edn N D i s'*2 ^ (n-s')) s else 0)
def y0N (N D n:Nat):c1 N D n 0 0=fun _=>0:=by funext v;simp[c1,a0n]
def s0u (N D n i s:Nat):c1 N D n i (s+1)=j0F (c1 N D n i s) (i:Int) (edn N D i s*2 ^ (n-s)):=by
 funext v
 unfold j0F c1;by_cases h:(i:Int)=v
 .subst h;rw[U0 rfl,U0 rfl,U0 rfl,a0n];omega
 .rw[Q0 h,Q0 h,Q0 (fun e=>h e.symm)]
def w0a (N D n i:Nat):c1 N D n i (n+1)=c1 N D n (i+1) 0:=by
 funext v
 unfold c1;rw[a0n];simp[a0n]
def y0O {N D n i s:Nat}(h:edn N D i s=0):c1 N D n i (s+1)=c1 N D n i s:=by
 rw[s0u,h]
 funext v
 unfold j0F
 split<;>simp
def w0b {N D:Nat}(h:N<D)(n:Nat)(v:Int):c1 N D n (n+1) 0 v=gV N D false n v:=by
 rw[v0O];unfold c1;have e:∀ i,a0n (fun s'=>edn N D i s'*2 ^ (n-s')) (n+1)=cw n (h0A N D i):=fun i=>(e0n h i n).symm
 simp only[e];rw[show (if ((n+1:Nat):Int)=v then a0n (fun s'=>edn N D (n+1) s'*2 ^ (n-s')) 0 else 0)=0 by split<;>rfl,Ao];by_cases h0:0<=v
 .rw[U0 h0]
  rw[a0d (d:=fun i=>if v.toNat=i then cw n (h0A N D v.toNat) else 0) (fun i _=>by
   by_cases hi:(i:Int)=v
   .rw[U0 hi,U0 (by omega),show v.toNat=i by omega]
   .rw[Q0 hi,Q0 (by omega)])]
  have e2:∀ m,a0n (fun i=>if v.toNat=i then cw n (h0A N D v.toNat) else 0) m=if v.toNat<m then cw n (h0A N D v.toNat) else 0:=fun m=>by
   induction m with
   | zero=>simp[a0n]
   | succ m ih=>
    rw[a0n,ih];by_cases h1:v.toNat<m
    .rw[U0 h1,Q0 (by omega),U0 (by omega)];rfl
    .rw[Q0 h1,U7];by_cases h2:v.toNat=m
     .rw[U0 h2,U0 (by omega)]
     .rw[Q0 h2,Q0 (by omega)]
  rw[e2]
  split
  .rfl
  .rename_i hn
   refine (l0S fun l hl=>?_).symm;unfold h0A;cases hs:s1 N D l 0 0 with
   | none=>rfl
   | some xp=>
    obtain⟨x,p⟩:=xp;obtain⟨b1,b2⟩:=l0i h hs;exact I7 (by omega)
 .rw[Q0 h0];rw[a0d (d:=fun _=>0) (fun i _=>Q0 (by omega)),a0E]
def a1Y {N D n i s:Nat}(h:N<D)(hi:i<=n)(hs:s<=n+1)(v:Int):c1 N D n i s v<=gV N D false n v:=by
 rw[<- w0b h];have h1:c1 N D n i s v<=c1 N D n (i+1) 0 v:=by
  rw[<- w0a];unfold c1;refine Is ?_ _
  split
  .exact a0S hs
  .exact Z3 _
 refine E0 h1 ?_;unfold c1;have e:∀ i,(if ((i:Nat):Int)=v then a0n (fun s'=>edn N D i s'*2 ^ (n-s')) 0 else 0)=0:=fun i=>by split<;>rfl
 rw[e,e];exact a0S (by omega)
def p2 (N D n i s k u:Nat)(v:Int):Nat:=if (i:Int)-(k:Int)=v then a0n (fun u'=>edn N D i s*edn N D k u'*2 ^ (n-s-u')) u else 0
def q2 (N D n i s k:Nat)(v:Int):Nat:=a0n (fun k'=>p2 N D n i s k' (n-s+1) v) k
def r2 (N D n i s:Nat)(v:Int):Nat:=a0n (fun s'=>q2 N D n i s' (n+1) v) s
def t2 (N D n i:Nat)(v:Int):Nat:=a0n (fun i'=>r2 N D n i' (n+1) v) i
def c2 (N D n i s k u:Nat)(v:Int):Nat:=t2 N D n i v+r2 N D n i s v+q2 N D n i s k v+p2 N D n i s k u v
def d0b (N D n i s k:Nat)(v:Int):p2 N D n i s k 0 v=0:=by unfold p2;split<;>rfl
def y0K (N D n:Nat):c2 N D n 0 0 0 0=fun _=>0:=by funext v;simp[c2,t2,r2,q2,d0b,a0n]
def c1m (N D n i s k u:Nat):c2 N D n i s k (u+1)=j0F (c2 N D n i s k u) ((i:Int)-(k:Int)) (edn N D i s*edn N D k u*2 ^ (n-s-u)):=by
 funext v
 unfold j0F c2 p2;by_cases h:(i:Int)-(k:Int)=v
 .subst h;rw[U0 rfl,U0 rfl,U0 rfl,a0n];omega
 .rw[Q0 h,Q0 h,Q0 (fun e=>h e.symm)]
def y0L {N D n i s k u:Nat}(h:edn N D k u=0):c2 N D n i s k (u+1)=c2 N D n i s k u:=by
 rw[c1m,h]
 funext v
 unfold j0F
 split<;>simp
def c1y (N D n i s k:Nat):c2 N D n i s k (n-s+1)=c2 N D n i s (k+1) 0:=by
 funext v
 unfold c2;rw[d0b];unfold q2;rw[a0n];omega
def c1n (N D n i s:Nat):c2 N D n i s (n+1) 0=c2 N D n i (s+1) 0 0:=by
 funext v
 unfold c2;rw[d0b,d0b];unfold r2;rw[a0n];simp only[q2,a0n];omega
def y0M {N D n i s:Nat}(h:edn N D i s=0):c2 N D n i (s+1) 0 0=c2 N D n i s 0 0:=by
 rw[<- c1n]
 funext v
 unfold c2;rw[d0b,d0b];have e:q2 N D n i s (n+1) v=0:=by
  unfold q2
  rw[a0d (d:=fun _=>0) (fun k _=>by
   unfold p2
   split
   .rw[a0d (d:=fun _=>0) (fun u _=>by rw[h,Fi,Fi]),a0E]
   .rfl),a0E]
 rw[e];simp[q2,a0n]
def c1z (N D n i:Nat):c2 N D n i (n+1) 0 0=c2 N D n (i+1) 0 0 0:=by
 funext v
 unfold c2;rw[d0b,d0b];unfold t2;rw[a0n];simp only[q2,r2,a0n]
def v0Z {N D:Nat}(h:N<D)(n:Nat)(v:Int):c2 N D n (n+1) 0 0 0 v=gV N D true n v:=by
 rw[v0N h];unfold c2;rw[d0b];simp only[q2,a0n,r2,Ao];unfold t2 r2 q2;refine a0d fun i _=>?_
 rw[g0y (fun s k=>p2 N D n i s k (n-s+1) v)];refine a0d fun k _=>?_
 unfold p2;rw[w0o];by_cases hv:(i:Int)-(k:Int)=v
 .rw[U0 hv,U0 hv,l0Q h k i n];unfold cvo;refine a0d fun s _=>?_
  rw[<- e0u];refine a0d fun u _=>?_
  unfold pw2;rw[G8]
 .rw[Q0 hv,Q0 hv]
def a1X {N D n i s k u:Nat}(h:N<D)(hi:i<=n)(hs:s<=n)(hk:k<=n)(hu:u<=n-s+1)(v:Int):c2 N D n i s k u v<=gV N D true n v:=by
 rw[<- v0Z h];have a1:p2 N D n i s k u v<=p2 N D n i s k (n-s+1) v:=by
  unfold p2
  split
  .exact a0S hu
  .exact Z3 _
 have a2:q2 N D n i s k v+p2 N D n i s k (n-s+1) v<=q2 N D n i s (n+1) v:=by
  have:q2 N D n i s (k+1) v<=q2 N D n i s (n+1) v:=a0S (by omega);unfold q2 at *;rw[a0n]at this;omega
 have a3:r2 N D n i s v+q2 N D n i s (n+1) v<=r2 N D n i (n+1) v:=by
  have:r2 N D n i (s+1) v<=r2 N D n i (n+1) v:=a0S (by omega);unfold r2 at *;rw[a0n]at this;omega
 have a4:t2 N D n i v+r2 N D n i (n+1) v<=t2 N D n (n+1) v:=by
  have:t2 N D n (i+1) v<=t2 N D n (n+1) v:=a0S (by omega);unfold t2 at *;rw[a0n]at this;omega
 unfold c2;omega
open Go.Maps
open Go.Lib (decDigits nDigits)
def b0C (p:ByteArray×ByteArray):List UInt8:=p.1.data.toList
def a0B (L:List (ByteArray×ByteArray)):List (ByteArray×ByteArray):=L.mergeSort (fun p q=>leB (b0C p) (b0C q))
def c0e {L:List (ByteArray×ByteArray)}{p:ByteArray×ByteArray}:p∈a0B L↔p∈L:=List.mem_mergeSort
def c0f (L:List (ByteArray×ByteArray)):(a0B L).length=L.length:=List.length_mergeSort L
def h0b:∀ a b c:List UInt8,leB a b=true->leB b c=true->leB a c=true:=fun a b c h1 h2=>by simp only[leB,S5]at *;exact List.le_trans h1 h2
def r0a:∀ a b:List UInt8,(leB a b || leB b a)=true:=fun a b=>by simp only[leB,M9,S5];exact List.le_total a b
def c0A (L:List (ByteArray×ByteArray)):(a0B L).Pairwise (fun p q=>leB (b0C p) (b0C q)=true):=
 List.pairwise_mergeSort (le:=fun p q=>leB (b0C p) (b0C q)) (fun a b c=>h0b (b0C a) (b0C b) (b0C c)) (fun a b=>r0a (b0C a) (b0C b)) L
def a0R (L:List (ByteArray×ByteArray)):List Value:=L.flatMap (fun p=>[.string p.1,.string p.2])
def b0v (L:List (ByteArray×ByteArray)):(a0R L).length=L.length*2:=by
 unfold a0R
 induction L with
 | nil=>rfl
 | cons p r ih=>rw[Kk,J4,ih,J7];simp;omega
def b0m (L M:List (ByteArray×ByteArray)):a0R (L++M)=a0R L++a0R M:=by simp[a0R]
def e0I {L:List (ByteArray×ByteArray)}:∀ {i:Nat} {p:ByteArray×ByteArray},L[i]?=some p->(a0R L)[2*i]?=some (.string p.1)/\(a0R L)[2*i+1]?=some (.string p.2):=by
 induction L with
 | nil=>intro i p h;simp at h
 | cons q r ih=>
  intro i p h;cases i with
  | zero=>simp at h;subst h;exact⟨rfl,rfl⟩
  | succ i=>
   have h':r[i]?=some p:=by simpa using h
   obtain⟨h1,h2⟩:=ih h';have e:a0R (q::r) = [.string q.1,.string q.2]++a0R r:=rfl;rw[e,show 2*(i+1)=2+2*i by omega]
   constructor
   .rw[M6 (by simp)];simpa using h1
   .rw[M6 (by simp<;>omega)];simp only[J7,Bx];rw[show 2+2*i+1-(0+1+1)=2*i+1 by omega];exact h2
theorem MRow.of_owns {w:World}{base n:Nat}{e:TypeId}{v:Value}{L:List (ByteArray×ByteArray)}(h:w.ownsRow base e 2 v n (a0R L)):MRow w v L:=by
 have hn:n=L.length:=by have:=h.1;rw[b0v]at this;omega
 subst hn;refine⟨?_⟩;have hh:=h;rcases h.2 with ⟨rfl,h0⟩ | ⟨g,cap,cur,rfl,hb,hg,h1,h2,h3,h4⟩
 .exact⟨none,0,by rw[h0],by omega,by omega,fun i x hx=>by have:=(O4.1 hx).1;omega⟩
 .refine⟨some ⟨g,0,none⟩,cap,rfl,h1,by unfold maxLen at h2;exact h2,fun i x hx=>⟨g,0,rfl,(S4.1 hg).1,?_⟩⟩;obtain⟨m1,m2⟩:=e0I hx;have k1:=hh.cells rfl _ _ m1;have k2:=hh.cells rfl _ _ m2;rw[Addr.add_lit]at k1 k2;rw[<- De]at k2;exact⟨k1,k2⟩
def q0I (i:Nat):(a0g i).data.toList≠b0h.data.toList:=by
 intro e;have h:(108:UInt8)∈decDigits i:=by
  rw[<- a0x,e];decide
 exact absurd (b0l i 108 h) (by decide)
open Go.Shelf
def e0N:(Tryz.prog.info? 42).map (fun i=>(i.zero,i.size,i.bytes))=some (some (.agg #[.string ⟨#[]⟩,.string ⟨#[]⟩]),2,32):=by kernel_rfl
def s0M (w:World):(zeroValue 23).run Tryz.prog w=.ok (.string ⟨#[]⟩) w:=by kernel_rfl
def f0U (t:Nat):shB 0 t=⟨#[48]⟩:=by
 have e:qmk false 0 t=0:=by unfold qmk sgn;simp
 have h1:¬ ovQ 0:=by
  have:nDigits 0<=4000:=by rw[c0D];omega
  have:nDigits 1<=4000:=by rw[b0p];omega
  unfold ovQ;rw[show (0:Rat).num.natAbs=0 from rfl,show (0:Rat).den=1 from rfl];omega
 unfold shB;rw[e];unfold c0u;rw[Q0 h1];apply a0M
 rw[txQ,b0Y,show (0:Rat).num.natAbs=0 from rfl,show (0:Rat).den=1 from rfl,show decide ((0:Rat).num<0)=false from rfl,c0b]
 rfl
end
section
def m0w (m:Bool)(n d:Nat):sgn m (n*d)=sgn m n*(d:Int):=by cases m<;>simp[sgn,Int.neg_mul]
def q0e (p q:Rat):p+q=mkRat (sgn (decide (p.num<0)) (p.num.natAbs*q.den)+sgn (decide (q.num<0)) (q.num.natAbs*p.den)) (p.den*q.den):=by
 rw[m0w,m0w,h0Q,h0Q,Rat.add_def',Int.mul_comm q.num]
 try rw[Int.mul_comm q.num]
def m0v (m:Bool)(x y:Nat):sgn m x+sgn m y=sgn m (x+y):=by cases m<;>simp[sgn]<;>omega
def m0y {m1 m2:Bool}(h:m1≠m2){x y:Nat}(hl:x<y):sgn m1 x+sgn m2 y=sgn m2 (y-x):=by
 cases m1<;>cases m2<;>simp[sgn]at *<;>omega
def m0x {m1 m2:Bool}(h:m1≠m2){x y:Nat}(hl:y<=x):sgn m1 x+sgn m2 y=sgn m1 (x-y):=by
 cases m1<;>cases m2<;>simp[sgn]at *<;>omega
open Go.RowKit
open Go.Lib (decDigits nDigits)
def n0S (m1 m2:Bool)(x y:Nat):(sgn m1 x+sgn m2 y).natAbs<=x+y:=by
 cases m1<;>cases m2<;>simp[sgn]<;>omega
structure Dig (K:Nat)(q:Rat):Prop where
 n:q.num.natAbs<10 ^ K
 d:q.den<10 ^ K
theorem Dig.fits {K:Nat}{q:Rat}(h:Dig K q)(h0:0<K)(hk:K<=4000):¬ ovQ q:=by
 unfold ovQ;have h1:=a0j h0 h.n;have h2:=a0j h0 h.d;omega
def Ij:=@Int.natAbs_ediv_le_natAbs
def v0V {K:Nat}{z:Int}{d:Nat}(hd:0<d)(h1:z.natAbs<10 ^ K)(h2:d<10 ^ K):Dig K (mkRat z d):=by
 refine⟨?_,?_⟩
 .rw[Jp,Q0 (by omega)];exact Cn (Ij _ _) h1
 .rw[No,Q0 (by omega)];exact Cn (Dx _ _) h2
def y0k {K L:Nat}{p q:Rat}(hp:Dig K p)(hq:Dig L q):Dig (K+L) (p*q):=by
 rw[<- i0J];unfold qmk;exact v0V (Eb p.den_pos q.den_pos) (by rw[b0s];exact h0m hp.n hq.n) (h0m hp.d hq.d)
def It:=@Rat.neg_num
def Ik:=@Int.natAbs_neg
def Mm:=@Rat.neg_den
def y0j {K:Nat}{q:Rat}(h:Dig K q):Dig K (-q):=⟨by rw[It,Ik];exact h.n,by rw[Mm];exact h.d⟩
def y0i:Dig 1 (1:Rat):=⟨by decide,by decide⟩
def t1:ByteArray:=⟨#[49]⟩
def z0s:t1=txQ 1:=by
 unfold t1 txQ txB;rw[show (1:Rat).num.natAbs=1 from rfl,show (1:Rat).den=1 from rfl,f0r]
 rfl
def u0z:¬ ovQ 1:=y0i.fits (by omega) (by omega)
def b1B:qE t1=0:=by rw[z0s];exact m0O u0z
def b1q:vQ t1=1:=by rw[z0s,f0v]
def k0p {q:Rat}(h:¬ ovQ q):c0u q=txQ q:=Q0 h
def q0r {q:Rat}(h:¬ ovQ q):c0J q=0:=Q0 h
def x0p {f:Rat->Rat->Rat}{s t:ByteArray}(h0:¬ (qE s=0/\qE t=0)):(if qE s=0 then qE t else qE s)≠0/\f0y f s t=⟨#[]⟩/\h0z f s t=(if qE s=0 then qE t else qE s):=by
 refine⟨?_,by rw[f0y,Q0 h0],?_⟩
 .split
  .rename_i h;exact fun e=>h0 ⟨h,e⟩
  .rename_i h;exact h
 .rw[h0z]
  split
  .rename_i h;rw[Q0 (fun e=>h0 ⟨h,e⟩)]
  .rfl
def s0J (q:Rat):Int:=if q.num=0 then 0 else if q.num<0 then -1 else 1
def m0Q (p q:Rat):Int:=s0J (p-q)
def cmB (s t:ByteArray):Int:=if qE s=0/\qE t=0 then m0Q (vQ s) (vQ t) else 0
def cmE (s t:ByteArray):Int:=if qE s=0 then qE t else qE s
def f0i {n:Nat}:(limbs n).length=0↔n=0:=by
 constructor
 .intro h;have h2:limbs n=limbs 0:=by rw[Ag h,limbs_zero]
  exact e0J h2
 .rintro rfl;rw[limbs_zero];rfl
def p0e (z:Int):Int:=if z=0 then 0 else if z<0 then -1 else 1
def h0a {z:Int}{d:Nat}(hd:d≠0):(mkRat z d).num=0↔z=0:=by
 rw[Jp,Q0 hd];have hg:(0:Int)<(Nat.gcd d z.natAbs:Nat):=by
  have:=Fx z.natAbs (Bv hd);omega
 have hdv:((Nat.gcd d z.natAbs:Nat):Int)∣z:=Int.ofNat_dvd_left.2 (Nat.gcd_dvd_right _ _)
 constructor
 .intro h;have:=Int.ediv_mul_cancel hdv;rw[h,Int.zero_mul]at this;exact this.symm
 .rintro rfl;simp
def Fj:=@Int.lt_or_le
def h0X {z:Int}{d:Nat}(hd:d≠0):(mkRat z d).num<0↔z<0:=by
 rw[Jp,Q0 hd];have hg:(0:Int)<(Nat.gcd d z.natAbs:Nat):=by
  have:=Fx z.natAbs (Bv hd);omega
 constructor
 .intro h;rcases Fj z 0 with h1 | h1
  .exact h1
  .have:=Int.ediv_nonneg h1 (Int.le_of_lt hg);omega
 .intro h;exact Int.ediv_neg_of_neg_of_pos h hg
def w0A {z:Int}{d:Nat}(hd:d≠0):s0J (mkRat z d)=p0e z:=by
 unfold s0J p0e;by_cases h:z=0
 .rw[U0 ((h0a hd).2 h),U0 h]
 .rw[Q0 (fun e=>h ((h0a hd).1 e)),Q0 h];by_cases h2:z<0
  .rw[U0 ((h0X hd).2 h2),U0 h2]
  .rw[Q0 (fun e=>h2 ((h0X hd).1 e)),Q0 h2]
def Hm:=@Rat.sub_eq_add_neg
def a1g {a c:Int}{b d:Nat}(hb:b≠0)(hd:d≠0):mkRat a b-mkRat c d=mkRat (a*d-c*b) (b*d):=by
 rw[Hm,Rat.neg_mkRat,Rat.mkRat_add_mkRat _ _ hb hd,Int.neg_mul,Int.sub_eq_add_neg]
def x0m {a c:Int}{b d:Nat}(hb:b≠0)(hd:d≠0):m0Q (mkRat a b) (mkRat c d)=p0e (a*d-c*b):=by
 unfold m0Q;rw[a1g hb hd,w0A (Nat.mul_ne_zero hb hd)]
def f0b (a b:Nat):qmk false a b=mkRat (a:Int) b:=by unfold qmk sgn;rfl
def g0k {K:Nat}{z:Int}{d:Nat}(hd:d≠0)(h1:nDigits z.natAbs<=K)(h2:nDigits d<=K):Dig K (mkRat z d):=
 v0V (Bv hd) (H6 (Dp _) (Z4 (by omega) h1)) (H6 (Dp _) (Z4 (by omega) h2))
def h0P {a b:Nat}(hb:b≠0)(h1:nDigits a<=4000)(h2:nDigits b<=4000):shB a b=txQ (mkRat (a:Int) b):=by
 unfold shB;rw[f0b];exact k0p ((g0k hb (by simpa using h1) h2).fits (by omega) (by omega))
def q0A {f:Rat->Rat->Rat}{p q:Rat}(hp:¬ ovQ p)(hq:¬ ovQ q)(h:¬ ovQ (f p q)):f0y f (txQ p) (txQ q)=txQ (f p q)/\h0z f (txQ p) (txQ q)=0:=by
 have h1:=m0O hp;have h2:=m0O hq;refine⟨?_,?_⟩
 .rw[f0y,U0 ⟨h1,h2⟩,f0v,f0v,k0p h]
 .rw[h0z,U0 h1,U0 h2,f0v,f0v,q0r h]
open Go.Shelf
def Gk:=@List.mergeSort_perm
def s0W {L:List (ByteArray×ByteArray)}(nd:(L.map b0C).Nodup):((a0B L).map b0C).Nodup:=(((Gk L _).map b0C).nodup_iff).2 nd
def t0U {i j:Nat}(h:a0g i=a0g j):i=j:=by rw[<- b0y i,h,b0y]
end
section
open Go.RowKit
open Go.Lib (decDigits nDigits)
def zB (v:Int):ByteArray:=⟨(Lib.itoa v).toArray⟩
def c0Z (v:Int):(zB v).data.toList=Lib.itoa v:=by simp[zB]
def p0h (n:Nat):zB (n:Int)=a0g n:=by
 unfold zB a0g;rw[Lib.itoa_nonneg]
def e0T {a b:Nat}(h:decDigits a=decDigits b):a=b:=by
 have:a0g a=a0g b:=by unfold a0g;rw[h]
 exact t0U this
def j0G (n:Nat)(r:List UInt8):decDigits n≠45::r:=fun h=>by
 have:=e0H n;rw[h]at this;simp[Lib.hasPrefix]at this
def Lz:=@List.cons.inj
def g0s {v w:Int}(h:zB v=zB w):v=w:=by
 have h1:Lib.itoa v=Lib.itoa w:=by rw[<- c0Z,<- c0Z,h]
 unfold Lib.itoa at h1
 split at h1<;>split at h1
 .rename_i a b
  have:=e0T (Lz h1).2;omega
 .rename_i a b
  exact absurd h1.symm (j0G _ _)
 .rename_i a b
  exact absurd h1 (j0G _ _)
 .rename_i a b
  have:=e0T h1;omega
def g0r (v:Int):(zB v).data.toList≠b0h.data.toList:=fun h=>by
 rw[c0Z]at h;unfold Lib.itoa at h
 split at h
 .have:=congrArg List.head? h;simp[b0h]at this
 .have h2:=q0I v.toNat;rw[a0x]at h2;exact h2 h
def glM (c:Int->Nat)(t n:Nat):List (ByteArray×ByteArray):=(List.range (2*n+1)).filterMap fun (j:Nat)=>if c ((j:Int)-n)=0 then none else some (zB ((j:Int)-n),shB (c ((j:Int)-n)) t)
def glP (c:Int->Nat)(t n r:Nat):List (ByteArray×ByteArray):=glM c t n++if r=0 then [] else [(b0h,shB r t)]
def r0A {c:Int->Nat}{t n:Nat}{p:ByteArray×ByteArray}:p∈glM c t n ↔ ∃ v:Int,-(n:Int)<=v/\v<=n/\c v≠0/\p=(zB v,shB (c v) t):=by
 unfold glM;rw[List.mem_filterMap]
 constructor
 .rintro⟨j,hj,h⟩;rw[Dv]at hj
  split at h
  .cases h
  .rename_i h0
   exact⟨(j:Int)-n,by omega,by omega,h0,(K9 h).symm⟩
 .rintro⟨v,h1,h2,h3,rfl⟩;refine⟨(v+n).toNat,Dv.2 (by omega),?_⟩;rw[show ((v+(n:Int)).toNat:Int)-(n:Int)=v by omega,Q0 h3]
def v0L (c:Int->Nat)(t n:Nat):((glM c t n).map b0C).Nodup:=by
 unfold glM;rw[List.map_filterMap];refine List.Pairwise.filterMap (R:=fun a b=>a≠b) _ (fun a b hab x hx y hy=>?_) List.nodup_range;simp only[Option.map_eq_some_iff]at hx hy;obtain⟨p,hp,rfl⟩:=hx;obtain⟨q,hq,rfl⟩:=hy
 split at hp
 .cases hp
 .split at hq
  .cases hq
  .obtain rfl:=(K9 hp).symm;obtain rfl:=(K9 hq).symm;intro e;have:=g0s (a0M e);exact hab (by omega)
def Ak:=@List.map_append
def Hc:=@List.nodup_append
def r0z (c:Int->Nat)(t n r:Nat):((glP c t n r).map b0C).Nodup:=by
 unfold glP
 split
 .rw[Bw];exact v0L c t n
 .rw[Ak,Hc];refine⟨v0L c t n,by simp,?_⟩;intro a ha b hb e;rw[Cc]at ha;obtain⟨p,hp,rfl⟩:=ha;obtain⟨v,-,-,-,rfl⟩:=r0A.1 hp;simp at hb;subst hb;exact g0r v e
def f0m {c:Int->Nat}{t n r:Nat}{p:ByteArray×ByteArray}:p∈glP c t n r↔(∃ v:Int,-(n:Int)<=v/\v<=n/\c v≠0/\p=(zB v,shB (c v) t))\/(r≠0/\p=(b0h,shB r t)):=by
 unfold glP;rw[Cu,r0A];refine or_congr Iff.rfl ?_
 split
 .rename_i h;simp[h]
 .rename_i h;simp[h]
def Ny:=@List.le_antisymm
def Mn:=@List.getElem_of_mem
def Il:=@List.pairwise_iff_getElem
def d0D {L M:List (ByteArray×ByteArray)}(h1:(L.map b0C).Nodup)(h2:(M.map b0C).Nodup)(h:∀ p,p∈L↔p∈M):a0B L=a0B M:=by
 have n1:L.Nodup:=List.Pairwise.of_map b0C (fun a b h e=>h (congrArg b0C e)) h1;have n2:M.Nodup:=List.Pairwise.of_map b0C (fun a b h e=>h (congrArg b0C e)) h2;have hp:L.Perm M:=(List.perm_ext_iff_of_nodup n1 n2).2 h;have hs:(a0B L).Perm (a0B M):=((Gk L _).trans hp).trans (Gk M _).symm;refine List.Perm.eq_of_pairwise (le:=fun p q=>leB (b0C p) (b0C q)=true) ?_ (c0A _) (c0A _) hs;intro a b ha hb hab hba;simp only[leB,S5]at hab hba;have e:b0C a=b0C b:=Ny hab hba;have hb2:b∈L:=(h b).2 (c0e.1 hb);have ha2:a∈L:=c0e.1 ha;obtain⟨i,hi,rfl⟩:=Mn ha2;obtain⟨j,hj,rfl⟩:=Mn hb2;have hij:i=j:=by
  rcases Gd i j with h3 | h3 | h3
  .have:=Il.1 h1 i j (by simpa using hi) (by simpa using hj) h3;simp only[List.getElem_map,ne_eq]at this;exact absurd e this
  .exact h3
  .have:=Il.1 h1 j i (by simpa using hj) (by simpa using hi) h3;simp only[List.getElem_map,ne_eq]at this;exact absurd e.symm this
 subst hij
 rfl
end
section
open Go.RowKit
theorem g0z (x:Nat)(k:Nat):∀ n,a0n (fun j=>if j=k then x else 0) n=if k<n then x else 0
 | 0=>by simp[a0n]
 | n+1=>by
  rw[a0n,g0z x k n];by_cases h1:k<n
  .rw[U0 h1,Q0 (by omega),U0 (by omega)];rfl
  .rw[Q0 h1,U7];by_cases h2:n=k
   .rw[U0 h2,U0 (by omega)]
   .rw[Q0 h2,Q0 (by omega)]
def Jr:=@List.map_cons
theorem f0W (c:Int->Nat)(n:Nat):∀ vs:List Int,vs.Nodup->(∀ v∈vs,-(n:Int)<=v/\v<=n)->(vs.map c).sum=a0n (fun j=>if ((j:Int)-n)∈vs then c ((j:Int)-n) else 0) (2*n+1)
 | [],_,_=>by
  rw[a0d (d:=fun _=>0) (fun j _=>by simp),a0E];rfl
 | v::vs,hn,hb=>by
  have ih:=f0W c n vs (List.nodup_cons.1 hn).2 fun w hw=>hb w (Cd _ hw)
  have hv:=hb v (Dt ..);have hnv:=(List.nodup_cons.1 hn).1;rw[Jr,List.sum_cons,ih];have e:a0n (fun j=>if ((j:Int)-n)∈v::vs then c ((j:Int)-n) else 0) (2*n+1)=a0n (fun j=>(if j=(v+n).toNat then c v else 0)+(if ((j:Int)-n)∈vs then c ((j:Int)-n) else 0)) (2*n+1):=by
   refine a0d fun j hj=>?_
   by_cases h1:j=(v+n).toNat
   .have h2:(j:Int)-n=v:=by omega
    rw[h2,U0 (Dt ..),U0 h1,Q0 hnv];rfl
   .have h2:(j:Int)-n≠v:=by omega
    rw[Q0 h1,U7];by_cases h3:((j:Int)-n)∈vs
    .rw[U0 h3,U0 (Cd _ h3)]
    .rw[Q0 h3,Q0 (fun h=>by rcases Az.1 h with h | h;exact h2 h;exact h3 h)]
  rw[e,c0n,g0z,U0 (by omega)]
structure Seen (c:Int->Nat)(n:Nat)(left:Int->Bool)(vs:List Int):Prop where
 nd:vs.Nodup
 mem:∀ v,v∈vs↔c v≠0/\left v=false
theorem Seen.start {c:Int->Nat}{n:Nat}{left:Int->Bool}(h:∀ v,c v≠0->left v=true):Seen c n left []:=⟨List.nodup_nil,fun v=>⟨fun hv=>by simp at hv,fun ⟨h1,h2⟩=>by rw[h v h1]at h2;cases h2⟩⟩
theorem Seen.step {c:Int->Nat}{n:Nat}{left left':Int->Bool}{vs:List Int}{x:Int}(h:Seen c n left vs)(hx:left x=true)(hc:c x≠0)(hl:∀ v,left' v=(left v && !decide (v=x))):Seen c n left' (vs ++ [x]):=by
 refine⟨?_,fun v=>?_⟩
 .rw[Hc];refine⟨h.nd,by simp,fun a ha b hb e=>?_⟩;simp at hb;subst hb;subst e;have:=((h.mem a).1 ha).2;rw[hx]at this;cases this
 .rw[Cu,h.mem,hl]
  constructor
  .rintro (⟨h1,h2⟩ | h1)
   .exact⟨h1,by rw[h2];rfl⟩
   .simp at h1;subst h1;exact⟨hc,by simp⟩
  .rintro⟨h1,h2⟩;rw[Bool.and_eq_false_iff]at h2;rcases h2 with h2 | h2
   .exact .inl ⟨h1,h2⟩
   .right;simp at h2;simp[h2]
theorem Seen.sum_le {N D:Nat}(hND:N<D){two:Bool}{n:Nat}{left:Int->Bool}{vs:List Int}(h:Seen (gV N D two n) n left vs):(vs.map (gV N D two n)).sum<=2 ^ n:=by
 rw[f0W _ n vs h.nd (fun v hv=>by
  have h1:=((h.mem v).1 hv).1;rcases Fj v (-(n:Int)) with h2 | h2
  .exact absurd (d0n hND (.inl h2)) h1
  .rcases Fj (n:Int) v with h3 | h3
   .exact absurd (d0n hND (.inr h3)) h1
   .exact⟨h2,h3⟩)]
 have h1:=h0k hND two n;have h2:a0n (fun j=>if ((j:Int)-n)∈vs then gV N D two n ((j:Int)-n) else 0) (2*n+1)<=a0n (fun j=>gV N D two n ((j:Int)-n)) (2*n+1):=g0A fun j _=>by split<;>omega
 omega
theorem Seen.sum_all {N D:Nat}(hND:N<D){two:Bool}{n:Nat}{left:Int->Bool}{vs:List Int}(h:Seen (gV N D two n) n left vs)(hl:∀ v,left v=false):2 ^ n-(vs.map (gV N D two n)).sum=gL N D two n:=by
 rw[f0W _ n vs h.nd (fun v hv=>by
  have h1:=((h.mem v).1 hv).1;rcases Fj v (-(n:Int)) with h2 | h2
  .exact absurd (d0n hND (.inl h2)) h1
  .rcases Fj (n:Int) v with h3 | h3
   .exact absurd (d0n hND (.inr h3)) h1
   .exact⟨h2,h3⟩)]
 have h1:=h0k hND two n;have h2:a0n (fun j=>if ((j:Int)-n)∈vs then gV N D two n ((j:Int)-n) else 0) (2*n+1)=a0n (fun j=>gV N D two n ((j:Int)-n)) (2*n+1):=a0d fun j _=>by
  split
  .rfl
  .rename_i hm
   rw[h.mem]at hm;by_cases h0:gV N D two n ((j:Int)-n)=0
   .exact h0.symm
   .exact absurd ⟨h0,hl _⟩ hm
 omega
theorem Seen.pairs {N D:Nat}(hND:N<D){two:Bool}{n t r:Nat}{left:Int->Bool}{vs:List Int}(h:Seen (gV N D two n) n left vs)(hl:∀ v,left v=false):
 (((vs.map fun v=>(zB v,shB (gV N D two n v) t))++if r=0 then [] else [(b0h,shB r t)]).map b0C).Nodup/\a0B ((vs.map fun v=>(zB v,shB (gV N D two n v) t))++if r=0 then [] else [(b0h,shB r t)])=a0B (glP (gV N D two n) t n r):=by
 have hk:((vs.map fun v=>(zB v,shB (gV N D two n v) t)).map b0C).Nodup:=by
  rw[List.map_map];refine List.Pairwise.map (R:=fun a b=>a≠b) _ (fun a b hab e=>hab (g0s (a0M e))) h.nd
 have nd:(((vs.map fun v=>(zB v,shB (gV N D two n v) t))++if r=0 then [] else [(b0h,shB r t)]).map b0C).Nodup:=by
  split
  .rw[Bw];exact hk
  .rw[Ak,Hc];refine⟨hk,by simp,fun a ha b hb e=>?_⟩;simp only[Cc]at ha;obtain⟨p,⟨v,-,rfl⟩,rfl⟩:=ha;simp at hb;subst hb;exact g0r v e
 refine⟨nd,d0D nd (r0z _ _ _ _) fun p=>?_⟩;rw[f0m,Cu,Cc];refine or_congr ?_ ?_
 .constructor
  .rintro⟨v,hv,rfl⟩;have h1:=((h.mem v).1 hv).1;refine⟨v,?_,?_,h1,rfl⟩
   .rcases Fj v (-(n:Int)) with h2 | h2
    .exact absurd (d0n hND (.inl h2)) h1
    .exact h2
   .rcases Fj (n:Int) v with h3 | h3
    .exact absurd (d0n hND (.inr h3)) h1
    .exact h3
  .rintro⟨v,-,-,h1,rfl⟩;exact⟨v,(h.mem v).2 ⟨h1,hl v⟩,rfl⟩
 .split
  .rename_i h;simp[h]
  .rename_i h;simp[h]
def zS (n:Nat)(f:Int->Nat):Nat:=a0n (fun j=>f ((j:Int)-n)) (2*n+1)
def d0z {n:Nat}{f g:Int->Nat}(h:∀ v,-(n:Int)<=v->v<=n->f v=g v):zS n f=zS n g:=
 a0d fun j hj=>h _ (by omega) (by omega)
def v0g (n k:Nat)(f:Int->Nat):zS n (fun v=>k*f v)=k*zS n f:=e0u _ _ _
def w0i (n k:Nat)(f:Int->Nat):zS n (fun v=>f v*k)=zS n f*k:=by
 rw[d0z (g:=fun v=>k*f v) (fun v _ _=>E9 _ _),v0g,E9]
def w0f (n:Nat):zS n (fun _=>0)=0:=a0E _
def b1p {n:Nat}{f g:Int->Nat}(h:∀ v,-(n:Int)<=v->v<=n->f v<=g v):zS n f<=zS n g:=
 g0A fun j hj=>h _ (by omega) (by omega)
def w0h {n:Nat}{x:Int}(h1 : -(n:Int)<=x)(h2:x<=n)(y:Nat):zS n (fun v=>if v=x then y else 0)=y:=by
 unfold zS
 rw[a0d (d:=fun j=>if j=(x+n).toNat then y else 0) (fun j hj=>by
  show (if (j:Int)-n=x then y else 0)=_
  by_cases h:(j:Int)-n=x
  .rw[U0 h,U0 (by omega)]
  .rw[Q0 h,Q0 (by omega)]),g0z,U0 (by omega)]
def vw (n:Nat):List (Int->Nat)->(List Int->Nat)->Nat
 | [],F=>F []
 | g::gs,F=>zS n fun x=>g x*vw n gs fun r=>F (x::r)
theorem e0q {n:Nat}:∀ {gs:List (Int->Nat)} {F G:List Int->Nat},(∀ xs,xs.length=gs.length->(∀ x∈xs,-(n:Int)<=x/\x<=n)->F xs=G xs)->vw n gs F=vw n gs G
 | [],F,G,h=>h [] rfl (by simp)
 | g::gs,F,G,h=>d0z fun v h1 h2=>by
  rw[e0q (gs:=gs) (fun r hr hb=>h (v::r) (by simp[hr]) (by
   intro x hx;rcases Az.1 hx with rfl | hx
   .exact⟨h1,h2⟩
   .exact hb x hx))]
theorem p0l (n:Nat):∀ gs:List (Int->Nat),vw n gs (fun _=>0)=0
 | []=>rfl
 | g::gs=>by rw[vw,d0z (g:=fun _=>0) (fun v _ _=>by rw[p0l n gs,Eu]),w0f]
theorem p0n (n k:Nat):∀ (gs:List (Int->Nat)) (F:List Int->Nat),vw n gs (fun xs=>k*F xs)=k*vw n gs F
 | [],F=>rfl
 | g::gs,F=>by
  rw[vw,vw,<- v0g];exact d0z fun v _ _=>by rw[p0n n k gs,Gb]
def b1 (b:Bool):Nat:=if b=true then 1 else 0
def z0a (n:Nat)(gs:List (Int->Nat)):Nat:=vw n gs fun _=>1
def q0l (n:Nat)(g:Int->Nat)(gs:List (Int->Nat)):z0a n (g::gs)=zS n g*z0a n gs:=by
 unfold z0a;rw[vw,w0i]
def v0P {N D:Nat}(h:N<D)(two:Bool)(n:Nat):zS n (gV N D two n)+gL N D two n=2 ^ n:=h0k h two n
open Go.Lib (decDigits nDigits)
def h0E {x m:Nat}(hx:x<=2 ^ m)(h:m<=1000):nDigits x<=4000:=
 E0 (a0r hx) (h0M h)
def dyB (x m:Nat):ByteArray:=shB x (2 ^ m)
def dyQ (x m:Nat):Rat:=mkRat (x:Int) (2 ^ m)
def Ob:=@Nat.ne_of_gt
def d0V (m:Nat):2 ^ m≠0:=Ob (Ej (by omega))
theorem k0I {x m:Nat}(hx:x<=2 ^ m)(h:m<=1000):dyB x m=txQ (dyQ x m):=
 h0P (d0V m) (h0E hx h) (h0E nr h)
def f0p {x m:Nat}(hx:x<=2 ^ m)(h:m<=1000):¬ ovQ (dyQ x m):=
 (g0k (d0V m) (by simpa using h0E hx h) (h0E nr h)).fits (by omega) (by omega)
def l0N (x y m k:Nat):dyQ x m*dyQ y k=dyQ (x*y) (m+k):=by
 unfold dyQ;rw[Rat.mkRat_mul_mkRat,Dl,Dd]
def Iu:=@Rat.mkRat_mul_right
def y0g (x y m:Nat):dyQ x m+dyQ y m=dyQ (x+y) m:=by
 unfold dyQ;rw[Rat.mkRat_add_mkRat _ _ (d0V m) (d0V m),<- Int.add_mul,Iu (d0V m),Gj]
def l0M {x y m:Nat}(h:y<=x):dyQ x m-dyQ y m=dyQ (x-y) m:=by
 have:=y0g (x-y) y m;rw[Nat.sub_add_cancel h]at this;rw[<- this,Rat.add_sub_cancel]
def a1J {x y m k:Nat}(hx:x<=2 ^ m)(hy:y<=2 ^ k)(h:m+k<=1000):f0y (· * ·) (dyB x m) (dyB y k)=dyB (x*y) (m+k):=by
 have hxy:x*y<=2 ^ (m+k):=by rw[Dd];exact Aw hx hy
 rw[k0I hx (by omega),k0I hy (by omega),(q0A (f:=(· * ·)) (f0p hx (by omega)) (f0p hy (by omega)) (by show ¬ ovQ (_*_);rw[l0N];exact f0p hxy h)).1];show txQ (_*_)=_
 rw[l0N,k0I hxy h]
def a1I {x y m:Nat}(hx:x<=2 ^ m)(hy:y<=x)(h:m<=1000):f0y (· - ·) (dyB x m) (dyB y m)=dyB (x-y) m:=by
 rw[k0I (x:=x) hx h,k0I (x:=y) (by omega) h,(q0A (f:=(· - ·)) (f0p hx (by omega)) (f0p (by omega) (by omega)) (by show ¬ ovQ (_-_);rw[l0M hy];exact f0p (by omega) h)).1];show txQ (_-_)=_
 rw[l0M hy,k0I (by omega) h]
def a1H (x m k:Nat):dyB (x*2 ^ k) (m+k)=dyB x m:=by
 unfold dyB shB;rw[f0b,f0b,Dl,Dd,Iu (d0V k)]
def l0L (m:Nat):dyB 0 m=⟨#[48]⟩:=by
 have:=a1H 0 0 m;rw[Fi,U7]at this;rw[this];unfold dyB;rw[h0P (by decide) (by decide +kernel) (by decide +kernel)]
 decide +kernel
def v0U:dyB 1 0=⟨#[49]⟩:=by
 unfold dyB;rw[h0P (by decide) (by decide +kernel) (by decide +kernel)]
 decide +kernel
def y0e (m:Nat):dyB (2 ^ m) m=⟨#[49]⟩:=by
 have:=a1H 1 0 m;rw[Ds,U7]at this;rw[this,v0U]
def l0Y (L:List Nat)(i k:Nat)(m:List Nat):List Nat:=m.set (i+k) (m.getD (i+k) 0+L.getD i 0*L.getD k 0)
def cIn (L:List Nat)(i:Nat):Nat->List Nat->List Nat
 | 0,m=>m
 | k+1,m=>l0Y L i k (cIn L i k m)
def k0P (L:List Nat)(n:Nat):Nat->List Nat
 | 0=>List.replicate (n+1) 0
 | i+1=>cIn L i (n+1-i) (k0P L n i)
structure CB (n B t:Nat)(m:List Nat):Prop where
 len:m.length=n+1
 up:∀ k,m.getD k 0<=t*B
def n0i (l:List Nat){i:Nat}(hi:i<l.length)(x k:Nat):(l.set i x).getD k 0=if i=k then x else l.getD k 0:=by
 rw[J2,J2,Ge];by_cases h:i=k
 .subst h;simp[hi]
 .simp[h]
theorem CB.step {L m:List Nat}{n B t i k:Nat}(h:CB n (B*B) t m)(hL:∀ k,L.getD k 0<=B)(hik:i+k<=n):CB n (B*B) (t+1) (l0Y L i k m):=by
 refine⟨by simp[l0Y,h.len],fun j=>?_⟩;have h1:=h.up j;have h2:=h.up (i+k);have h3:=Aw (hL i) (hL k);unfold l0Y;rw[n0i _ (by rw[h.len];omega),He]
 split<;>omega
theorem CB.inner {L m:List Nat}{n B t i:Nat}(h:CB n (B*B) t m)(hL:∀ k,L.getD k 0<=B):∀ k,i+k<=n+1->CB n (B*B) (t+k) (cIn L i k m)
 | 0,_=>h
 | k+1,hk=>CB.step (CB.inner h hL k (by omega)) hL (by omega)
theorem CB.outer {L:List Nat}{n B:Nat}(hL:∀ k,L.getD k 0<=B):∀ i,i<=n+1->CB n (B*B) (i*(n+1)) (k0P L n i)
 | 0,_=>⟨by simp[k0P],fun k=>by
  rw[k0P,J2,Ah]
  split<;>simp⟩
 | i+1,hi=>by
  have h0:=CB.outer (n:=n) hL i (by omega);have h:=CB.inner (i:=i) h0 hL (n+1-i) (by omega);refine⟨h.len,fun k=>E0 (h.up k) (H8 _ ?_)⟩;rw[He];omega
def rIn (L:List Nat)(n:Nat):Nat->Nat
 | 0=>2 ^ n
 | i+1=>rIn L n i-L.getD i 0*2 ^ (n-i)
theorem k0e (L:List Nat)(n:Nat):∀ i,rIn L n i<=2 ^ n
 | 0=>Z3 _
 | i+1=>by have:=k0e L n i;rw[rIn];omega
def e3:Nat:=300
def e7:Nat:=700
def p0v {os zs:Nat->Bool}(h0:os 0=false){n:Nat}(hn:n<=256):(b0L os zs n (n+1)).2.length=n+1/\∀ k,(b0L os zs n (n+1)).2.getD k 0<=2 ^ e3:=by
 have h:=TB.outer (zs:=zs) h0 n (n+1) nr;exact⟨h.l2,fun k=>E0 (h.up2 k) (Z4 (by omega) (by unfold e3;omega))⟩
def i0j {n t:Nat}(hn:n<=256)(ht:t<=(n+1)*(n+1)){x:Nat}(h:x<=t*(2 ^ e3*2 ^ e3)):x<=2 ^ e7:=by
 refine E0 h ?_;have h1:t<=2 ^ 20:=by
  refine E0 ht ?_;have:(n+1)*(n+1)<=257*257:=Aw (by omega) (by omega);omega
 have h2:=H8 (2 ^ e3*2 ^ e3) h1;rw[<- Dd,<- Dd]at h2;rw[<- Dd];exact E0 h2 (Z4 (by omega) (by unfold e3 e7;omega))
end
section
open Go.RowKit
theorem z0q {os zs:Nat->Bool}(h0:os 0=false){n i:Nat}{s:List Nat×List Nat}(h1:s.1.length=n+1)(h2:s.2.length=n+1):∀ j,i+j<=n+1->tIn os zs i j s=(aIn os (s.1.getD i 0) i j s.1,aIn zs (s.1.getD i 0) i j s.2)
 | 0,_=>rfl
 | j+1,h=>by
  have e:(aIn os (s.1.getD i 0) i j s.1).getD i 0=s.1.getD i 0:=by
   rw[f0u h1 (by omega),Q0 (by rw[Bh,h0];simp),Ao]
  rw[tIn,z0q h0 h1 h2 j (by omega),n0O,e,aIn,aIn]
def m0r {os zs:Nat->Bool}(h0:os 0=false)(n:Nat):∀ i,i<=n+1->(b0L os zs n i).1.length=n+1/\(b0L os zs n i).2.length=n+1:=fun i hi=>by
 have h:=TB.outer (os:=os) (zs:=zs) h0 n i hi;exact⟨h.l1,h.l2⟩
theorem p0y {os zs:Nat->Bool}(h0:os 0=false){n i:Nat}(hi:i<=n):b0L os zs n (i+1)=(aIn os ((b0L os zs n i).1.getD i 0) i (n+1-i) (b0L os zs n i).1,aIn zs ((b0L os zs n i).1.getD i 0) i (n+1-i) (b0L os zs n i).2):=by
 obtain⟨l1,l2⟩:=m0r (os:=os) (zs:=zs) h0 n i (by omega);rw[b0L]
 split
 .rename_i hz
  rw[hz,e0X,e0X]
 .exact z0q h0 l1 l2 _ (by omega)
def uT (os zs:Nat->Bool)(n i:Nat):Nat:=(b0L os zs n i).1.getD i 0
theorem f0Q {os zs:Nat->Bool}(h0:os 0=false){n:Nat}:∀ {i:Nat},i<=n+1->∀ k,k<=n ->
 (b0L os zs n i).1.getD k 0=dlt k+a0n (fun i'=>if i'<=k/\os (k-i')=true then uT os zs n i' else 0) i /\
 (b0L os zs n i).2.getD k 0=a0n (fun i'=>if i'<=k/\zs (k-i')=true then uT os zs n i' else 0) i
 | 0,_,k,hk=>by
  constructor
  .rw[b0L];unfold dlt;cases k with
   | zero=>rfl
   | succ k=>simp[a0n,J2,Ah,show k<n by omega]
  .rw[b0L];simp[a0n,J2,Ah,show k<n+1 by omega]
 | i+1,h,k,hk=>by
  obtain⟨l1,l2⟩:=m0r (os:=os) (zs:=zs) h0 n i (by omega);obtain⟨g1,g2⟩:=f0Q h0 (n:=n) (i:=i) (os:=os) (zs:=zs) (by omega) k hk;have e:∀ c:Nat->Bool,(if i<=k/\k<i+(n+1-i)/\c (k-i)=true then (b0L os zs n i).1.getD i 0 else 0)=if i<=k/\c (k-i)=true then uT os zs n i else 0:=fun c=>by
   by_cases hc:i<=k/\c (k-i)=true
   .rw[U0 hc,U0 ⟨hc.1,by omega,hc.2⟩];rfl
   .rw[Q0 hc,Q0 (fun hh=>hc ⟨hh.1,hh.2.2⟩)]
  rw[p0y h0 (by omega)];dsimp only;rw[f0u l1 (by omega),f0u l2 (by omega),g1,g2,a0n,a0n,e,e];exact⟨by omega,rfl⟩
def f0R {c:Nat->Bool}{f:Nat->Nat}{k:Nat}:∀ {m:Nat},k+1<=m->a0n (fun i'=>if i'<=k/\c (k-i')=true then f i' else 0) m=cvo (chi c) f k:=fun {m} hm=>by
 rw[g0m];unfold cvo;obtain⟨d,rfl⟩:∃ d,m=k+1+d:=⟨m-(k+1),by omega⟩;have e:∀ d,a0n (fun i'=>if i'<=k/\c (k-i')=true then f i' else 0) (k+1+d)=a0n (fun i'=>if i'<=k/\c (k-i')=true then f i' else 0) (k+1):=fun d=>by
  induction d with
  | zero=>rfl
  | succ d ih=>rw[<- De,a0n,ih,Q0 (by omega)];rfl
 rw[e];refine a0d fun i hi=>?_
 unfold chi;by_cases hc:c (k-i)=true
 .rw[U0 ⟨by omega,hc⟩,U0 hc,Fq]
 .rw[Q0 (fun h=>hc h.2),Q0 hc,Eu]
def s0O {os zs:Nat->Bool}(h0:os 0=false){n k:Nat}(hk:k<=n):uT os zs n k=dlt k+cvo (chi os) (uT os zs n) k:=by
 have h:=(f0Q (zs:=zs) h0 (n:=n) (i:=k) (by omega) k hk).1;rw[<- f0R (m:=k+1) nr,a0n,Q0 (by rw[Bh,h0];simp),Ao];exact h
def m0l {os zs:Nat->Bool}(h0:os 0=false){n k:Nat}(hk:k<=n):(b0L os zs n (n+1)).2.getD k 0=cvo (chi zs) (uT os zs n) k:=by
 rw[(f0Q (os:=os) (zs:=zs) h0 (n:=n) nr k hk).2,f0R (by omega)]
def s0d (f g h:Nat->Nat)(n:Nat):cvo (fun m=>f m+g m) h n=cvo f h n+cvo g h n:=by
 unfold cvo;rw[<- c0n];exact a0d fun i _=>As _ _ _
def p0T {c:Nat->Bool}(h0:c 0=false){F G R:Nat->Nat}{n:Nat}(hF:∀ m,m<=n->F m=cvo (chi c) F m+R m)(hG:∀ m,m<=n->G m=cvo (chi c) G m+R m):∀ m,m<=n->F m=G m:=by
 intro m
 induction m using Nat.strongRecOn with
 | ind m ih=>
  intro hm;rw[hF m hm,hG m hm]
  congr 1
  unfold cvo;rw[b0r,b0r];have e:chi c 0=0:=by unfold chi;rw[h0];rfl
  rw[e,Fi,Fi]
  congr 1
  refine a0d fun i hi=>?_
  rw[ih (m-(i+1)) (by omega) (by omega)]
def f0E (N D:Nat)(l:List UInt8):Bool:=(s1 N D l 0 0).isSome
def d0x (N D:Nat)(l:List UInt8):Bool:=match s1 N D l 0 0 with | none=>false | some (_,p)=>f0E N D (l.drop p)
def r0Z {N D:Nat}(h:N<D)(l:List UInt8):f0E N D l=b0B N D 0 1 (f0E N D) (fun _=>true) l:=by
 unfold b0B;rw[f0E,g0E h];cases hd:(b0R N D 0 1 l).1
 .rfl
 .rw[U0 rfl,Fd];by_cases hv:(b0R N D 0 1 l).2.1=1
  .rw[U0 hv,U0 hv];show _=f0E N D (l.drop (b0R N D 0 1 l).2.2)
   rw[f0E];cases s1 N D (l.drop (b0R N D 0 1 l).2.2) 0 0<;>rfl
  .rw[Q0 hv,Q0 hv];rfl
def o0Q {N D:Nat}(h:N<D)(l:List UInt8):d0x N D l=b0B N D 0 1 (d0x N D) (f0E N D) l:=by
 unfold b0B;rw[d0x,g0E h];cases hd:(b0R N D 0 1 l).1
 .rfl
 .rw[U0 rfl,Fd];by_cases hv:(b0R N D 0 1 l).2.1=1
  .rw[U0 hv,U0 hv];show _=d0x N D (l.drop (b0R N D 0 1 l).2.2)
   rw[d0x];cases s1 N D (l.drop (b0R N D 0 1 l).2.2) 0 0 with
   | none=>rfl
   | some x=>simp[Hj]
  .rw[Q0 hv,Q0 hv]
section
variable {N D : Nat} (h : N < D) (n : Nat)
include h
theorem i0v {m:Nat}(hm:m<=n):cvo (fun k=>(b0L (a0C N D) (a0i N D) n (n+1)).2.getD k 0) pw2 m=cw m (f0E N D):=by
 have o0:a0C N D 0=false:=rfl;have hL:∀ m,m<=n->cvo (fun k=>(b0L (a0C N D) (a0i N D) n (n+1)).2.getD k 0) pw2 m=cvo (uT (a0C N D) (a0i N D) n) (cvo (chi (a0i N D)) pw2) m:=fun m hm=>by
  rw[a0L (f':=cvo (chi (a0i N D)) (uT (a0C N D) (a0i N D) n)) (g':=pw2) (fun s hs=>m0l o0 (by omega)) (fun _ _=>rfl),b0E,j0u]
 refine p0T (c:=a0C N D) (F:=cvo (fun k=>(b0L (a0C N D) (a0i N D) n (n+1)).2.getD k 0) pw2) (G:=fun m=>cw m (f0E N D)) o0 (R:=cvo (chi (a0i N D)) pw2) (n:=n) (fun m hm=>?_) (fun m hm=>?_) m hm
 .rw[hL m hm,a0L (f':=fun k=>dlt k+cvo (chi (a0C N D)) (uT (a0C N D) (a0i N D) n) k) (g':=cvo (chi (a0i N D)) pw2) (fun s hs=>s0O o0 (by omega)) (fun _ _=>rfl),s0d,l0V,b0E,Ku]
  congr 1
  exact a0L (fun _ _=>rfl) fun s hs=>(hL s (by omega)).symm
 .rw[a0D (Q:=b0B N D 0 1 (f0E N D) (fun _=>true)) (fun l _=>r0Z h l),d0P h]
  congr 1
  exact a0L (fun _ _=>rfl) fun s _=>j0t s
theorem m0m {m:Nat}(hm:m<=n):cvo (cvo (fun k=>(b0L (a0C N D) (a0i N D) n (n+1)).2.getD k 0) (fun k=>(b0L (a0C N D) (a0i N D) n (n+1)).2.getD k 0)) pw2 m=cw m (d0x N D):=by
 have o0:a0C N D 0=false:=rfl;have hT:∀ s,s<=n->(b0L (a0C N D) (a0i N D) n (n+1)).2.getD s 0=cvo (chi (a0i N D)) (uT (a0C N D) (a0i N D) n) s:=fun s hs=>m0l o0 hs
 have hL:∀ m,m<=n->cvo (cvo (fun k=>(b0L (a0C N D) (a0i N D) n (n+1)).2.getD k 0) (fun k=>(b0L (a0C N D) (a0i N D) n (n+1)).2.getD k 0)) pw2 m=cvo (uT (a0C N D) (a0i N D) n) (cvo (chi (a0i N D)) (fun k=>cw k (f0E N D))) m:=fun m hm=>by
  rw[b0E,a0L (f':=cvo (chi (a0i N D)) (uT (a0C N D) (a0i N D) n)) (g':=fun k=>cw k (f0E N D)) (fun s hs=>hT s (by omega)) (fun s hs=>i0v h n (by omega)),b0E,j0u]
 refine p0T (c:=a0C N D) (F:=cvo (cvo (fun k=>(b0L (a0C N D) (a0i N D) n (n+1)).2.getD k 0) (fun k=>(b0L (a0C N D) (a0i N D) n (n+1)).2.getD k 0)) pw2) (G:=fun m=>cw m (d0x N D)) o0 (R:=cvo (chi (a0i N D)) (fun k=>cw k (f0E N D))) (n:=n) (fun m hm=>?_) (fun m hm=>?_) m hm
 .rw[hL m hm,a0L (f':=fun k=>dlt k+cvo (chi (a0C N D)) (uT (a0C N D) (a0i N D) n) k) (g':=cvo (chi (a0i N D)) (fun k=>cw k (f0E N D))) (fun s hs=>s0O o0 (by omega)) (fun _ _=>rfl),s0d,l0V,b0E,Ku]
  congr 1
  exact a0L (fun _ _=>rfl) fun s hs=>(hL s (by omega)).symm
 .rw[a0D (Q:=b0B N D 0 1 (d0x N D) (f0E N D)) (fun l _=>o0Q h l),d0P h]
end
def k0L (P:List UInt8->Bool):∀ n,cw n P+cw n (fun l => !P l)=2 ^ n:=fun n=>by
 rw[<- f0F,<- f0F,<- e0o];have:∀ L:List (List UInt8),L.countP P+L.countP (fun l => !P l)=L.length:=fun L=>by
  induction L with
  | nil=>rfl
  | cons a r ih=>
   simp only[Ip,J7];cases P a<;>simp<;>omega
 exact this _
def v0Q (N D n:Nat):gL N D false n=2 ^ n-cw n (f0E N D):=by
 have h:=k0L (f0E N D) n;have e:gL N D false n=cw n (fun l => !f0E N D l):=a0D fun l _=>by
  rw[Bc,Gv];unfold h0K f0E;cases s1 N D l 0 0<;>simp
 omega
def r0G (N D n:Nat):gL N D true n=2 ^ n-cw n (d0x N D):=by
 have h:=k0L (d0x N D) n;have e:gL N D true n=cw n (fun l => !d0x N D l):=a0D fun l _=>by
  rw[Bc,Gv];unfold h0K d0x f0E;cases s1 N D l 0 0 with
  | none=>simp
  | some xp=>
   simp only[Fp];cases s1 N D (l.drop xp.2) 0 0<;>simp
 omega
theorem l0j {L:List Nat}{n:Nat}(h:a0n (fun i=>L.getD i 0*2 ^ (n-i)) (n+1)<=2 ^ n):∀ i,i<=n+1->rIn L n i=2 ^ n-a0n (fun i=>L.getD i 0*2 ^ (n-i)) i
 | 0,_=>by simp[rIn,a0n]
 | i+1,hi=>by
  have:=a0S (f:=fun i=>L.getD i 0*2 ^ (n-i)) hi;rw[rIn,l0j h i (by omega),a0n];omega
def z0A {L:List Nat}{n:Nat}(h:a0n (fun i=>L.getD i 0*2 ^ (n-i)) (n+1)<=2 ^ n):∀ i,i<=n->L.getD i 0*2 ^ (n-i)<=rIn L n i:=fun i hi=>by
 have h1:=a0S (f:=fun i=>L.getD i 0*2 ^ (n-i)) (show i+1<=n+1 by omega);rw[a0n]at h1;rw[l0j h i (by omega)];omega
theorem l0Z (L:List Nat)(i:Nat):∀ (k:Nat) (m:List Nat),(cIn L i k m).length=m.length
 | 0,_=>rfl
 | k+1,m=>by rw[cIn,l0Y,Ch,l0Z L i k m]
theorem n0z (L:List Nat)(n:Nat):∀ i,(k0P L n i).length=n+1
 | 0=>by simp[k0P]
 | i+1=>by rw[k0P,l0Z,n0z L n i]
theorem m0a {L m:List Nat}{i n:Nat}(hl:m.length=n+1):∀ {k:Nat},i+k<=n+1->∀ j,(cIn L i k m).getD j 0=m.getD j 0+(if i<=j/\j<i+k then L.getD i 0*L.getD (j-i) 0 else 0)
 | 0,_,j=>by rw[cIn,Q0 (by omega)];rfl
 | k+1,h,j=>by
  rw[cIn,l0Y,n0i _ (by rw[l0Z];omega),m0a hl (by omega),m0a hl (by omega)];by_cases hj:i+k=j
  .subst hj;rw[U0 rfl,Q0 (by omega),U0 (by omega),show i+k-i=k by omega];omega
  .rw[Q0 hj]
   congr 1
   by_cases hc:i<=j/\j<i+k
   .rw[U0 hc,U0 (by omega)]
   .rw[Q0 hc,Q0 (by omega)]
theorem n0A {L:List Nat}{n:Nat}:∀ {i:Nat},i<=n+1->∀ j,j<=n->(k0P L n i).getD j 0=a0n (fun i'=>if i'<=j then L.getD i' 0*L.getD (j-i') 0 else 0) i
 | 0,_,j,hj=>by simp[k0P,a0n,J2,Ah,show j<n+1 by omega]
 | i+1,h,j,hj=>by
  rw[k0P,m0a (n0z L n i) (by omega),n0A (by omega) j hj,a0n]
  congr 1
  by_cases hc:i<=j
  .rw[U0 hc,U0 (by omega)]
  .rw[Q0 hc,Q0 (by omega)]
def u0W {L:List Nat}{n j:Nat}(hj:j<=n):(k0P L n (n+1)).getD j 0=cvo (fun k=>L.getD k 0) (fun k=>L.getD k 0) j:=by
 rw[n0A nr j hj];unfold cvo;obtain⟨d,hd⟩:∃ d,n+1=j+1+d:=⟨n-j,by omega⟩;rw[hd];have e:∀ d,a0n (fun i'=>if i'<=j then L.getD i' 0*L.getD (j-i') 0 else 0) (j+1+d)=a0n (fun i'=>if i'<=j then L.getD i' 0*L.getD (j-i') 0 else 0) (j+1):=fun d=>by
  induction d with
  | zero=>rfl
  | succ d ih=>rw[<- De,a0n,ih,Q0 (by omega)];rfl
 rw[e];exact a0d fun i hi=>U0 (by omega)
def prW:List (Int->Nat)->List Int->Nat
 | g::gs,x::xs=>g x*prW gs xs
 | _,_=>1
def z0T:Int->Nat:=fun _=>1
theorem p0m (n:Nat):∀ (gs:List (Int->Nat)) (F:List Int->Nat),vw n gs F=vw n (List.replicate gs.length z0T) (fun xs=>prW gs xs*F xs)
 | [],F=>by simp[vw,prW]
 | g::gs,F=>by
  rw[J7,Gg,vw,vw];refine d0z fun x _ _=>?_
  rw[p0m n gs,<- p0n];unfold z0T;rw[Ds];exact e0q fun xs _ _=>by rw[prW];exact (G8 _ _ _).symm
def q0k (n:Nat)(gs:List (Int->Nat)):z0a n gs=vw n (List.replicate gs.length z0T) (prW gs):=by
 unfold z0a;rw[p0m];exact e0q fun xs _ _=>Fq _
def b0W {w w':World}(h:Below w.heap.size w w')(row:Option Nat):w.grownBy w' row:=⟨h.os,h.tape,h.output,h.size,fun k hk _=>h.block k hk⟩
def b0j (w:World)(v u:Value)(a b:Nat)(ha:IsN .i64 w v a)(hb:IsN .i64 w u b):
 Calls Tryz.prog 137 #[v,u] w fun e w'=>e=.returned (.int .i64 (b0e a b))/\Below w.heap.size w w':=by
 obtain⟨a1,c1,rfl,h1,h2,h3⟩:=ha.openI;obtain⟨a2,c2,rfl,k1,k2,k3⟩:=hb.openI;obtain⟨H3,K3⟩:=zg h3 k3;clear h3 k3 ha hb;by_cases hne:(limbs a).length=(limbs b).length
 .obtain⟨n,ea⟩:=gn ((limbs a).length);have eb:(limbs b).length=n:=hne.symm.trans ea;rw[ea]at h1 |-;rw[eb]at k1 |-;obtain⟨HA,HB⟩:=zg ea eb;clear hne ea eb;go_enter Tryz.func137,Tryz.ntmps137;go_wp2_with fail
  go_loopw [5] (fun i wr=>∃ (k:Nat) (t:Int),k<=n/\i=.int .i64 t/\t=(k:Int)-1/\Hid ((limbs a).drop k=(limbs b).drop k)/\Hid (Below w.heap.size w wr)) (fun i _=>(intOf i+1).toNat)
  case atStart=>exact⟨n,_,Z3 _,rfl,rfl,by rw[Hid,Be (by rw[HA.out];exact Z3 _),Be (by rw[HB.out];exact Z3 _)],J3 _ _⟩
  case round=>
   obtain⟨k,t,hk,rfl,ht,hd,hB⟩:=hrel;cases k with
   | zero=>
    obtain rfl:t = -1:=by omega
    clear ht;go_wp2_with fail;go_ret
    have:a=b:=e0J hd.out;subst this;exact⟨a0Q c0K.symm,hB.out⟩
   | succ k=>
    obtain rfl:t=(k:Int):=by omega
    clear ht;obtain⟨x,hx⟩:∃ x,(limbs a)[k]?=some x:=⟨_,J0 (by rw[HA.out];omega)⟩;obtain⟨y,hy⟩:∃ y,(limbs b)[k]?=some y:=⟨_,J0 (by rw[HB.out];omega)⟩;obtain⟨g,o,rfl,hg,hc⟩:=H3.out k x hx;obtain⟨g',o',rfl,hg',hc'⟩:=K3.out k y hy;have d1:=(hB.out.cell (p:=⟨g,o+k,none⟩) hg).trans hc;have d2:=(hB.out.cell (p:=⟨g',o'+k,none⟩) hg').trans hc';obtain⟨HX,HY⟩:=zg hx hy;clear hx hy hc hc';have b1:(0:Int)<=(k:Int):=by omega
    have b2:(k:Int)<(n:Int):=by omega
    rcases Gd x y with hlt | heq | hgt
    .have q1:decide (x<y)=true:=by simpa using hlt
     go_wp2_with fail;go_quiet (fail)
     go_wp2_with fail;go_ret
     exact⟨a0Q (b0H (e0F (HA.out.trans HB.out.symm) HX.out HY.out hd.out hlt)).symm,a0m hB.out _⟩
    .have q1:decide (x<y)=false:=by simp;omega
     go_wp2_with fail;go_quiet (fail)
     go_wp2_with fail;go_quiet (fail)
     go_wp2_with fail;go_roundw
     case rel=>exact⟨k,_,by omega,rfl,rfl,f0D HX.out (by rw[HY.out,heq]) hd.out,a0m hB.out _⟩
     case measure=>simp[intOf]<;>omega
    .have q1:decide (x<y)=false:=by simp;omega
     go_wp2_with fail;go_quiet (fail)
     go_wp2_with fail;go_quiet (fail)
     go_wp2_with fail;go_ret
     exact⟨a0Q (c0j (e0F (HB.out.trans HA.out.symm) HY.out HX.out hd.out.symm hgt)).symm,a0m (a0m hB.out _) _⟩
 .rcases My hne with hlt | hgt
  .have HL:=hid (c0E hlt);have q0:(((limbs a).length:Int) != ((limbs b).length:Int))=true:=by simp;omega
   have q1:decide ((limbs a).length<(limbs b).length)=true:=by simpa using hlt
   clear hne;go_enter Tryz.func137,Tryz.ntmps137;go_wp2_with fail;go_ret
   exact⟨a0Q (b0H HL.out).symm,J3 _ _⟩
  .have HL:=hid (c0E hgt);have q0:(((limbs a).length:Int) != ((limbs b).length:Int))=true:=by simp;omega
   have q1:decide ((limbs a).length<(limbs b).length)=false:=by simp;omega
   clear hne;go_enter Tryz.func137,Tryz.ntmps137;go_wp2_with fail;go_ret
   exact⟨a0Q (c0j HL.out).symm,J3 _ _⟩
def Kl:=@Go.Proofs.Tryz.underlying79
def d0J (n:Nat)(hn:n<=3000000)(W:World):(Instr.makeSlice 79 (.int .i64 (n:Int)) (.int .i64 (n:Int))).run Tryz.prog W=.ok (.slice (some ⟨W.heap.size,0,none⟩) n n) (W.alloc (.cells (madeCells #[.int .i64 0] n) 3)):=
 Lu (P:=Tryz.prog) 79 3 (.int .i64 0) 8 Kl (by kernel_rfl) rfl .i64 .i64 n (by omega) (by omega) W
def b0n (w:World)(v u:Value)(a b:Nat)(ha:IsN .i64 w v a)(hb:IsN .i64 w u b)(hla:(limbs a).length<=1000000)(hlb:(limbs b).length<=1000000):
 Calls Tryz.prog 176 #[v,u] w fun e w'=>h0H .i64 (a*b) e w'/\Below w.heap.size w w':=by
 obtain⟨a1,c1,rfl,h1,h2,h3⟩:=ha.openI;obtain⟨a2,c2,rfl,k1,k2,k3⟩:=hb.openI;obtain⟨H3,K3⟩:=zg h3 k3;clear h3 k3 ha hb;obtain⟨n,ea⟩:=gn ((limbs a).length);obtain⟨m,eb⟩:=gn ((limbs b).length);rw[ea]at h1 hla |-;rw[eb]at k1 hlb |-;obtain⟨HA,HB⟩:=zg ea eb;clear ea eb;have hmk:∀ W:World,(Instr.makeSlice 79 (.int .i64 ((n:Int)+m)) (.int .i64 ((n:Int)+m))).run Tryz.prog W=.ok (.slice (some ⟨W.heap.size,0,none⟩) (n+m) (n+m)) (W.alloc (.cells (madeCells #[.int .i64 0] (n+m)) 3)):=fun W=>by
  have:=d0J (n+m) (by omega) W;rwa[Gj]at this
 go_enter Tryz.func176,Tryz.ntmps176;go_wp2_with fail;clear hmk
 go_loopw [6] (fun i wr=>∃ (k:Nat) (o:List Nat),i=.int .i64 k/\k<=n/\Hid (MulI a b k o)/\Hid (Arr .i64 3 wr w.heap.size o)/\Hid (Below w.heap.size w wr)) (fun i _=>n-(intOf i).toNat)
 case atStart=>exact⟨0,_,rfl,J5 _,MulI.start a b,by rw[HA.out,HB.out];exact Arr.made w .i64 3 (n+m),br0.alloc nr _⟩
 case round=>
  obtain⟨i,o,rfl,hin,hM,hO,hB⟩:=hrel;by_cases hlt:i<n
  .obtain⟨x,hx⟩:∃ x,(limbs a)[i]?=some x:=⟨_,J0 (by rw[HA.out];exact hlt)⟩;obtain⟨g,og,rfl,hg,hc⟩:=H3.out _ x hx;obtain⟨HX,HC⟩:=zg hx hc;clear hx hc;have hsize:=hid (show o.length=n+m from by rw[hM.out.len,HA.out,HB.out]);go_wp2_with fail;obtain⟨wo,rfl⟩:∃ wo:World,wo=wr:=⟨_,rfl⟩
   go_loopw [7,8,9] (fun cc kk nn wq=>∃ (c k:Nat) (o:List Nat),cc=.int .i64 c/\kk=.int .i64 k/\k<=m/\Hid (MulJ a b i x k c o)/\Hid (Arr .i64 3 wq w.heap.size o)/\Hid (Below w.heap.size w wq)) (fun _ kk _ _=>m-(intOf kk).toNat)
   case atStart=>exact⟨0,0,o,rfl,rfl,J5 _,hM.out.enter,hO,hB⟩
   case round=>
    obtain⟨c,k,o,rfl,rfl,hkm,hJ,hO,hB⟩:=hrel;have hsz:Hid (o.length=n+m):=by rw[Hid,hJ.out.len,HA.out,HB.out]
    by_cases hkl:k<m
    .obtain⟨y,hy⟩:∃ y,(limbs b)[k]?=some y:=⟨_,J0 (by rw[HB.out];exact hkl)⟩;obtain⟨g',og',rfl,hg',hd⟩:=K3.out _ y hy;obtain⟨old,ho⟩:∃ old,o[i+k]?=some old:=⟨_,J0 (by rw[hsz.out];omega)⟩;have d1:=(hB.out.cell (p:=⟨g,og+i,none⟩) hg).trans HC.out;have d2:=(hB.out.cell (p:=⟨g',og'+k,none⟩) hg').trans hd;have d3:=hO.out.cell ho;have d4:=hO.out.free (i+k);have hb1:=d0q (hJ.out.sm.get ho) ((a0p a).get HX.out) ((a0p b).get hy) hJ.out.c1;have HN:=hid (hJ.out.next HX.out hy ho);have hol:=hJ.out.sm.get ho;have hcl:=hJ.out.c1;have HP:=hid (show ((x:Int)*(y:Int))=((x*y:Nat):Int) from (Dl x y).symm);obtain⟨p,hp⟩:=gn (x*y);rw[hp]at hb1 HN HP;have hb1:=hb1.1;clear hd hy ho hp;have e1:(0:Int)<=(i:Int)+k:=by omega
     have e2:(i:Int)+k<(n:Int)+m:=by omega
     have f1:(0:Int)<=(i:Int):=by omega
     have f2:(i:Int)<(n:Int):=by omega
     have f3:(0:Int)<=(k:Int):=by omega
     have f4:(k:Int)<(m:Int):=by omega
     have e3:IntKind.i64.wrap ((i:Int)+k)=(i:Int)+k:=O0 _ (by omega);have e4:((i:Int)+k).toNat=i+k:=by omega
     have e5:IntKind.i64.wrap ((x:Int)*(y:Int))=(p:Int):=by rw[HP.out];exact O0 _ (by omega)
     have e6:IntKind.i64.wrap ((old:Int)+(p:Int))=(old:Int)+(p:Int):=O0 _ (by omega);have e7:IntKind.i64.wrap ((old:Int)+(p:Int)+(c:Int))=(old:Int)+(p:Int)+(c:Int):=O0 _ (by omega);go_wp2_with fail;go_quiet (fail)
     clear e3 e4 e5 e6 e7;go_wp2_with fail;go_roundw
     case rel=>
      have hz:(((old:Int)+p+c)%1000000000)=(((old+p+c)%1000000000:Nat):Int):=by omega
      rw[hz];exact⟨(old+p+c) / 1000000000,k+1,_,by go_num,by go_num,by omega,HN,(hO.out.drewN _).set (i+k) _,a0W (a0m hB.out _) nr _⟩
     case measure=>simp[intOf]<;>omega
    .obtain rfl:k=m:=by omega
     have HJ:=hid (show MulI a b (i+1) (o.set (i+k) c) from by have:=hJ.out;rw[<- HB.out]at this |-;exact this.leave HX.out);obtain⟨z,hz⟩:∃ z,o[i+k]?=some z:=⟨_,J0 (by rw[hsz.out];omega)⟩;have d3:=hO.out.cell hz;have d4:=hO.out.free (i+k);clear hz;go_wp2_with fail;go_roundw
     case rel=>exact⟨i+1,_,by go_num,by omega,HJ,hO.out.set (i+k) c,a0W hB.out nr _⟩
     case measure=>simp[intOf]<;>omega
  .obtain rfl:i=n:=by omega
   obtain⟨hv,hl⟩:=zg (show val o=a*b from MulI.done (by have:=hM.out;rw[<- HA.out]at this;exact this)) (show o.length=i+m from by rw[hM.out.len,HA.out,HB.out])
   have hr:=hid (show Row wr (.slice (some ⟨w.heap.size,0,none⟩) (i+m) (i+m)) (b0q .i64 o) from by
    have:=hO.out.row (n:=i+m) (c:=i+m) (by rw[hl.out];exact Z3 _) nr (by unfold maxLen;omega);rwa[Z6 (by rw[hl.out];exact Z3 _)]at this)
   go_wp2_with (go_at_call 222;refine (l0q _ _ o hM.out.sm hr.out).mono ?_;rintro e w1 ⟨⟨v1,rfl,hv1⟩,rfl⟩)
   go_ret
   exact⟨⟨v1,rfl,by rw[<- hv.out];exact hv1⟩,hB.out⟩
def d0H (w:World)(s:ByteArray)(hd:allDig s.data.toList)(hs:s.size<=1000000):
 Calls Tryz.prog 151 #[.string s] w fun e w'=>RetFr w.heap.size .i64 (dv s.data.toList) e w'/\Below w.heap.size w w':=by
 obtain⟨i0,hi,hz0,hz1,hz2⟩:=Cl j0g;have HD:=hid hd;clear hd;have hsl:=hid (show s.data.toList.length=s.size from by simp);go_enter Tryz.func151,Tryz.ntmps151;go_wp2_with fail
 go_loopw [3,4,5,6] (fun o ee nn ii wr=>∃ (l:List Nat) (t:Int) (e:Nat),ee=.int .i64 t/\t<=s.size /\ -9<t/\e=t.toNat/\l.length<=s.size/\l.length+e<=s.size/\Hid (ReadI s.data.toList e l)/\Hid (wr.ownsRow w.heap.size 3 1 o l.length (b0q .i64 l))/\Hid (Below w.heap.size w wr))
  (fun _ ee _ _ _=>(intOf ee).toNat)
 case atStart=>exact⟨[],_,s.size,rfl,by omega,by omega,by simp,by simp,by simp,by have:=ReadI.start s.data.toList;rw[hsl.out]at this;exact this,Ba _ _ _ _,J3 _ _⟩
 case round=>
  obtain⟨l,t,e,rfl,ht1,ht2,he,hl1,hl2,hR,hO,hB⟩:=hrel;obtain⟨ao,co,rfl⟩:=b0k hO.out;by_cases h0:e=0
  .have q0:decide ((0:Int)<t)=false:=by simp;omega
   subst h0;have hv:=hid hR.out.done;clear he;go_wp2_with fail;refine (c0O _ _ _ l hR.out.sm (Row.of_owns hO.out)).mono ?_;rintro e w1 ⟨⟨m,rfl,hv1⟩,rfl⟩;go_wp2_with fail;go_ret
   refine⟨⟨_,rfl,by rw[<- hv.out];exact hv1,fun g hg=>(hO.out.lt g ?_).1⟩,hB.out⟩;cases ao with
   | none=>simp[Value.ownBlock]at hg
   | some ad=>simpa[Value.ownBlock]using hg
  .obtain rfl:t=(e:Int):=by omega
   clear he;have q0:decide ((0:Int)<(e:Int))=true:=by simp;omega
   obtain⟨L,hL⟩:=gn (s.data.toList);obtain⟨s0,hs0⟩:∃ s0,s0=e-9:=⟨_,rfl⟩;have HS0:=hid hs0;have h3:s0<=e:=by omega
   have h4:e<=s0+9:=by omega
   have hI:(9<e/\(e:Int)-9=(s0:Int))\/(e<=9/\(0:Int)=(s0:Int)):=by omega
   clear hs0;rcases hI with ⟨h9,hse⟩ | ⟨h9,hse⟩
   all_goals
    have HSE:=hid hse;clear hse;go_wp2_with fail
    go_loop [5,6] (fun nn ii=>∃ (i x:Nat),ii=.int .i64 i/\nn=.int .i64 x/\s0<=i/\i<=e/\x<1000000000/\Hid (x=dv ((L.drop s0).take (i-s0)))) (fun _ ii=>e-(intOf ii).toNat)
    case atStart=>exact⟨s0,0,by have hh:=HSE.out;first | (rw[<- hh];done) | (congr 1;omega),rfl,Z3 _,h3,by omega,by simp[Hid]⟩
    case round=>
     obtain⟨i,x,rfl,rfl,hi1,hi2,hx,hxd⟩:=hrel;by_cases hlt:i<e
     .have hsz:i<s.size:=by omega
      have hb:=c0G hsz;rw[hL]at hb;have hdig:=a0U.1 (HD.out s[i] (E7 (by rw[hL];exact hb)));have hd1:=hdig.1;have hd2:=hdig.2;obtain⟨hcs,hlt9⟩:=zg (o0W hb hi1) (n0u (L:=L) (a:=s0) (k:=i+1-s0) (by rw[<- hL];exact HD.out) (by omega));clear hb hdig;go_wp2_with fail;go_round
      case rel=>
       refine⟨i+1,10*x+(s[i].toNat-48),by go_num,?_,by omega,by omega,?_,?_⟩
       .congr 1;omega
       .have:=hlt9.out;rw[hcs.out,<- hxd.out]at this;exact this
       .rw[Hid,hcs.out,<- hxd.out]
      case measure=>simp[intOf]<;>omega
     .obtain rfl:i=e:=by omega
      have HN:=hid (hR.out.next HD.out);rw[hL,<- HS0.out,<- hxd.out]at HN;go_wp2_with (at_builtin;refine Bo _ rfl _ _ 79 rfl w.heap.size 3 i0 (.int .i64 0) 1 8 Kl hi hz0 hz1 hz2 rfl (by decide) _ l.length _ rfl (hO.out.alloc _) ⟨wr.heap.size,0,none⟩ 1 1 [.int .i64 (x:Int)] rfl rfl (Eh wr (.int .i64 (x:Int)) 3) (by simp[Value.oneCell']) (by unfold maxLen;omega) (by omega) (by have:=hB.out.size;simp;omega) ?_;intro v' w3 hown3 hgrow3 _;have HO3:=hid hown3;have HG3:=hid hgrow3;clear hown3 hgrow3)
      obtain⟨n1,n2⟩:=e0D hO.out hB.out HO3.out HG3.out;obtain⟨N1,N2⟩:=zg n1 n2;clear n1 n2 HO3 HG3;obtain⟨a3,k3,rfl⟩:=b0k N1.out;have hS:=HS0.out;go_wp2_with fail;go_roundw
      case rel=>exact⟨l ++ [x],_,s0,rfl,by omega,by omega,by omega,by simp<;>omega,by simp<;>omega,by rw[hL];exact HN,N1,N2⟩
      case measure=>simp[intOf]<;>omega
def w0Z (w:World)(s:ByteArray)(hd:allDig s.data.toList)(hs:s.size<=1000000):
 Calls Tryz.prog 151 #[.string s] w fun e w'=>h0H .i64 (dv s.data.toList) e w'/\Below w.heap.size w w':=(d0H w s hd hs).mono fun e w' h=>⟨h.1.ret,h.2⟩
open Go.Lib (decDigits nDigits)
def o0t (n:Nat)(hn:n<=100000000)(W:World):(Instr.makeSlice 210 (.int .i64 (n:Int)) (.int .i64 (n:Int))).run Tryz.prog W=.ok (.slice (some ⟨W.heap.size,0,none⟩) n n) (W.alloc (.cells (madeCells #[.int .u8 0] n) 5)):=
 Lu (P:=Tryz.prog) 210 5 (.int .u8 0) 1 Dh (by kernel_rfl) rfl .i64 .i64 n (by omega) (by omega) W
def i0H (w:World)(v:Value)(h:IsN .i64 w v 0):Calls Tryz.prog 154 #[v] w fun e w'=>e=.returned (s0K 0)/\Below w.heap.size w w':=by
 obtain⟨a,c,rfl,_⟩:=h.openI;have hl:(limbs 0).length=0:=by rw[limbs_zero];rfl
 rw[hl];have e:s0K 0=.string ⟨#[48]⟩:=by rw[s0K,c0b]
 have E:=hid e;clear h hl e;go_enter Tryz.func154,Tryz.ntmps154;go_wp2_with fail;go_ret
 exact⟨by rw[E.out];rfl,J3 _ _⟩
def k0l (w:World)(v:Value)(n:Nat)(h:IsN .i64 w v n)(h0:0<n)(hl:(limbs n).length<=1000000):Calls Tryz.prog 154 #[v] w fun e w'=>e=.returned (s0K n)/\Below w.heap.size w w':=by
 obtain⟨a,c,rfl,h1,h2,h3⟩:=h.openI;have H3:=hid h3;clear h3 h;obtain⟨L,hL⟩:=gn ((limbs n).length);have hLp:0<L:=by rw[<- hL];exact Ea.2 (fun e=>by have:=b0O.1 e;omega)
 rw[hL]at h1 hl |-;have HL:=hid hL;clear hL;have q0:((L:Int)==0)=false:=by simp;omega
 have hmk:∀ W:World,(Instr.makeSlice 210 (.int .i64 (9*(L:Int))) (.int .i64 (9*(L:Int)))).run Tryz.prog W=.ok (.slice (some ⟨W.heap.size,0,none⟩) (9*L) (9*L)) (W.alloc (.cells (madeCells #[.int .u8 0] (9*L)) 5)):=fun W=>by
  have:=o0t (9*L) (by omega) W;rwa[Dl]at this
 go_enter Tryz.func154,Tryz.ntmps154;go_wp2_with fail;clear hmk q0
 go_loopw [4,5,6] (fun ii nn kk wr=>∃ (i:Nat) (bs:List UInt8),ii=.int .i64 i/\i<=L/\Hid (WrI n i bs)/\Hid (BArr 5 wr w.heap.size bs)/\Hid (Below w.heap.size w wr)) (fun ii _ _ _=>L-(intOf ii).toNat)
 case atStart=>exact⟨0,_,rfl,J5 _,WrI.start n,by rw[HL.out];exact BArr.made w 5 (9*L),br0.alloc nr _⟩
 case round=>
  obtain⟨i,bs,rfl,hi,hW,hO,hB⟩:=hrel;by_cases hlt:i<L
  .obtain⟨x,hx⟩:∃ x,(limbs n)[L-1-i]?=some x:=⟨_,J0 (by rw[HL.out];omega)⟩;obtain⟨g,o,rfl,hg,hc⟩:=H3.out _ x hx;have d1:=(hB.out.cell (p:=⟨g,o+(L-1-i),none⟩) hg).trans hc;have hxl:=(a0p n).get hx;have HX:=hid hx;clear hx hc;go_wp2_with fail
   go_loopw [5,6] (fun nn kk wq=>∃ (k y:Nat) (t:Int) (bs:List UInt8),nn=.int .i64 y/\kk=.int .i64 t/\t=(k:Int)-1/\k<=9/\y<1000000000/\Hid (WrJ n i x k y bs)/\Hid (BArr 5 wq w.heap.size bs)/\Hid (Below w.heap.size w wq)) (fun _ kk _=>(intOf kk+1).toNat)
   case atStart=>exact⟨9,x,_,bs,rfl,rfl,by omega,by omega,hxl,hW.out.enter,hO,hB⟩
   case round=>
    obtain⟨k,y,t,bs2,rfl,rfl,ht,hk,hy,hJ,hO2,hB2⟩:=hrel;have hbl:=hid (show bs2.length=9*L from by rw[hJ.out.len,HL.out]);cases k with
    | zero=>
     obtain rfl:t = -1:=by omega
     clear ht;have HN:=hid (hJ.out.leave (by rw[HL.out];exact HX.out) (by rw[HL.out];exact hlt));go_wp2_with fail;go_roundw
     case rel=>exact⟨i+1,bs2,by go_num,by omega,HN,hO2,hB2⟩
     case measure=>simp[intOf]<;>omega
    | succ k=>
     obtain rfl:t=(k:Int):=by omega
     clear ht;have HN:=hid (hJ.out.next (by omega) (by rw[HL.out];exact hlt));obtain⟨z,hz⟩:∃ z,bs2[9*i+k]?=some z:=⟨_,J0 (by rw[hbl.out];omega)⟩;have d3:=hO2.out.cell hz;have d4:=hO2.out.free (9*i+k);clear hz;go_wp2_with fail;go_roundw
     case rel=>
      refine⟨k,y / 10,_,bs2.set (9*i+k) (UInt8.ofNat (48+y%10)),by go_num,rfl,by omega,by omega,by omega,HN,?_,a0W hB2.out nr _⟩;have hz:(48+(y:Int)%10)=((UInt8.ofNat (48+y%10)).toNat:Int):=by rw[b0x (by omega)];omega
      rw[hz];exact hO2.out.set _ _
     case measure=>simp[intOf]<;>omega
  .obtain rfl:i=L:=by omega
   obtain⟨hdig,hval⟩:=WrI.done (by have:=hW.out;rw[<- HL.out]at this;exact this);obtain⟨HD,HV,hbl⟩:=zc hdig hval (show bs.length=9*i from by rw[hW.out.len,HL.out]);clear hdig hval;go_wp2_with fail
   go_loop [3] (fun b=>∃ r:Nat,r+1<=9*i/\b=.slice (some ⟨w.heap.size,r,none⟩) (9*i-r) (9*i-r)/\Hid (dv (bs.drop r)=n)) (fun b=>match b with | .slice _ m _=>m | _=>0)
   case atStart=>exact⟨0,by omega,rfl,by rw[Hid,A9];exact HV.out⟩
   case round=>
    obtain⟨r,hr,rfl,hv⟩:=hrel;obtain⟨z,hz⟩:∃ z,bs[r]?=some z:=⟨_,J0 (by rw[hbl.out];omega)⟩;have d3:=hO.out.cell hz;obtain⟨m,hm⟩:∃ m,m=9*i-r:=⟨_,rfl⟩;rw[<- hm];have hm1:1<=m:=by omega
    have hm9:m<=9000000:=by omega
    have HM:=hid hm;by_cases hgo:1<m/\z=48
    .obtain⟨g1,rfl⟩:=hgo;have q1:decide ((1:Int)<(m:Int))=true:=by simp;omega
     have HN:=hid (k0J hz);clear hz hm;go_wp2_with fail;go_round
     case rel=>exact⟨r+1,by have:=HM.out;omega,by rw[show 9*i-(r+1)=m-1 by have:=HM.out;omega],by rw[Hid,HN.out];exact hv.out⟩
     case measure=>simp;omega
    .have hfin:=hid (n0P HD.out hv.out (by rw[hbl.out];omega) (by
      rw[hbl.out];by_cases h1:1<m
      .right
       rw[hz];intro e;injection e with e
       exact hgo ⟨h1,e⟩
      .left;omega))
     have hcv:(convert 210 9 (.slice (some ⟨w.heap.size,r,none⟩) m m)).run Tryz.prog wr=.ok (s0K n) wr:=by
      have hlen:(bs.drop r).length=m:=by rw[S9,hbl.out,hm]
      have:=Go.run_convert_bytes_back (P:=Tryz.prog) wr 210 9 5 ⟨w.heap.size,r,none⟩ m (bs.drop r) Dh Bn Aq (fun j hj=>by
       rw[Addr.add_lit];refine hO.out.cell ?_;have h2:r+j<bs.length:=by rw[hlen]at hj;rw[hbl.out];omega
       rw[J0 h2,List.getElem_drop])
      rw[hlen,hfin.out]at this;exact this
     by_cases h1:1<m
     .have q1:decide ((1:Int)<(m:Int))=true:=by simp;omega
      have q2:((z.toNat:Int)==48)=false:=by
       rw[U4];intro e;refine hgo ⟨h1,?_⟩;have:z.toNat=(48:UInt8).toNat:=by simp;omega
       exact Em.1 this
      clear hz hm hgo h1;go_wp2_with fail;go_ret
      exact⟨rfl,hB.out⟩
     .obtain rfl:m=1:=by omega
      clear hz hm hgo h1;go_wp2_with fail;go_ret
      exact⟨rfl,hB.out⟩
def Kx:=@Go.ByteArray.toList_eq
def g0a (w:World)(s:ByteArray)(hs:s.size<=9223372036854775807):Calls Tryz.prog 243 #[.string s] w fun e w'=>e=.returned (.int .i64 (c0h s.data.toList))/\w=w':=by
 have hsl:=hid (show s.data.toList.length=s.size from by simp);by_cases h0:s.size=0
 .have hnil:s.data.toList = []:=Ag (by rw[hsl.out,h0]);obtain rfl:s=⟨#[]⟩:=by
   cases s with
   | mk d=>simp at hnil;rw[hnil]
  clear hsl h0 hnil hs;go_enter Tryz.func243,Tryz.ntmps243;go_wp2_with fail;go_ret
  exact⟨a0Q (by rw[e0Q];exact fun h=>h.1 rfl),rfl⟩
 .have hpos:0<s.size:=by omega
  have hne:s.data.toList.isEmpty=false:=by
   rw[List.isEmpty_eq_false_iff];intro e;have:=hsl.out;rw[e]at this;simp at this;omega
  have hn2:s.toList.isEmpty=false:=by rw[Kx];exact hne
  have hb0:=hid (c0G hpos);clear hne;by_cases hz:s[0]=48/\1<s.size
  .have q1:((s[0].toNat:Int)==48)=true:=by rw[hz.1];rfl
   have q2:decide ((1:Int)<(s.size:Int))=true:=by simp;omega
   have hbad:=hid (show ¬ c0S s.data.toList from fun h=>by
    rcases h.2.1 with h1 | h1
    .have:=congrArg List.length h1;rw[hsl.out]at this;simp at this;omega
    .rw[List.head?_eq_getElem?,hb0.out,hz.1]at h1;exact h1 rfl)
   clear hz;go_enter Tryz.func243,Tryz.ntmps243;go_wp2_with fail;go_ret
   exact⟨a0Q (by rw[e0Q hbad.out]),rfl⟩
  .have hform:allDig s.data.toList->c0S s.data.toList:=fun hd=>by
    refine⟨fun e=>by have:=hsl.out;rw[e]at this;simp at this;omega,?_,hd⟩;by_cases h48:s[0]=48
    .left
     have h1:s.data.toList.length=1:=by
      have:¬ 1<s.size:=fun h=>hz ⟨h48,h⟩
      rw[hsl.out];omega
     match hm:s.data.toList,h1 with
     | [c],_=>
      have:=hb0.out;rw[hm]at this;simp at this;rw[this,h48]
    .right
     rw[List.head?_eq_getElem?,hb0.out];simpa using h48
   have HF:=hid hform;have hI:(((s[0].toNat:Int)==48)=false/\decide ((1:Int)<(s.size:Int))=decide ((1:Int)<(s.size:Int)))\/(((s[0].toNat:Int)==48)=true/\decide ((1:Int)<(s.size:Int))=false):=by
    by_cases h48:s[0]=48
    .right
     have:¬ 1<s.size:=fun h=>hz ⟨h48,h⟩
     refine⟨by rw[h48];rfl,by simp;omega⟩
    .left
     refine⟨?_,rfl⟩;rw[U4];intro e;refine h48 ?_;have:s[0].toNat=(48:UInt8).toNat:=by simp;omega
     exact Em.1 this
   clear hform hz;rcases hI with ⟨q1,-⟩ | ⟨q1,q2⟩
   all_goals
    go_enter Tryz.func243,Tryz.ntmps243;go_wp2_with fail;clear q1
    go_loop [3] (fun ii=>∃ i:Nat,ii=.int .i64 i/\i<=s.size/\Hid (∀ (j:Nat) (b:UInt8),j<i->s.data.toList[j]?=some b->h0D b=true)) (fun ii=>s.size-(intOf ii).toNat)
    case atStart=>exact⟨0,rfl,J5 _,fun j b hj=>absurd hj (by omega)⟩
    case round=>
     obtain⟨i,rfl,hi,hI⟩:=hrel;by_cases hlt:i<s.size
     .have hb:=hid (c0G hlt);have hbad:¬ h0D s[i]=true->¬ c0S s.data.toList:=fun h hf=>h (hf.2.2 _ (E7 hb.out))
      by_cases c1:s[i].toNat<48
      .have q1:decide ((s[i].toNat:Int)<48)=true:=by simp;omega
       have hB:=hid (hbad (fun e=>by have:=a0U.1 e;omega));clear hbad c1;go_wp2_with fail;go_ret
       exact⟨a0Q (by rw[e0Q hB.out]),rfl⟩
      .by_cases c2:57<s[i].toNat
       .have q1:decide ((s[i].toNat:Int)<48)=false:=by simp;omega
        have q2:decide ((57:Int)<(s[i].toNat:Int))=true:=by simp;omega
        have hB:=hid (hbad (fun e=>by have:=a0U.1 e;omega));clear hbad c1 c2;go_wp2_with fail;go_ret
        exact⟨a0Q (by rw[e0Q hB.out]),rfl⟩
       .have q1:decide ((s[i].toNat:Int)<48)=false:=by simp;omega
        have q2:decide ((57:Int)<(s[i].toNat:Int))=false:=by simp;omega
        have hD:=hid (a0U.2 (show 48<=s[i].toNat/\s[i].toNat<=57 by omega));clear hbad c1 c2;go_wp2_with fail;go_round
        case rel=>exact⟨i+1,by go_num,by omega,fun j b hj hjb=>by
         by_cases e:j=i
         .subst e;have:=hb.out;rw[hjb]at this;cases this;exact hD.out
         .exact hI.out j b (by omega) hjb⟩
        case measure=>simp[intOf]<;>omega
     .obtain rfl:i=s.size:=by omega
      have hF:=hid (HF.out fun b hb=>by
       obtain⟨j,hj⟩:=Da hb;exact hI.out j b (by have:=(O4.1 hj).1;rw[hsl.out]at this;exact this) hj)
      by_cases hlong:4000<s.size
      .have q3:decide ((4000:Int)<(s.size:Int))=true:=by simp;omega
       have HL:=hid hlong;clear hlong;go_wp2_with fail;go_ret
       exact⟨a0Q (by rw[k0E hF.out (by rw[hsl.out];exact HL.out)]),rfl⟩
      .have q3:decide ((4000:Int)<(s.size:Int))=false:=by simp;omega
       have HL:=hid hlong;clear hlong;go_wp2_with fail;go_ret
       exact⟨a0Q (by rw[f0o hF.out (by rw[hsl.out];exact HL.out)]),rfl⟩
def a0P (w:World)(v:Value)(n:Nat)(h:IsN .i64 w v n)(hl:(limbs n).length<=1000000):Calls Tryz.prog 154 #[v] w fun e w'=>e=.returned (s0K n)/\Below w.heap.size w w':=by
 rcases H7 n with rfl | h0
 .exact i0H w v h
 .exact k0l w v n h h0 hl
def b0U (w:World)(a:Nat)(h:nDigits a<=9000):Calls Tryz.prog 151 #[.string (a0g a)] w fun e w'=>h0H .i64 a e w'/\Below w.heap.size w w':=by
 have:=w0Z w (a0g a) (by rw[a0x];exact b0l a) (by rw[a0t];omega);rwa[a0x,f0C]at this
def c0B (w:World)(a:Nat)(h:nDigits a<=9000):Calls Tryz.prog 151 #[.string (a0g a)] w fun e w'=>RetFr w.heap.size .i64 a e w'/\Below w.heap.size w w':=by
 have:=d0H w (a0g a) (by rw[a0x];exact b0l a) (by rw[a0t];omega);rwa[a0x,f0C]at this
def y0w (w:World):(convert 21 9 (.int .i32 48)).run Tryz.prog w=.ok (.string ⟨#[48]⟩) w:=by kernel_rfl
def y0v (w:World):(convert 21 9 (.int .i32 49)).run Tryz.prog w=.ok (.string ⟨#[49]⟩) w:=by kernel_rfl
def y0u (w:World):(convert 21 9 (.int .i32 50)).run Tryz.prog w=.ok (.string ⟨#[50]⟩) w:=by kernel_rfl
def y0t (w:World):(convert 21 9 (.int .i32 51)).run Tryz.prog w=.ok (.string ⟨#[51]⟩) w:=by kernel_rfl
def y0s (w:World):(convert 21 9 (.int .i32 52)).run Tryz.prog w=.ok (.string ⟨#[52]⟩) w:=by kernel_rfl
def y0r (w:World):(convert 21 9 (.int .i32 53)).run Tryz.prog w=.ok (.string ⟨#[53]⟩) w:=by kernel_rfl
def y0q (w:World):(convert 21 9 (.int .i32 54)).run Tryz.prog w=.ok (.string ⟨#[54]⟩) w:=by kernel_rfl
def y0p (w:World):(convert 21 9 (.int .i32 55)).run Tryz.prog w=.ok (.string ⟨#[55]⟩) w:=by kernel_rfl
def y0o (w:World):(convert 21 9 (.int .i32 56)).run Tryz.prog w=.ok (.string ⟨#[56]⟩) w:=by kernel_rfl
def y0n (w:World):(convert 21 9 (.int .i32 57)).run Tryz.prog w=.ok (.string ⟨#[57]⟩) w:=by kernel_rfl
def o0T (d:Nat)(h:d<10)(w:World):(convert 21 9 (.int .i32 (((48+d:Nat)):Int))).run Tryz.prog w=.ok (.string ⟨[UInt8.ofNat (48+d)].toArray⟩) w:=by
 obtain rfl | rfl | rfl | rfl | rfl | rfl | rfl | rfl | rfl | rfl:d=0\/d=1\/d=2\/d=3\/d=4\/d=5\/d=6\/d=7\/d=8\/d=9:=by omega
 .exact y0w w
 .exact y0v w
 .exact y0u w
 .exact y0t w
 .exact y0s w
 .exact y0r w
 .exact y0q w
 .exact y0p w
 .exact y0o w
 .exact y0n w
def h0T (w:World)(n:Nat)(h:n<=9223372036854775807):Calls Tryz.prog 149 #[.int .i64 n] w fun e w'=>e=.returned (.tuple #[s0K n,.int .i64 0])/\w=w':=by
 have hd20:=hid (show nDigits n<=19 from a0j (by omega) (by omega));go_enter Tryz.func149,Tryz.ntmps149;go_wp2_with fail
 go_loop [0,4] (fun nn ss=>∃ (m:Nat) (l:List UInt8),nn=.int .i64 m/\m<=9223372036854775807/\ss=.string ⟨l.toArray⟩/\l.length<=19/\Hid (decDigits n=decDigits m++l)) (fun nn _=>(intOf nn).toNat)
 case atStart=>exact⟨n,[],rfl,h,rfl,by simp,by simp[Hid]⟩
 case round=>
  obtain⟨m,l,rfl,hm,rfl,hl,hd⟩:=hrel;have hc:=o0T (m%10) (by omega);have hz:(((48+m%10:Nat)):Int)=48+(m:Int)%10:=by omega
  rw[hz]at hc;by_cases h9:9<m
  .have q1:decide ((9:Int)<(m:Int))=true:=by simp;omega
   have hdm:=hid (a0X (u:=m) (by omega));have hl19:l.length+1<=19:=by
    have h1:=congrArg List.length hd.out;rw[J4,C9]at h1;have h2:=hd20.out;have h3:=h0F m;omega
   clear hz;go_wp2_with fail;go_round
   case rel=>exact⟨m / 10,UInt8.ofNat (48+m%10)::l,by go_num,by omega,by simp[Go.ByteArray.mk_append_mk],by simpa using hl19,by rw[Hid,hd.out,hdm.out];simp⟩
   case measure=>simp[intOf]<;>omega
  .have q1:decide ((9:Int)<(m:Int))=false:=by simp;omega
   have hm9:m<10:=by omega
   have hdm:=hid (a0u hm9);have hmm:m%10=m:=Bl hm9;rw[hmm]at hc;have hmI:(48+(m:Int)%10)=48+(m:Int):=by omega
   rw[hmI]at hc;clear hz hmm hmI h9;go_wp2_with fail;go_ret2
   refine⟨t0n ?_ rfl,rfl⟩;rw[s0K,hd.out,hdm.out];simp[Go.ByteArray.mk_append_mk]
end
section
open Go.RowKit
def c0C (w:World)(v u:Value)(a b:Nat)(ha:IsN .i64 w v a)(hb:IsN .i64 w u b)(hla:(limbs a).length<=1000000)(hlb:(limbs b).length<=1000000):
 Calls Tryz.prog 150 #[v,u] w fun e w'=>RetFr w.heap.size .i64 (a+b) e w'/\Below w.heap.size w w':=by
 obtain⟨i0,hi,hz0,hz1,hz2⟩:=Cl j0g;obtain⟨a1,c1,rfl,h1,h2,h3⟩:=ha.openI;obtain⟨a2,c2,rfl,k1,k2,k3⟩:=hb.openI;obtain⟨H3,K3⟩:=zg h3 k3;clear h3 k3 ha hb;obtain⟨n,ea⟩:=gn ((limbs a).length);obtain⟨m,eb⟩:=gn ((limbs b).length);rw[ea]at h1 hla |-;rw[eb]at k1 hlb |-;obtain⟨HA,HB⟩:=zg ea eb;clear ea eb;go_enter Tryz.func150,Tryz.ntmps150;go_wp2_with fail
 go_loopw [5,6,7] (fun o cc i wr=>∃ (s:List Nat) (c:Nat) (C:Int),i=.int .i64 s.length/\cc=.int .i64 C/\C=(c:Int)/\c<=1/\s.length<=1000001/\(s.length<=n\/s.length<=m\/c=0)/\Hid (PlusI a b s c)/\Hid (wr.ownsRow w.heap.size 3 1 o s.length (b0q .i64 s))/\Hid (Below w.heap.size w wr))
  (fun _ _ i _=>1000002-(intOf i).toNat)
 case atStart=>exact⟨[],0,0,rfl,rfl,rfl,by omega,by simp,.inl (by simp),PlusI.start a b,Ba _ _ _ _,J3 _ _⟩
 case round=>
  obtain⟨s,c,C,rfl,rfl,hC,hc1,hs1,hs2,hP,hO,hB⟩:=hrel;obtain⟨ao,co,rfl⟩:=b0k hO.out;by_cases hA:s.length<n
  focus
   obtain⟨x,hx⟩:∃ x,(limbs a)[s.length]?=some x:=⟨_,J0 (by rw[HA.out];exact hA)⟩;obtain⟨g,og,rfl,hg,hc⟩:=H3.out _ x hx;have hc':=(hB.out.cell (p:=⟨g,og+s.length,none⟩) hg).trans hc;have hxl:=(a0p a).get hx;have HX:=hid hx;clear hx hc;by_cases hB':s.length<m
   focus
    obtain⟨y,hy⟩:∃ y,(limbs b)[s.length]?=some y:=⟨_,J0 (by rw[HB.out];exact hB')⟩;obtain⟨g',og',rfl,hg',hd⟩:=K3.out _ y hy;have hd':=(hB.out.cell (p:=⟨g',og'+s.length,none⟩) hg').trans hd;have hyl:=(a0p b).get hy;have HY:=hid hy;clear hy hd;rcases (show c=0\/c=1 by omega) with rfl | rfl
    focus
     obtain rfl:C=0:=by omega
     clear hC;have HN:=hid (hP.out.next (by rw[HA.out];exact .inl hA));rw[a0K HX.out,a0K HY.out]at HN;obtain⟨t,ht⟩:=gn (x+0+y)
    rotate_left
    focus
     obtain rfl:C=1:=by omega
     clear hC;have HN:=hid (hP.out.next (by rw[HA.out];exact .inl hA));rw[a0K HX.out,a0K HY.out]at HN;obtain⟨t,ht⟩:=gn (x+1+y)
   rotate_left 2
   focus
    skip
    rcases (show c=0\/c=1 by omega) with rfl | rfl
    focus
     obtain rfl:C=0:=by omega
     clear hC;have HN:=hid (hP.out.next (by rw[HA.out];exact .inl hA));rw[a0K HX.out,b0f (by rw[HB.out];omega)]at HN;obtain⟨t,ht⟩:=gn (x+0+0)
    rotate_left
    focus
     obtain rfl:C=1:=by omega
     clear hC;have HN:=hid (hP.out.next (by rw[HA.out];exact .inl hA));rw[a0K HX.out,b0f (by rw[HB.out];omega)]at HN;obtain⟨t,ht⟩:=gn (x+1+0)
  rotate_left 4
  focus
   skip
   by_cases hB':s.length<m
   focus
    obtain⟨y,hy⟩:∃ y,(limbs b)[s.length]?=some y:=⟨_,J0 (by rw[HB.out];exact hB')⟩;obtain⟨g',og',rfl,hg',hd⟩:=K3.out _ y hy;have hd':=(hB.out.cell (p:=⟨g',og'+s.length,none⟩) hg').trans hd;have hyl:=(a0p b).get hy;have HY:=hid hy;clear hy hd;rcases (show c=0\/c=1 by omega) with rfl | rfl
    focus
     obtain rfl:C=0:=by omega
     clear hC;have HN:=hid (hP.out.next (by rw[HB.out];exact .inr (.inl hB')));rw[b0f (by rw[HA.out];omega),a0K HY.out]at HN;obtain⟨t,ht⟩:=gn (0+0+y)
    rotate_left
    focus
     obtain rfl:C=1:=by omega
     clear hC;have HN:=hid (hP.out.next (by rw[HB.out];exact .inr (.inl hB')));rw[b0f (by rw[HA.out];omega),a0K HY.out]at HN;obtain⟨t,ht⟩:=gn (0+1+y)
   rotate_left 2
   focus
    skip
    rcases (show c=0\/c=1 by omega) with rfl | rfl
    .obtain rfl:C=0:=by omega
     clear hC;have hs:=hid (hP.out.done (by rw[HA.out];exact hA) (by rw[HB.out];exact hB') rfl);go_wp2_with fail;go_ret
     exact⟨⟨_,rfl,g0c hO.out hs.out,fun g hg=>(hO.out.lt g hg).1⟩,hB.out⟩
    focus
     obtain rfl:C=1:=by omega
     clear hC;have HN:=hid (hP.out.next (by exact .inr (.inr (by omega))));rw[b0f (by rw[HA.out];omega),b0f (by rw[HB.out];omega)]at HN;obtain⟨t,ht⟩:=gn (0+1+0)
  all_goals
   rw[ht]at HN;have HT:=hid ht;clear ht;go_wp2_with (at_builtin;refine Bo _ rfl _ _ 79 rfl w.heap.size 3 i0 (.int .i64 0) 1 8 Kl hi hz0 hz1 hz2 rfl (by decide) _ s.length _ rfl (hO.out.alloc _) ⟨wr.heap.size,0,none⟩ 1 1 [_] rfl rfl (Eh wr _ _) (by simp[Value.oneCell']) (by unfold maxLen;omega) (by omega) (by have:=hB.out.size;simp;omega) ?_;intro v' w3 hown3 hgrow3 _;have HO3:=hid hown3;have HG3:=hid hgrow3;clear hown3 hgrow3)
   obtain⟨n1,n2⟩:=e0C (z:=t%1000000000) hO.out hB.out HO3.out HG3.out (by have:=HT.out;omega);obtain⟨N1,N2⟩:=zg n1 n2;clear n1 n2 HO3 HG3;obtain⟨a3,k3,rfl⟩:=b0k N1.out;go_wp2_with fail;go_roundw
   case rel=>exact⟨s ++ [t%1000000000],t / 1000000000,_,by simp,rfl,by have:=HT.out;omega,HN.out.c1,by simp<;>omega,by have:=HT.out;simp<;>omega,HN,N1,N2⟩
   case measure=>simp[intOf]<;>omega
def d0a (w:World)(v u:Value)(a b:Nat)(ha:IsN .i64 w v a)(hb:IsN .i64 w u b)(hla:(limbs a).length<=1000000)(hlb:(limbs b).length<=1000000):
 Calls Tryz.prog 150 #[v,u] w fun e w'=>h0H .i64 (a+b) e w'/\Below w.heap.size w w':=
 (c0C w v u a b ha hb hla hlb).mono fun _ _ h=>⟨h.1.ret,h.2⟩
open Go.Lib (decDigits nDigits)
def k0h (w:World)(n:Nat)(h:n<=9223372036854775807):Calls Tryz.prog 55 #[.int .i64 n] w fun e w'=>e=.returned (.string (a0g n))/\w=w':=by
 go_enter Tryz.func55,Tryz.ntmps55;go_wp2_with fail;refine zv (h0T _ n h) ?_;rw[b0o];go_wp2_with fail;go_ret
 exact⟨rfl,rfl⟩
def i0E (w:World)(n:Nat)(h:n<=9223372036854775807):Calls Tryz.prog 286 #[.int .i64 n] w fun e w'=>h0H .i64 n e w'/\Below w.heap.size w w':=by
 have hd:=hid (show nDigits n<=9000 from E0 (a0j (k:=19) (by omega) (by omega)) (by omega));go_enter Tryz.func286,Tryz.ntmps286;go_wp2_with fail;refine (k0h _ n h).mono ?_;rintro e w1 ⟨rfl,rfl⟩;go_wp2_with fail;refine (b0U _ n hd.out).mono ?_;rintro e w1 ⟨⟨v,rfl,hv⟩,hb⟩;go_wp2_with fail;go_ret
 exact⟨⟨_,rfl,hv⟩,hb⟩
def c0Q {n k:Nat}(h:n<2 ^ k):(limbs n).length<=k:=
 a0f.2 (H6 h (Dn (by omega) k))
def bv (l:List UInt8):Nat:=l.foldl (fun a b=>a+a+(if b=49 then 1 else 0)) 0
def y0P (l:List UInt8)(b:UInt8):bv (l ++ [b])=bv l+bv l+(if b=49 then 1 else 0):=by simp[bv]
def Dr:=@List.take_add_one
def m0d {l:List UInt8}{i:Nat}{b:UInt8}(h:l[i]?=some b):bv (l.take (i+1))=bv (l.take i)+bv (l.take i)+(if b=49 then 1 else 0):=by
 rw[Dr,h];exact y0P _ _
theorem y0Q {l:List UInt8}:∀ (i:Nat),i<=l.length->bv (l.take i)<2 ^ i
 | 0,_=>by simp[bv]
 | i+1,h=>by
  have ih:=y0Q (l:=l) i (by omega);rw[m0d (l:=l) (i:=i) (b:=l[i]) (J0 (by omega)),M7]
  split<;>omega
def Bq:=@List.take_length
def t0t (w:World)(s:ByteArray)(hs:s.size<=100000):Calls Tryz.prog 322 #[.string s] w fun e w'=>h0H .i64 (bv s.data.toList) e w'/\Below w.heap.size w w':=by
 have hsl:=hid (show s.data.toList.length=s.size from by simp);go_enter Tryz.func322,Tryz.ntmps322;go_wp2_with fail;refine (i0E _ 0 (by omega)).mono ?_;rintro e w1 ⟨⟨v,rfl,hv⟩,hb⟩;obtain⟨V,B⟩:=zg hv hb;clear hv hb;go_wp2_with fail
 go_loopw [3,4] (fun o ii wr=>∃ i:Nat,ii=.int .i64 i/\i<=s.size/\Hid (IsN .i64 wr o (bv (s.data.toList.take i)))/\Hid (Below w.heap.size w wr)) (fun o ii wr=>s.size-(intOf ii).toNat)
 case atStart=>exact⟨0,rfl,J5 _,V,B⟩
 case round=>
  obtain⟨i,rfl,hi,hO,hB⟩:=hrel;by_cases hlt:i<s.size
  .have hget:=c0G hlt;have hl:=y0Q (l:=s.data.toList) i (by rw[hsl.out];exact hi);have hbt:=hid (m0d hget);have ll:Hid ((limbs (bv (s.data.toList.take i))).length<=1000000):=E0 (c0Q hl) (by omega);have ll2:Hid ((limbs (bv (s.data.toList.take i)+bv (s.data.toList.take i))).length<=1000000):=by
    refine E0 (c0Q (k:=i+1) ?_) (by omega);rw[M7];omega
   have l1:Hid ((limbs 1).length<=1000000):=by show _<=_;rw[c0R];decide
   by_cases hb:s[i]=49
   .have q1:((s[i].toNat:Int)==49)=true:=by rw[hb];rfl
    rw[U0 hb]at hbt;clear hget hl hb;go_wp2_with fail;refine (d0a _ _ _ _ _ hO.out hO.out ll.out ll.out).mono ?_;rintro e w2 ⟨⟨v2,rfl,hv2⟩,hb2⟩;obtain⟨V2,B2⟩:=zg hv2 (a0a hB.out hb2);clear hv2 hb2;go_wp2_with fail;refine (i0E _ 1 (by omega)).mono ?_;rintro e w3 ⟨⟨v3,rfl,hv3⟩,hb3⟩;obtain⟨V3,B3,V2'⟩:=zc hv3 (a0a B2.out hb3) (V2.out.call hb3);clear hv3 hb3 V2;go_wp2_with fail;refine (d0a _ _ _ _ _ V2'.out V3.out ll2.out l1.out).mono ?_;rintro e w4 ⟨⟨v4,rfl,hv4⟩,hb4⟩;obtain⟨V4,B4⟩:=zg hv4 (a0a B3.out hb4);clear hv4 hb4;go_wp2_with fail;go_roundw
    case rel=>exact⟨i+1,by go_num,by omega,V4.out.cast hbt.out.symm,B4⟩
    case measure=>simp[intOf]<;>omega
   .have q1:((s[i].toNat:Int)==49)=false:=by
     rw[U4];intro e;refine hb ?_;have:s[i].toNat=(49:UInt8).toNat:=by simp;omega
     exact Em.1 this
    rw[Q0 hb]at hbt;clear hget hl hb;go_wp2_with fail;refine (d0a _ _ _ _ _ hO.out hO.out ll.out ll.out).mono ?_;rintro e w2 ⟨⟨v2,rfl,hv2⟩,hb2⟩;obtain⟨V2,B2⟩:=zg hv2 (a0a hB.out hb2);clear hv2 hb2;go_wp2_with fail;go_roundw
    case rel=>exact⟨i+1,by go_num,by omega,V2.out.cast hbt.out.symm,B2⟩
    case measure=>simp[intOf]<;>omega
  .obtain rfl:i=s.size:=by omega
   go_wp2_with fail;go_ret
   refine⟨⟨_,rfl,hO.out.cast ?_⟩,hB.out⟩;rw[<- hsl.out,Bq]
def m0E (w:World)(n:Nat)(hn:n<=100000):Calls Tryz.prog 221 #[.int .i64 n] w fun e w'=>h0H .i64 (2 ^ n) e w'/\Below w.heap.size w w':=by
 go_enter Tryz.func221,Tryz.ntmps221;go_wp2_with fail;refine (i0E _ 1 (by omega)).mono ?_;rintro e w1 ⟨⟨v,rfl,hv⟩,hb⟩;obtain⟨V,B⟩:=zg hv hb;clear hv hb;go_wp2_with fail
 go_loopw [0,3] (fun nn o wr=>∃ j:Nat,nn=.int .i64 j/\j<=n/\Hid (IsN .i64 wr o (2 ^ (n-j)))/\Hid (Below w.heap.size w wr)) (fun nn o wr=>(intOf nn).toNat)
 case atStart=>exact⟨n,rfl,Z3 _,by rw[Bh,Db];exact V,B⟩
 case round=>
  obtain⟨j,rfl,hj,hO,hB⟩:=hrel;by_cases h0:0<j
  .have ll:Hid ((limbs (2 ^ (n-j))).length<=1000000):=E0 (c0Q (k:=n-j+1) (Hb (by omega) (by omega))) (by omega);have hs:Hid (2 ^ (n-j)+2 ^ (n-j)=2 ^ (n-(j-1))):=by
    show _=_
    rw[show n-(j-1)=n-j+1 by omega,M7];omega
   go_wp2_with fail;refine (d0a _ _ _ _ _ hO.out hO.out ll.out ll.out).mono ?_;rintro e w2 ⟨⟨v2,rfl,hv2⟩,hb2⟩;obtain⟨V2,B2⟩:=zg hv2 (a0a hB.out hb2);clear hv2 hb2;go_wp2_with fail;go_roundw
   case rel=>exact⟨j-1,by go_num,by omega,V2.out.cast hs.out,B2⟩
   case measure=>simp[intOf]<;>omega
  .obtain rfl:j=0:=by omega
   go_wp2_with fail;go_ret
   exact⟨⟨_,rfl,hO.out⟩,hB.out⟩
def m0G (w:World)(s:ByteArray)(hs:s.size<=9223372036854775807):Calls Tryz.prog 207 #[.string s] w fun e w'=>e=.returned (.int .i64 (j0E s))/\w=w':=by
 have hsl:=hid (show s.data.toList.length=s.size from by simp);go_enter Tryz.func207,Tryz.ntmps207;go_wp2_with fail
 go_loop [3] (fun ii=>∃ i:Nat,ii=.int .i64 i/\i<=s.size/\Hid (∀ (j:Nat) (b:UInt8),j<i->s.data.toList[j]?=some b->b=48\/b=49)) (fun ii=>s.size-(intOf ii).toNat)
 case atStart=>exact⟨0,rfl,J5 _,fun j b hj=>absurd hj (by omega)⟩
 case round=>
  obtain⟨i,rfl,hi,hI⟩:=hrel;by_cases hlt:i<s.size
  .have hb:=hid (c0G hlt);have ne:∀ k:UInt8,s[i]≠k->((s[i].toNat:Int) != (k.toNat:Int))=true:=fun k h=>by
    rw[bne_iff_ne];intro e;exact h (Em.1 (by omega))
   by_cases c1:s[i]=48
   .have q1:((s[i].toNat:Int) != 48)=false:=by rw[c1];rfl
    have hB:=hid c1;clear c1 ne;go_wp2_with fail;go_round
    case rel=>exact⟨i+1,by go_num,by omega,fun j b hj hjb=>by
     by_cases e:j=i
     .subst e;rw[hb.out]at hjb;cases hjb;exact .inl hB.out
     .exact hI.out j b (by omega) hjb⟩
    case measure=>simp[intOf]<;>omega
   .have q1:((s[i].toNat:Int) != 48)=true:=ne 48 c1;by_cases c2:s[i]=49
    .have q2:((s[i].toNat:Int) != 49)=false:=by rw[c2];rfl
     have hB:=hid c2;clear c1 c2 ne;go_wp2_with fail;go_round
     case rel=>exact⟨i+1,by go_num,by omega,fun j b hj hjb=>by
      by_cases e:j=i
      .subst e;rw[hb.out]at hjb;cases hjb;exact .inr hB.out
      .exact hI.out j b (by omega) hjb⟩
     case measure=>simp[intOf]<;>omega
    .have q2:((s[i].toNat:Int) != 49)=true:=ne 49 c2;have hB:=hid (And.intro c1 c2);clear c1 c2 ne;go_wp2_with fail;go_ret
     refine⟨a0Q ?_,rfl⟩;have:n0D s=false:=by
      unfold n0D;rw[Kj];intro h;rw[Ar]at h;have:=h _ (E7 hb.out);simp[hB.out.1,hB.out.2]at this
     unfold j0E;rw[this]
     rfl
  .have e1:i=s.size:=by omega
   subst e1;go_wp2_with fail;go_ret
   refine⟨a0Q ?_,rfl⟩;have:n0D s=true:=by
    unfold n0D;rw[Ar];intro b hb;obtain⟨j,hj,rfl⟩:=Mn hb;have:=hI.out j _ (by rw[<- hsl.out];exact hj) (J0 hj);simpa using this
   unfold j0E;rw[this]
   rfl
open Go.Shelf
def Ky:=@Go.Proofs.Tryz.func139
def Js:=@Go.Proofs.Tryz.ntmps139
def t0s (w:World)(s:ByteArray)(hs:s.size<=100000000):
 Calls Tryz.prog 139 #[.string s] w fun e w'=>e=.returned (.int .i64 (c0t s))/\w=w':=by
 have HC:=hid (m0G w s (by omega));by_cases hb:n0D s=true
 .have e0:j0E s=0:=U0 hb;rw[e0]at HC;by_cases hl:256<s.size
  .have e1:c0t s=4:=by rw[c0t,U0 hb,U0 hl]
   have q0:decide ((256:Int)<(s.size:Int))=true:=by simp;omega
   rw[e1];clear hb hl e0 e1;go_enter Ky,Js;go_wp2_with fail;refine HC.out.mono ?_;rintro e w1 ⟨rfl,rfl⟩;go_wp2_with fail;go_ret
   exact⟨rfl,rfl⟩
  .have e1:c0t s=0:=by rw[c0t,U0 hb,Q0 hl]
   have q0:decide ((256:Int)<(s.size:Int))=false:=by simp;omega
   rw[e1];clear hb hl e0 e1;go_enter Ky,Js;go_wp2_with fail;refine HC.out.mono ?_;rintro e w1 ⟨rfl,rfl⟩;go_wp2_with fail;go_ret
   exact⟨rfl,rfl⟩
 .have e0:j0E s=3:=Q0 hb;have e1:c0t s=3:=Q0 hb;rw[e0]at HC;rw[e1];clear hb e0 e1;go_enter Ky,Js;go_wp2_with fail;refine zx HC ?_;go_wp2_with fail;go_ret
  exact⟨rfl,rfl⟩
end
section
open Go.RowKit
def e0A (w:World)(s:ByteArray)(hs:s.size<=9223372036854775807):Calls Tryz.prog 173 #[.string s] w fun e w'=>
 e=.returned (.bool (c0T s.data.toList))/\w=w':=by
 by_cases hf:c0T s.data.toList=true
 .by_cases hl:4000<s.data.toList.length
  .have H5:=hid (show c0h s.data.toList=5 from by rw[c0h,U0 hf,U0 hl]);rw[hf];clear hf hl;go_enter Tryz.func173,Tryz.ntmps173;go_wp2_with fail;refine (g0a _ s hs).mono ?_;rintro e w1 ⟨rfl,rfl⟩;rw[H5.out];go_wp2_with fail;go_ret
   exact⟨rfl,rfl⟩
  .have H5:=hid (show c0h s.data.toList=0 from by rw[c0h,U0 hf,Q0 hl]);rw[hf];clear hf hl;go_enter Tryz.func173,Tryz.ntmps173;go_wp2_with fail;refine (g0a _ s hs).mono ?_;rintro e w1 ⟨rfl,rfl⟩;rw[H5.out];go_wp2_with fail;go_ret
   exact⟨rfl,rfl⟩
 .have H5:=hid (show c0h s.data.toList=3 from by rw[c0h,Q0 hf]);have hf':c0T s.data.toList=false:=by simpa using hf
  rw[hf'];clear hf hf';go_enter Tryz.func173,Tryz.ntmps173;go_wp2_with fail;refine zv (g0a _ s hs) ?_;rw[H5.out];go_wp2_with fail;go_ret
  exact⟨rfl,rfl⟩
def j0e (l:List UInt8)(k:Nat):Prop:=k<=l.length/\(∀ (j:Nat) (b:UInt8),j<k->l[j]?=some b->b≠47)/\(k<l.length->l[k]?=some 47)
def t0u (w:World)(s:ByteArray)(hs:s.size<=9223372036854775807):Calls Tryz.prog 171 #[.string s] w fun e w'=>
 (∃ k:Nat,e=.returned (.int .i64 k)/\j0e s.data.toList k)/\w=w':=by
 have hsl:=hid (show s.data.toList.length=s.size from by simp);go_enter Tryz.func171,Tryz.ntmps171;go_wp2_with fail
 go_loop [3] (fun ii=>∃ i:Nat,ii=.int .i64 i/\i<=s.size/\Hid (∀ (j:Nat) (b:UInt8),j<i->s.data.toList[j]?=some b->b≠47)) (fun ii=>s.size-(intOf ii).toNat)
 case atStart=>exact⟨0,rfl,J5 _,fun j b hj=>absurd hj (by omega)⟩
 case round=>
  obtain⟨i,rfl,hi,hI⟩:=hrel;by_cases hlt:i<s.size
  .have hb:=hid (c0G hlt);by_cases c1:s[i]=47
   .have q1:((s[i].toNat:Int)==47)=true:=by rw[c1];rfl
    have hB:=hid c1;clear c1;go_wp2_with fail;go_ret
    exact⟨⟨i,rfl,by rw[hsl.out];omega,hI.out,fun _=>by rw[hb.out,hB.out]⟩,rfl⟩
   .have q1:((s[i].toNat:Int)==47)=false:=by
     rw[U4];intro e;refine c1 ?_;have:s[i].toNat=(47:UInt8).toNat:=by simp;omega
     exact Em.1 this
    have hB:=hid c1;clear c1;go_wp2_with fail;go_round
    case rel=>exact⟨i+1,by go_num,by omega,fun j b hj hjb=>by
     by_cases e:j=i
     .subst e;rw[hb.out]at hjb;cases hjb;exact hB.out
     .exact hI.out j b (by omega) hjb⟩
    case measure=>simp[intOf]<;>omega
  .have e1:i=s.size:=by omega
   subst e1;go_wp2_with fail;go_ret
   exact⟨⟨s.size,rfl,by rw[hsl.out];omega,hI.out,fun h=>by rw[hsl.out]at h;omega⟩,rfl⟩
def Mo:=@Go.Proofs.Tryz.results172
def f0L (w:World)(s:ByteArray)(hs:s.size<=9223372036854775807)(h0:0<s.size)(h1:s[0]=45):Calls Tryz.prog 172 #[.string s] w fun e w'=>
 e=.returned (.tuple #[.bool true,.string (s.extract 1 s.size),.bool (c0T (s.extract 1 s.size).data.toList && !decide ((s.extract 1 s.size).data.toList = [48]))])/\w=w':=by
 have q1:((s[0].toNat:Int)==45)=true:=by rw[h1];rfl
 clear h1;have hts:(s.extract 1 s.size).size<=9223372036854775807:=by simp;omega
 obtain⟨t,ht⟩:=gn (s.extract 1 s.size);rw[ht]at hts |-;have HT:=hid ht;obtain⟨f,hf⟩:=gn (c0T t.data.toList);rw[hf];have HF:=hid hf;clear ht hf;go_enter Tryz.func172,Tryz.ntmps172;go_wp2_with fail;rw[HT.out];refine zv (e0A _ t hts) ?_;rw[HF.out];cases f
 .go_wp2_with fail;exact J6 (v:=.tuple #[.bool true,.string t,.bool false]) (by simp[results,Mo,go_sem]) rfl ⟨by simp,rfl⟩
 .go_wp2_with fail;refine J6 (v:=.tuple #[.bool true,.string t,.bool (!(t.toList == [48]))]) (by simp[results,Mo,go_sem]) rfl ⟨?_,rfl⟩;rw[Kx];simp;exact Bc.2 (by simp)
def f0K (w:World)(s:ByteArray)(hs:s.size<=9223372036854775807)(h1:∀ h:0<s.size,s[0]≠45):Calls Tryz.prog 172 #[.string s] w fun e w'=>
 e=.returned (.tuple #[.bool false,.string s,.bool (c0T s.data.toList)])/\w=w':=by
 obtain⟨f,hf⟩:=gn (c0T s.data.toList);rw[hf];have HF:=hid hf;clear hf;by_cases h0:0<s.size
 .have q1:((s[0].toNat:Int)==45)=false:=by
   rw[U4];intro e;refine h1 h0 ?_;have:s[0].toNat=(45:UInt8).toNat:=by simp;omega
   exact Em.1 this
  clear h1;go_enter Tryz.func172,Tryz.ntmps172;go_wp2_with fail;refine (e0A _ s hs).mono ?_;rintro e w1 ⟨rfl,rfl⟩;rw[HF.out];cases f
  all_goals
   go_wp2_with fail;exact J6 (v:=.tuple #[.bool false,.string s,.bool _]) (by simp[results,Mo,go_sem]) rfl ⟨rfl,rfl⟩
 .obtain rfl:s=⟨#[]⟩:=by
   apply Ls
   exact Array.eq_empty_of_size_eq_zero (by have:s.data.size=s.size:=rfl;omega)
  clear h1 h0 hs;go_enter Tryz.func172,Tryz.ntmps172;go_wp2_with fail;refine zv (e0A _ ⟨#[]⟩ (J5 _)) ?_;rw[HF.out];cases f
  all_goals
   go_wp2_with fail;exact J6 (v:=.tuple #[.bool false,.string ⟨#[]⟩,.bool _]) (by simp[results,Mo,go_sem]) rfl ⟨rfl,rfl⟩
open Go.Lib (decDigits nDigits)
def m0e {a b:ByteArray}:a.data.toList=b.data.toList↔a=b:=⟨a0M,fun e=>by rw[e]⟩
def h0S (w:World)(s:ByteArray)(hs:s.size<=9223372036854775807):Calls Tryz.prog 172 #[.string s] w fun e w'=>
 e=.returned (.tuple #[.bool (iM s),.string (iD s),.bool (iB s)])/\w=w':=by
 have hl:s.data.toList.length=s.size:=by simp
 by_cases h:∃ h0:0<s.size,s[0]=45
 .obtain⟨h0,h1⟩:=h;have hg:=c0G h0;rw[h1]at hg;obtain⟨t,ht⟩:∃ t,s.data.toList=45::t:=by
   cases hc:s.data.toList with
   | nil=>rw[hc]at hg;simp at hg
   | cons b t=>rw[hc]at hg;simp at hg;exact⟨t,by rw[hg]⟩
  have hM:iM s=true:=by unfold iM Lib.hasPrefix;rw[ht];simp[List.isPrefixOf]
  have hD:iD s=s.extract 1 s.size:=by
   apply a0M
   rw[a0J,ht];unfold iD Lib.trimPrefix;rw[show Lib.hasPrefix s.data.toList [45]=true from hM,ht];have:s.size=t.length+1:=by rw[<- hl,ht];simp
   simp[this]
  have H:=f0L w s hs h0 h1;rw[<- hD]at H;have e:iB s=(c0T (iD s).data.toList && !decide ((iD s).data.toList = [48])):=by
   unfold iB fB;rw[hM,Fd];have:decide (iD s=⟨#[48]⟩)=decide ((iD s).data.toList = [48]):=Fr.2 (by rw[<- m0e]);rw[this]
  rw[hM,e];exact H
 .have h1:∀ h:0<s.size,s[0]≠45:=fun h0 e=>h ⟨h0,e⟩
  have hM:iM s=false:=by
   unfold iM Lib.hasPrefix;cases hc:s.data.toList with
   | nil=>rfl
   | cons b t=>
    have h0:0<s.size:=by rw[<- hl,hc];simp
    have hg:=c0G h0;rw[hc]at hg;simp at hg;have h3:((45:UInt8)==b)=false:=by rw[U4,hg];exact fun e=>h1 h0 e.symm
    simp[List.isPrefixOf,h3]
  have hD:iD s=s:=by
   apply a0M
   unfold iD Lib.trimPrefix;rw[show Lib.hasPrefix s.data.toList [45]=false from hM];simp
  have H:=f0K w s hs h1;have e:iB s=c0T s.data.toList:=by unfold iB fB;rw[hM,hD];simp
  rw[hM,hD,e];exact H
def Jt:=@Nat.lt_irrefl
def j0X {s:ByteArray}{k:Nat}(h:j0e s.data.toList k):k<=s.size/\cW s=s.extract 0 k/\cS s=decide (k<s.size)/\(k<s.size->cB s=s.extract (k+1) s.size):=by
 obtain⟨h1,h2,h3⟩:=h;have hl:s.data.toList.length=s.size:=by simp
 rcases f0T s.data.toList with hn | ⟨A,B,hA,e⟩
 .have hk:k=s.size:=by
   rcases Cz k s.data.toList.length with hlt | hge
   .exact absurd rfl (hn 47 (E7 (h3 hlt)))
   .omega
  have hc:=j0v hn;subst hk;refine⟨Z3 _,?_,?_,fun h=>absurd h (Jt _)⟩
  .apply a0M;rw[a0J];unfold cW;rw[hc,A9,Jc,<- hl,Bq]
  .unfold cS;rw[hc];simp
 .have hL:s.data.toList.length=A.length+1+B.length:=by rw[e];simp;omega
  have hk:k=A.length:=by
   rcases Gd k A.length with hlt | heq | hgt
   .have:=h3 (by omega);rw[e,D9 hlt]at this;exact absurd rfl (hA 47 (E7 this))
   .exact heq
   .exact absurd rfl (h2 A.length 47 hgt (by rw[e];simp))
  have hc:=s0h (r:=B) hA;rw[<- e]at hc;subst hk;refine⟨by omega,?_,?_,fun _=>?_⟩
  .apply a0M;rw[a0J,e];unfold cW;rw[hc];simp
  .unfold cS;rw[hc];simp;omega
  .apply a0M;rw[a0J];unfold cB;rw[hc]
   have:s.size-(A.length+1)=B.length:=by omega
   rw[this,e,show A++47::B=(A ++ [47])++B by simp,List.drop_left' (by simp),Bq]
end
end Go.Proofs.YtfkpfpobmobnbaaGreatDoor
