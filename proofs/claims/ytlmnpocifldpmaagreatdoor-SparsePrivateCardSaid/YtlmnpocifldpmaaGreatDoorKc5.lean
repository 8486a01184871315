/- Texts that the proof rests on, merged: C2, Coin2, Coins, Ser, Cv3, Cv4, Tot2, Cv5, Cv6, Pl4, Pl5, Pl6, QPlus, Dig, QO, Pn3, Pn4, Cv7, Cv8, Vw, Dy, Fd0, Tot3, Gnp, MsT, Nq0, Sq0, Sq1, Bg, R1b. -/
import Derived.Test.YtlmnpocifldpmaaGreatDoorKc4
import Derived.Sort.KeysCollected
import Derived.Test.YtlmnpocifldpmaaGreatDoorProg
import Derived.Maps.StringElems
import Derived.Lib.ItoaMem
set_option linter.unusedVariables false
set_option linter.unusedSimpArgs false
set_option linter.unusedSectionVars false
set_option maxRecDepth 100000
set_option maxHeartbeats 8000000
namespace Go.Proofs.YtlmnpocifldpmaaGreatDoor
open Go.RowKit
open Go.Shelf
open Go.Lib (decDigits nDigits)
def cPE (s:ByteArray):Int:=if qE s≠0 then qE s else if iM (cW s)=true∨0<k0M (cW s).data.toList (qD s).data.toList then 2 else if 1000<(cW s).size∨1000<(qD s).size then 5 else 0
theorem u0Q (w:World)(s:ByteArray)(hs:s.size≤100000)(hL:Lay w):
 Calls Tryz.prog 302 #[.string s] w fun e w'=>e=.returned (.tuple #[.string (if cPE s=0 then cW s else ⟨#[]⟩),.string (if cPE s=0 then qD s else ⟨#[]⟩),.int .i64 (cPE s)])∧Below w.heap.size w w':=by
 have HC:=hid (o0t w s (by omega) hL);have z1:=i0p s;have z2:=k0q s;have HM:=fun V=>hid (o0S V (cW s) (qD s) (by omega) (by omega))
 by_cases he:qE s=0
 ·have e1:pW s=cW s:=if_pos he;have e2:pD s=qD s:=if_pos he;rw[e1,e2,he]at HC;have HE:cPE s=if iM (cW s)=true∨0<k0M (cW s).data.toList (qD s).data.toList then 2 else if 1000<(cW s).size∨1000<(qD s).size then 5 else 0:=by
   unfold cPE;rw[if_neg (fun h=>h he)]
  rw[HE];clear HE e1 e2;obtain⟨D,hD⟩:∃ D,qD s=D:=⟨_,rfl⟩;obtain⟨W,hW⟩:∃ W,cW s=W:=⟨_,rfl⟩;obtain⟨hw0,hiM⟩:=o0u he hW;clear he;obtain⟨m,hm⟩:∃ m,iM W=m:=⟨_,rfl⟩;obtain⟨c,hc⟩:∃ c,k0M W.data.toList D.data.toList=c:=⟨_,rfl⟩;rw[hD,hW]at HC HM;rw[hm]at hiM;rw[hc]at HM;rw[hD,hW,hm,hc];clear hD hW hm hc z1 z2;rcases m with _ | _
  ·by_cases hc2:0<c
   ·have q0:decide ((0:Int)<c)=true:=by simp;omega
    simp only[hc2,or_true,if_true,show ¬ (2:Int)=0 by decide,if_false];clear hc2;go_enter Tryz.func302,Tryz.ntmps302;go_wp2_with fail;refine HC.out.mono ?_;rintro e w1 ⟨rfl,hb1⟩;have y1:=hid hb1;clear hb1;go_wp2_with fail;refine (HM _).out.mono ?_;rintro e w2 ⟨rfl,hb2⟩;have y2:=hid (a0a y1.out hb2);clear hb2;go_wp2_with fail
    go_ret3
    exact⟨rfl,y2.out⟩
   ·have q0:decide ((0:Int)<c)=false:=by simp;omega
    simp only[hc2,Bool.false_eq_true,or_self,if_false];clear hc2;by_cases hl1:1000<W.size
    ·have q1:decide ((1000:Int)<(W.size:Int))=true:=by simp;omega
     simp only[hl1,true_or,if_true,show ¬ (5:Int)=0 by decide,if_false];clear hl1;go_enter Tryz.func302,Tryz.ntmps302;go_wp2_with fail;refine HC.out.mono ?_;rintro e w1 ⟨rfl,hb1⟩;have y1:=hid hb1;clear hb1;go_wp2_with fail;refine (HM _).out.mono ?_;rintro e w2 ⟨rfl,hb2⟩;have y2:=hid (a0a y1.out hb2);clear hb2;go_wp2_with fail
     go_ret3
     exact⟨rfl,y2.out⟩
    ·have q1:decide ((1000:Int)<(W.size:Int))=false:=by simp;omega
     by_cases hl2:1000<D.size
     ·have q2:decide ((1000:Int)<(D.size:Int))=true:=by simp;omega
      simp only[hl2,or_true,if_true,show ¬ (5:Int)=0 by decide,if_false];clear hl1 hl2;go_enter Tryz.func302,Tryz.ntmps302;go_wp2_with fail;refine HC.out.mono ?_;rintro e w1 ⟨rfl,hb1⟩;have y1:=hid hb1;clear hb1;go_wp2_with fail;refine (HM _).out.mono ?_;rintro e w2 ⟨rfl,hb2⟩;have y2:=hid (a0a y1.out hb2);clear hb2;go_wp2_with fail
      go_ret3
      exact⟨rfl,y2.out⟩
     ·have q2:decide ((1000:Int)<(D.size:Int))=false:=by simp;omega
      simp only[hl1,hl2,or_self,if_false,if_true];clear hl1 hl2;go_enter Tryz.func302,Tryz.ntmps302;go_wp2_with fail;refine HC.out.mono ?_;rintro e w1 ⟨rfl,hb1⟩;have y1:=hid hb1;clear hb1;go_wp2_with fail;refine (HM _).out.mono ?_;rintro e w2 ⟨rfl,hb2⟩;have y2:=hid (a0a y1.out hb2);clear hb2;go_wp2_with fail
      go_ret3
      exact⟨rfl,y2.out⟩
  ·simp only[true_or,if_true,show ¬ (2:Int)=0 by decide,if_false];go_enter Tryz.func302,Tryz.ntmps302;go_wp2_with fail;refine HC.out.mono ?_;rintro e w1 ⟨rfl,hb1⟩;have y1:=hid hb1;clear hb1;go_wp2_with fail
   go_ret3
   exact⟨rfl,y1.out⟩
 ·have e1:pW s=⟨#[]⟩:=if_neg he;have e2:pD s=⟨#[]⟩:=if_neg he;have e3:cPE s=qE s:=by unfold cPE;rw[if_pos he]
  rw[e1,e2]at HC;rw[e3,if_neg he,if_neg he];obtain⟨x,hx⟩:∃ x,qE s=x:=⟨_,rfl⟩;rw[hx]at HC he ⊢;have q0:(x==0)=false:=by simpa using he
  have q1:(x != 0)=true:=by simpa using he
  clear e1 e2 e3 hx z1 z2 HM;go_enter Tryz.func302,Tryz.ntmps302;go_wp2_with fail;refine HC.out.mono ?_;rintro e w1 ⟨rfl,hb1⟩;have y1:=hid hb1;clear hb1;go_wp2_with fail
  go_ret3
  exact⟨rfl,y1.out⟩
def gPE (s:ByteArray):Int:=if qE s≠0 then qE s else if iM (cW s)=true∨0≤k0M (cW s).data.toList (qD s).data.toList then 2 else if 1000<(cW s).size∨1000<(qD s).size then 5 else 0
theorem g0f (w:World)(s:ByteArray)(hs:s.size≤100000)(hL:Lay w):
 Calls Tryz.prog 204 #[.string s] w fun e w'=>e=.returned (.tuple #[.string (if gPE s=0 then cW s else ⟨#[]⟩),.string (if gPE s=0 then qD s else ⟨#[]⟩),.int .i64 (gPE s)])∧Below w.heap.size w w':=by
 have HC:=hid (o0t w s (by omega) hL);have z1:=i0p s;have z2:=k0q s;have HM:=fun V=>hid (o0S V (cW s) (qD s) (by omega) (by omega))
 by_cases he:qE s=0
 ·have e1:pW s=cW s:=if_pos he;have e2:pD s=qD s:=if_pos he;rw[e1,e2,he]at HC;have HE:gPE s=if iM (cW s)=true∨0≤k0M (cW s).data.toList (qD s).data.toList then 2 else if 1000<(cW s).size∨1000<(qD s).size then 5 else 0:=by
   unfold gPE;rw[if_neg (fun h=>h he)]
  rw[HE];clear HE e1 e2;obtain⟨D,hD⟩:∃ D,qD s=D:=⟨_,rfl⟩;obtain⟨W,hW⟩:∃ W,cW s=W:=⟨_,rfl⟩;obtain⟨hw0,hiM⟩:=o0u he hW;clear he;obtain⟨m,hm⟩:∃ m,iM W=m:=⟨_,rfl⟩;obtain⟨c,hc⟩:∃ c,k0M W.data.toList D.data.toList=c:=⟨_,rfl⟩;rw[hD,hW]at HC HM;rw[hm]at hiM;rw[hc]at HM;rw[hD,hW,hm,hc];clear hD hW hm hc z1 z2;rcases m with _ | _
  ·by_cases hc2:0≤c
   ·have q0:decide ((0:Int)≤c)=true:=by simp;omega
    simp only[hc2,or_true,if_true,show ¬ (2:Int)=0 by decide,if_false];clear hc2;go_enter Tryz.func204,Tryz.ntmps204;go_wp2_with fail;refine HC.out.mono ?_;rintro e w1 ⟨rfl,hb1⟩;have y1:=hid hb1;clear hb1;go_wp2_with fail;refine (HM _).out.mono ?_;rintro e w2 ⟨rfl,hb2⟩;have y2:=hid (a0a y1.out hb2);clear hb2;go_wp2_with fail
    go_ret3
    exact⟨rfl,y2.out⟩
   ·have q0:decide ((0:Int)≤c)=false:=by simp;omega
    simp only[hc2,Bool.false_eq_true,or_self,if_false];clear hc2;by_cases hl1:1000<W.size
    ·have q1:decide ((1000:Int)<(W.size:Int))=true:=by simp;omega
     simp only[hl1,true_or,if_true,show ¬ (5:Int)=0 by decide,if_false];clear hl1;go_enter Tryz.func204,Tryz.ntmps204;go_wp2_with fail;refine HC.out.mono ?_;rintro e w1 ⟨rfl,hb1⟩;have y1:=hid hb1;clear hb1;go_wp2_with fail;refine (HM _).out.mono ?_;rintro e w2 ⟨rfl,hb2⟩;have y2:=hid (a0a y1.out hb2);clear hb2;go_wp2_with fail
     go_ret3
     exact⟨rfl,y2.out⟩
    ·have q1:decide ((1000:Int)<(W.size:Int))=false:=by simp;omega
     by_cases hl2:1000<D.size
     ·have q2:decide ((1000:Int)<(D.size:Int))=true:=by simp;omega
      simp only[hl2,or_true,if_true,show ¬ (5:Int)=0 by decide,if_false];clear hl1 hl2;go_enter Tryz.func204,Tryz.ntmps204;go_wp2_with fail;refine HC.out.mono ?_;rintro e w1 ⟨rfl,hb1⟩;have y1:=hid hb1;clear hb1;go_wp2_with fail;refine (HM _).out.mono ?_;rintro e w2 ⟨rfl,hb2⟩;have y2:=hid (a0a y1.out hb2);clear hb2;go_wp2_with fail
      go_ret3
      exact⟨rfl,y2.out⟩
     ·have q2:decide ((1000:Int)<(D.size:Int))=false:=by simp;omega
      simp only[hl1,hl2,or_self,if_false,if_true];clear hl1 hl2;go_enter Tryz.func204,Tryz.ntmps204;go_wp2_with fail;refine HC.out.mono ?_;rintro e w1 ⟨rfl,hb1⟩;have y1:=hid hb1;clear hb1;go_wp2_with fail;refine (HM _).out.mono ?_;rintro e w2 ⟨rfl,hb2⟩;have y2:=hid (a0a y1.out hb2);clear hb2;go_wp2_with fail
      go_ret3
      exact⟨rfl,y2.out⟩
  ·simp only[true_or,if_true,show ¬ (2:Int)=0 by decide,if_false];go_enter Tryz.func204,Tryz.ntmps204;go_wp2_with fail;refine HC.out.mono ?_;rintro e w1 ⟨rfl,hb1⟩;have y1:=hid hb1;clear hb1;go_wp2_with fail
   go_ret3
   exact⟨rfl,y1.out⟩
 ·have e1:pW s=⟨#[]⟩:=if_neg he;have e2:pD s=⟨#[]⟩:=if_neg he;have e3:gPE s=qE s:=by unfold gPE;rw[if_pos he]
  rw[e1,e2]at HC;rw[e3,if_neg he,if_neg he];obtain⟨x,hx⟩:∃ x,qE s=x:=⟨_,rfl⟩;rw[hx]at HC he ⊢;have q0:(x==0)=false:=by simpa using he
  have q1:(x != 0)=true:=by simpa using he
  clear e1 e2 e3 hx z1 z2 HM;go_enter Tryz.func204,Tryz.ntmps204;go_wp2_with fail;refine HC.out.mono ?_;rintro e w1 ⟨rfl,hb1⟩;have y1:=hid hb1;clear hb1;go_wp2_with fail
  go_ret3
  exact⟨rfl,y1.out⟩
end Go.Proofs.YtlmnpocifldpmaaGreatDoor
namespace Go.Proofs.YtlmnpocifldpmaaGreatDoor
open Go.RowKit
open Go.Lib (decDigits nDigits)
theorem c0r {N D K T:Nat}{l:List UInt8}(h:sdB N D K T=true):b0Z N D K T l=(true,sdV N D K T,0):=by
 rw[b0Z.eq_def];dsimp only;rw[if_pos h]
theorem e0l {N D K T:Nat}(h:sdB N D K T=false):b0Z N D K T []=(false,0,0):=by
 rw[b0Z.eq_def];dsimp only;rw[if_neg (by simp[h])]
theorem e0k {N D K T:Nat}{b:UInt8}{r:List UInt8}(h:sdB N D K T=false):b0Z N D K T (b::r)=((b0Z N D (2*K+(if b=49 then 1 else 0)) (2*T) r).1,(b0Z N D (2*K+(if b=49 then 1 else 0)) (2*T) r).2.1,(b0Z N D (2*K+(if b=49 then 1 else 0)) (2*T) r).2.2+1):=by
 rw[b0Z.eq_def];dsimp only;rw[if_neg (by simp[h])]
def b0R (N D:Nat)(l:List UInt8)(K T u:Nat):Bool×Nat×Nat:=let x:=b0Z N D K T (l.drop u);(x.1,x.2.1,x.2.2+u)
theorem k0e {N D K T u:Nat}{l:List UInt8}(h:sdB N D K T=true):b0R N D l K T u=(true,sdV N D K T,u):=by
 unfold b0R;rw[c0r h];simp
theorem k0d {N D K T:Nat}{l:List UInt8}(h:sdB N D K T=false):b0R N D l K T l.length=(false,0,l.length):=by
 unfold b0R;rw[List.drop_length,e0l h];simp
theorem k0c {N D K T u:Nat}{l:List UInt8}(h:sdB N D K T=false)(hu:u<l.length):b0R N D l K T u=b0R N D l (K+K+(if l[u]=49 then 1 else 0)) (T+T) (u+1):=by
 unfold b0R;rw[List.drop_eq_getElem_cons hu,e0k h,Nat.two_mul,Nat.two_mul];simp only[Prod.mk.injEq,true_and];omega
structure Cell (K T u:Nat):Prop where
 t:T=2 ^ u
 k:K<T
theorem Cell.next {K T u x:Nat}(h:Cell K T u)(hx:x≤1):Cell (K+K+x) (T+T) (u+1):=by
 refine⟨?_,?_⟩
 ·rw[h.t,Nat.pow_succ];omega
 ·have:=h.k;omega
theorem Cell.fits {N D K T u:Nat}(h:Cell K T u)(hu:u≤256)(hN:N<10 ^ eN)(hD:D<10 ^ eN):Fits N D K T:=by
 have h1:2 ^ u≤2 ^ 256:=Nat.pow_le_pow_right (by omega) hu;have h2:2 ^ 256<10 ^ eK:=by decide
 have ht:=h.t;have hk:=h.k;exact⟨hN,hD,by omega,by omega⟩
theorem s0X {p:ByteArray}(h:cPE p=0):cW p=a0f (bN (cW p))∧qD p=a0f (bN (qD p))∧bN (cW p)<10 ^ eN∧bN (qD p)<10 ^ eN∧bN (cW p)≤bN (qD p):=by
 unfold cPE at h
 split at h
 ·rename_i he
  exact absurd h he
 ·rename_i he
  have he':qE p=0:=Decidable.not_not.1 he
  split at h
  ·cases h
  ·rename_i h2
   split at h
   ·cases h
   ·rename_i h3
    obtain⟨a,b,c,d,e1,e2⟩:=l0C he' (fun h=>h2 (.inl h)) h3;refine⟨a,b,c,d,?_⟩;have h4:¬ 0<k0M (cW p).data.toList (qD p).data.toList:=fun h=>h2 (.inr h)
    rw[k0M,if_pos ⟨e1,e2⟩,b0G]at h4;show dv _≤dv _
    split at h4
    ·omega
    ·split at h4
     ·simp at h4
     ·omega
theorem i0J (N D:Nat):∀ (l:List UInt8) (K T:Nat),(b0Z N D K T l).2.2≤l.length
 | [],K,T=>by
  cases h:sdB N D K T
  ·rw[e0l h];simp
  ·rw[c0r h];simp
 | b::r,K,T=>by
  cases h:sdB N D K T
  ·rw[e0k h];have:=i0J N D r (2*K+(if b=49 then 1 else 0)) (2*T);simp only[List.length_cons];omega
  ·rw[c0r h];simp
theorem l0d (N D:Nat):∀ (l:List UInt8) (K T:Nat),(b0Z N D K T l).2.1≤1
 | [],K,T=>by
  cases h:sdB N D K T
  ·rw[e0l h];simp
  ·rw[c0r h];simp only[sdV];split<;>omega
 | b::r,K,T=>by
  cases h:sdB N D K T
  ·rw[e0k h];exact l0d N D r _ _
  ·rw[c0r h];simp only[sdV];split<;>omega
theorem q0y {N D:Nat}(h:N<D){l:List UInt8}(hd:(b0Z N D 0 1 l).1=true)(hv:(b0Z N D 0 1 l).2.1=1):1≤(b0Z N D 0 1 l).2.2:=by
 cases hs:sdB N D 0 1
 ·cases l with
  | nil=>rw[e0l hs]at hd;cases hd
  | cons b r=>rw[e0k hs];simp
 ·rw[c0r hs]at hv;simp only[sdV,Nat.mul_one,Nat.zero_mul]at hv;simp only[sdB,Nat.mul_one,Nat.zero_mul,Nat.zero_add,Bool.or_eq_true,decide_eq_true_eq]at hs
  split at hv
  ·cases hv
  ·omega
def a0y (N D:Nat)(l:List UInt8)(p:Nat):Bool×Nat×Nat:=b0R N D (l.drop p) 0 1 0
theorem f0u (N D:Nat)(l:List UInt8)(p:Nat):a0y N D l p=b0Z N D 0 1 (l.drop p):=by simp[a0y,b0R]
def d0U (pre:List (Nat×Nat)):Nat:=match pre.getLast? with | some x=>x.1 | none=>0
theorem o0w:d0U []=0:=rfl
theorem b0a (pre:List (Nat×Nat))(x:Nat×Nat):d0U (pre ++ [x])=x.1:=by simp[d0U]
theorem a0R {N D:Nat}{l:List UInt8}{p:Nat}(hp:p≤l.length):p+(a0y N D l p).2.2≤l.length:=by
 rw[f0u];have:=i0J N D (l.drop p) 0 1;rw[List.length_drop]at this;omega
def ser (N D:Nat)(l:List UInt8):Nat→Nat→Nat→List Nat→Nat→Option (List Nat×Nat)
 | 0,_,_,_,_=>none
 | f+1,m,p,vs,n=>
  if (a0y N D l p).1=false then none
  else if (a0y N D l p).2.1=1 then ser N D l f m (p+(a0y N D l p).2.2) vs (n+1)
  else if m≤1 then some (vs ++ [n],p+(a0y N D l p).2.2)
  else ser N D l f (m-1) (p+(a0y N D l p).2.2) (vs ++ [n]) 0
theorem a0X {N D:Nat}(h:N<D){l:List UInt8}{p:Nat}(hd:(a0y N D l p).1=true)(hv:(a0y N D l p).2.1=1):1≤(a0y N D l p).2.2:=by
 rw[f0u]at *;exact q0y h hd hv
theorem q0T {N D:Nat}(h:N<D){l:List UInt8}:∀ (f f' m p:Nat) (vs:List Nat) (n:Nat),1≤m→p≤l.length→l.length-p+m≤f→l.length-p+m≤f'→ser N D l f m p vs n=ser N D l f' m p vs n:=by
 intro f
 induction f with
 | zero=>intro f' m p vs n hm hp h1 h2;omega
 | succ f ih=>
  intro f' m p vs n hm hp h1 h2;cases f' with
  | zero=>omega
  | succ f'=>
   have hle:=a0R (N:=N) (D:=D) hp;simp only[ser]
   split
   ·rfl
   ·rename_i hd
    have hd':(a0y N D l p).1=true:=by simpa using hd
    split
    ·rename_i hv
     have:=a0X h hd' hv;exact ih _ _ _ _ _ hm hle (by omega) (by omega)
    ·split
     ·rfl
     ·exact ih _ _ _ _ _ (by omega) hle (by omega) (by omega)
def sr (N D:Nat)(l:List UInt8)(m p:Nat)(vs:List Nat)(n:Nat):Option (List Nat×Nat):=ser N D l (l.length-p+m) m p vs n
theorem v0u {N D:Nat}(h:N<D){l:List UInt8}{f m p n:Nat}{vs:List Nat}(hm:1≤m)(hp:p≤l.length)(hf:l.length-p+m≤f):ser N D l f m p vs n=sr N D l m p vs n:=q0T h _ _ _ _ _ _ hm hp hf (Nat.le_refl _)
theorem e0q {N D:Nat}{l:List UInt8}{m p n:Nat}{vs:List Nat}(hm:1≤m):sr N D l m p vs n=ser N D l ((l.length-p+m-1)+1) m p vs n:=by
 unfold sr;rw[show l.length-p+m-1+1=l.length-p+m by omega]
theorem b0m {N D:Nat}{l:List UInt8}{m p n:Nat}{vs:List Nat}(hm:1≤m)(hd:(a0y N D l p).1=false):sr N D l m p vs n=none:=by
 rw[e0q hm,ser,if_pos hd]
theorem e0r {N D:Nat}(h:N<D){l:List UInt8}{m p n:Nat}{vs:List Nat}(hm:1≤m)(hp:p≤l.length)(hd:(a0y N D l p).1=true)(hv:(a0y N D l p).2.1=1):sr N D l m p vs n=sr N D l m (p+(a0y N D l p).2.2) vs (n+1):=by
 have hle:=a0R (N:=N) (D:=D) hp;have:=a0X h hd hv;rw[e0q hm,ser,if_neg (by simp[hd]),if_pos hv];exact v0u h hm hle (by omega)
theorem b0w {N D:Nat}{l:List UInt8}{p n:Nat}{vs:List Nat}(hd:(a0y N D l p).1=true)(hv:¬ (a0y N D l p).2.1=1):sr N D l 1 p vs n=some (vs ++ [n],p+(a0y N D l p).2.2):=by
 rw[e0q (Nat.le_refl 1),ser,if_neg (by simp[hd]),if_neg hv,if_pos (Nat.le_refl 1)]
theorem k0g {N D:Nat}(h:N<D){l:List UInt8}{m p n:Nat}{vs:List Nat}(hm:2≤m)(hp:p≤l.length)(hd:(a0y N D l p).1=true)(hv:¬ (a0y N D l p).2.1=1):sr N D l m p vs n=sr N D l (m-1) (p+(a0y N D l p).2.2) (vs ++ [n]) 0:=by
 have hle:=a0R (N:=N) (D:=D) hp;rw[e0q (by omega),ser,if_neg (by simp[hd]),if_neg hv,if_neg (by omega)];exact v0u h (by omega) hle (by omega)
def s1 (N D:Nat)(l:List UInt8)(p n:Nat):Option (Nat×Nat):=match sr N D l 1 p [] n with | some (x::_,at')=>some (x,at') | _=>none
theorem i0Q {N D:Nat}(h:N<D){l:List UInt8}:∀ (f p:Nat) (vs:List Nat) (n:Nat),p≤l.length→l.length-p≤f→sr N D l 1 p vs n=match s1 N D l p n with | some (x,a)=>some (vs ++ [x],a) | none=>none:=by
 intro f
 induction f with
 | zero=>
  intro p vs n hp hf;cases hd:(a0y N D l p).1
  ·rw[s1,b0m (Nat.le_refl 1) hd,b0m (Nat.le_refl 1) hd]
  ·by_cases hv:(a0y N D l p).2.1=1
   ·have:=a0X h hd hv;have:=a0R (N:=N) (D:=D) hp;omega
   ·rw[s1,b0w hd hv,b0w hd hv]
    rfl
 | succ f ih=>
  intro p vs n hp hf;cases hd:(a0y N D l p).1
  ·rw[s1,b0m (Nat.le_refl 1) hd,b0m (Nat.le_refl 1) hd]
  ·by_cases hv:(a0y N D l p).2.1=1
   ·have:=a0X h hd hv;have hle:=a0R (N:=N) (D:=D) hp;rw[s1,e0r h (Nat.le_refl 1) hp hd hv,e0r h (Nat.le_refl 1) hp hd hv,ih _ _ _ hle (by omega)]
    rfl
   ·rw[s1,b0w hd hv,b0w hd hv]
    rfl
theorem q0X {N D:Nat}(h:N<D){l:List UInt8}:∀ (f p n x a:Nat),p≤l.length→l.length-p≤f→s1 N D l p n=some (x,a)→p≤a∧a≤l.length∧x≤n+(a-p):=by
 intro f
 induction f with
 | zero=>
  intro p n x a hp hf hs;cases hd:(a0y N D l p).1
  ·rw[s1,b0m (Nat.le_refl 1) hd]at hs;cases hs
  ·by_cases hv:(a0y N D l p).2.1=1
   ·have:=a0X h hd hv;have:=a0R (N:=N) (D:=D) hp;omega
   ·rw[s1,b0w hd hv]at hs;simp at hs;have:=a0R (N:=N) (D:=D) hp;omega
 | succ f ih=>
  intro p n x a hp hf hs;cases hd:(a0y N D l p).1
  ·rw[s1,b0m (Nat.le_refl 1) hd]at hs;cases hs
  ·by_cases hv:(a0y N D l p).2.1=1
   ·have:=a0X h hd hv;have hle:=a0R (N:=N) (D:=D) hp;rw[s1,e0r h (Nat.le_refl 1) hp hd hv]at hs;have:=ih _ _ _ _ hle (by omega) hs;omega
   ·rw[s1,b0w hd hv]at hs;simp at hs;have:=a0R (N:=N) (D:=D) hp;omega
theorem v0t {N D:Nat}(h:N<D){l:List UInt8}:∀ (f p:Nat) (vs:List Nat) (n:Nat),p≤l.length→l.length-p≤f→sr N D l 2 p vs n=match s1 N D l p n with
 | some (x,a)=>sr N D l 1 a (vs ++ [x]) 0
 | none=>none:=by
 intro f
 induction f with
 | zero=>
  intro p vs n hp hf;cases hd:(a0y N D l p).1
  ·rw[s1,b0m (by omega) hd,b0m (Nat.le_refl 1) hd]
  ·by_cases hv:(a0y N D l p).2.1=1
   ·have:=a0X h hd hv;have:=a0R (N:=N) (D:=D) hp;omega
   ·rw[s1,b0w hd hv,k0g h (Nat.le_refl 2) hp hd hv]
    rfl
 | succ f ih=>
  intro p vs n hp hf;cases hd:(a0y N D l p).1
  ·rw[s1,b0m (by omega) hd,b0m (Nat.le_refl 1) hd]
  ·by_cases hv:(a0y N D l p).2.1=1
   ·have:=a0X h hd hv;have hle:=a0R (N:=N) (D:=D) hp;rw[s1,e0r h (by omega) hp hd hv,e0r h (Nat.le_refl 1) hp hd hv,ih _ _ _ hle (by omega)]
    rfl
   ·rw[s1,b0w hd hv,k0g h (Nat.le_refl 2) hp hd hv]
    rfl
theorem h0g (N D:Nat)(l:List UInt8)(a q:Nat):a0y N D (l.drop a) q=a0y N D l (a+q):=by
 unfold a0y;rw[List.drop_drop]
theorem o0j {N D:Nat}(h:N<D){l:List UInt8}{a:Nat}(ha:a≤l.length):∀ (f q n:Nat),a+q≤l.length→l.length-(a+q)≤f→s1 N D l (a+q) n=(s1 N D (l.drop a) q n).map (fun x=>(x.1,a+x.2)):=by
 intro f
 induction f with
 | zero=>
  intro q n hp hf;have hc:=h0g N D l a q;cases hd:(a0y N D l (a+q)).1
  ·rw[s1,s1,b0m (Nat.le_refl 1) hd,b0m (Nat.le_refl 1) (by rw[hc];exact hd)]
   rfl
  ·by_cases hv:(a0y N D l (a+q)).2.1=1
   ·have:=a0X h hd hv;have:=a0R (N:=N) (D:=D) hp;omega
   ·rw[s1,s1,b0w hd hv,b0w (by rw[hc];exact hd) (by rw[hc];exact hv),hc];simp[Nat.add_assoc]
 | succ f ih=>
  intro q n hp hf;have hc:=h0g N D l a q;cases hd:(a0y N D l (a+q)).1
  ·rw[s1,s1,b0m (Nat.le_refl 1) hd,b0m (Nat.le_refl 1) (by rw[hc];exact hd)]
   rfl
  ·by_cases hv:(a0y N D l (a+q)).2.1=1
   ·have:=a0X h hd hv;have hle:=a0R (N:=N) (D:=D) hp;have ih':=ih (q+(a0y N D l (a+q)).2.2) (n+1) (by omega) (by omega);rw[← Nat.add_assoc]at ih';rw[s1,s1,e0r h (Nat.le_refl 1) hp hd hv,e0r (l:=l.drop a) (p:=q) h (Nat.le_refl 1) (by rw[List.length_drop];omega) (by rw[hc];exact hd) (by rw[hc];exact hv),hc];exact ih'
   ·rw[s1,s1,b0w hd hv,b0w (by rw[hc];exact hd) (by rw[hc];exact hv),hc];simp[Nat.add_assoc]
end Go.Proofs.YtlmnpocifldpmaaGreatDoor
namespace Go.Proofs.YtlmnpocifldpmaaGreatDoor
open Go.RowKit
theorem e0u {N D:Nat}{l:List UInt8}{p n:Nat}(hd:(a0y N D l p).1=false):s1 N D l p n=none:=by
 unfold s1;rw[b0m (Nat.le_refl 1) hd]
theorem h0w {N D:Nat}(h:N<D){l:List UInt8}{p n:Nat}(hp:p≤l.length)(hd:(a0y N D l p).1=true)(hv:(a0y N D l p).2.1=1):s1 N D l p n=s1 N D l (p+(a0y N D l p).2.2) (n+1):=by
 unfold s1;rw[e0r h (Nat.le_refl 1) hp hd hv]
theorem e0t {N D:Nat}{l:List UInt8}{p n:Nat}(hd:(a0y N D l p).1=true)(hv:¬ (a0y N D l p).2.1=1):s1 N D l p n=some (n,p+(a0y N D l p).2.2):=by
 unfold s1;rw[b0w hd hv];rfl
theorem q0W {N D:Nat}(h:N<D){l:List UInt8}:∀ (f p n:Nat),p≤l.length→l.length-p≤f→s1 N D l p (n+1)=(s1 N D l p n).map (fun x=>(x.1+1,x.2)):=by
 intro f
 induction f with
 | zero=>
  intro p n hp hf;cases hd:(a0y N D l p).1
  ·rw[e0u hd,e0u hd];rfl
  ·by_cases hv:(a0y N D l p).2.1=1
   ·have:=a0X h hd hv;have:=a0R (N:=N) (D:=D) hp;omega
   ·rw[e0t hd hv,e0t hd hv];rfl
 | succ f ih=>
  intro p n hp hf;cases hd:(a0y N D l p).1
  ·rw[e0u hd,e0u hd];rfl
  ·by_cases hv:(a0y N D l p).2.1=1
   ·have:=a0X h hd hv;have hle:=a0R (N:=N) (D:=D) hp;rw[h0w h hp hd hv,h0w h hp hd hv,ih _ (n+1) hle (by omega)]
   ·rw[e0t hd hv,e0t hd hv];rfl
def f0p (N D i:Nat)(l:List UInt8):Bool:=match s1 N D l 0 0 with | none=>false | some (x,_)=>decide (x=i)
def f0k (N D i k:Nat)(l:List UInt8):Bool:=match s1 N D l 0 0 with | none=>false | some (x,p)=>decide (x=i) && f0p N D k (l.drop p)
theorem o0k {N D:Nat}(h:N<D)(l:List UInt8):s1 N D l 0 0=if (b0Z N D 0 1 l).1=true then (if (b0Z N D 0 1 l).2.1=1 then (s1 N D (l.drop (b0Z N D 0 1 l).2.2) 0 0).map (fun x=>(x.1+1,(b0Z N D 0 1 l).2.2+x.2)) else some (0,(b0Z N D 0 1 l).2.2)) else none:=by
 have e:=f0u N D l 0;rw[List.drop_zero]at e;cases hd:(b0Z N D 0 1 l).1
 ·rw[e0u (by rw[e];exact hd)];rfl
 ·rw[if_pos rfl];by_cases hv:(b0Z N D 0 1 l).2.1=1
  ·have hle:=a0R (N:=N) (D:=D) (l:=l) (p:=0) (Nat.zero_le _);rw[e,Nat.zero_add]at hle;rw[if_pos hv,h0w h (Nat.zero_le _) (by rw[e];exact hd) (by rw[e];exact hv),e,q0W h l.length _ _ (by omega) (by omega)];have:=o0j h (l:=l) (a:=(b0Z N D 0 1 l).2.2) (by omega) l.length 0 0 (by omega) (by omega);rw[Nat.add_zero]at this;rw[Nat.zero_add,this,Option.map_map]
   rfl
  ·rw[if_neg hv,e0t (by rw[e];exact hd) (by rw[e];exact hv),e,Nat.zero_add]
theorem f0X {N D:Nat}(h:N<D)(i:Nat)(l:List UInt8):f0p N D i l=b0F N D 0 1 (match i with | 0=>fun _=>false | i+1=>f0p N D i) (fun _=>decide (i=0)) l:=by
 unfold b0F;rw[f0p,o0k h];cases hd:(b0Z N D 0 1 l).1
 ·rfl
 ·rw[if_pos rfl,Bool.true_and];by_cases hv:(b0Z N D 0 1 l).2.1=1
  ·rw[if_pos hv,if_pos hv];cases i with
   | zero=>
    cases s1 N D (l.drop (b0Z N D 0 1 l).2.2) 0 0 with
    | none=>rfl
    | some x=>simp
   | succ i=>
    show _=f0p N D i (l.drop (b0Z N D 0 1 l).2.2)
    rw[f0p];cases s1 N D (l.drop (b0Z N D 0 1 l).2.2) 0 0 with
    | none=>rfl
    | some x=>simp
  ·rw[if_neg hv,if_neg hv];simp only[eq_comm]
theorem f0I {N D:Nat}(h:N<D)(i k:Nat)(l:List UInt8):f0k N D i k l=b0F N D 0 1 (match i with | 0=>fun _=>false | i+1=>f0k N D i k) (fun r=>decide (i=0) && f0p N D k r) l:=by
 unfold b0F;rw[f0k,o0k h];cases hd:(b0Z N D 0 1 l).1
 ·rfl
 ·rw[if_pos rfl,Bool.true_and];by_cases hv:(b0Z N D 0 1 l).2.1=1
  ·rw[if_pos hv,if_pos hv];cases i with
   | zero=>
    cases s1 N D (l.drop (b0Z N D 0 1 l).2.2) 0 0 with
    | none=>rfl
    | some x=>simp
   | succ i=>
    show _=f0k N D i k (l.drop (b0Z N D 0 1 l).2.2)
    rw[f0k];cases s1 N D (l.drop (b0Z N D 0 1 l).2.2) 0 0 with
    | none=>rfl
    | some x=>simp[List.drop_drop]
  ·rw[if_neg hv,if_neg hv];simp only[eq_comm]
def opn (N D:Nat):Nat→Nat→Nat
 | 0=>dlt
 | i+1=>cvo (chi (c0p N D)) (opn N D i)
def edn (N D i:Nat):Nat→Nat:=cvo (chi (a0F N D)) (opn N D i)
theorem d0D (f:Nat→Nat)(n:Nat):cvo f (fun _=>0) n=0:=by
 unfold cvo;rw[a0b (d:=fun _=>0) (fun i _=>Nat.mul_zero _)];exact a0t _
theorem l0W (f g h:Nat→Nat)(n:Nat):cvo f (cvo g h) n=cvo g (cvo f h) n:=by
 rw[← e0M,← e0M];exact a0P (fun s _=>i0k f g s) fun _ _=>rfl
theorem f0t (N D m:Nat):edn N D 0 m=chi (a0F N D) m:=by
 unfold edn opn;rw[i0k,u0H]
theorem l0T (N D i m:Nat):edn N D (i+1) m=cvo (chi (c0p N D)) (edn N D i) m:=by
 unfold edn;rw[opn];exact l0W _ _ _ _
theorem g0l {N D:Nat}(h:N<D):∀ i n,cw n (f0p N D i)=cvo (edn N D i) pw2 n
 | 0,n=>by
  rw[a0Q (Q:=b0F N D 0 1 (fun _=>false) (fun _=>true)) (fun l _=>f0X h 0 l),d0C h,a0P (f':=chi (c0p N D)) (g':=fun _=>0) (fun _ _=>rfl) (fun m _=>c0m m),d0D,Nat.zero_add];exact a0P (fun s _=>(f0t N D s).symm) fun m _=>p0R m
 | i+1,n=>by
  rw[a0Q (Q:=b0F N D 0 1 (f0p N D i) (fun _=>false)) (fun l _=>f0X h (i+1) l),d0C h,a0P (f:=chi (a0F N D)) (f':=chi (a0F N D)) (g':=fun _=>0) (fun _ _=>rfl) (fun m _=>c0m m),d0D,Nat.add_zero];rw[a0P (f':=chi (c0p N D)) (g':=cvo (edn N D i) pw2) (fun _ _=>rfl) (fun m _=>g0l h i m),← e0M];exact a0P (fun s _=>(l0T N D i s).symm) fun _ _=>rfl
theorem g0k {N D:Nat}(h:N<D)(k:Nat):∀ i n,cw n (f0k N D i k)=cvo (edn N D i) (cvo (edn N D k) pw2) n
 | 0,n=>by
  rw[a0Q (Q:=b0F N D 0 1 (fun _=>false) (f0p N D k)) (fun l _=>by rw[f0I h 0 k l];rfl),d0C h,a0P (f':=chi (c0p N D)) (g':=fun _=>0) (fun _ _=>rfl) (fun m _=>c0m m),d0D,Nat.zero_add];exact a0P (fun s _=>(f0t N D s).symm) fun m _=>g0l h k m
 | i+1,n=>by
  rw[a0Q (Q:=b0F N D 0 1 (f0k N D i k) (fun _=>false)) (fun l _=>by rw[f0I h (i+1) k l];rfl),d0C h,a0P (f:=chi (a0F N D)) (f':=chi (a0F N D)) (g':=fun _=>0) (fun _ _=>rfl) (fun m _=>c0m m),d0D,Nat.add_zero];rw[a0P (f':=chi (c0p N D)) (g':=cvo (edn N D i) (cvo (edn N D k) pw2)) (fun _ _=>rfl) (fun m _=>g0k h k i m),← e0M];exact a0P (fun s _=>(l0T N D i s).symm) fun _ _=>rfl
def k0b (N D:Nat)(two:Bool)(l:List UInt8):Option Int:=match s1 N D l 0 0 with
 | none=>none
 | some (x,p)=>if two=true then (match s1 N D (l.drop p) 0 0 with | none=>none | some (y,_)=>some ((x:Int)-(y:Int))) else some (x:Int)
def gV (N D:Nat)(two:Bool)(n:Nat)(v:Int):Nat:=cw n fun l=>decide (k0b N D two l=some v)
def gL (N D:Nat)(two:Bool)(n:Nat):Nat:=cw n fun l=>decide (k0b N D two l=none)
theorem k0o {N D:Nat}(h:N<D){l:List UInt8}{x p:Nat}(hs:s1 N D l 0 0=some (x,p)):p≤l.length∧x≤l.length:=by
 have:=q0X h l.length 0 0 x p (Nat.zero_le _) (by omega) hs;omega
theorem h0k {N D:Nat}(h:N<D){two:Bool}{l:List UInt8}{v:Int}(hv:k0b N D two l=some v) : -(l.length:Int)≤v∧v≤l.length:=by
 unfold k0b at hv;cases hs:s1 N D l 0 0 with
 | none=>rw[hs]at hv;cases hv
 | some xp=>
  obtain⟨x,p⟩:=xp;obtain⟨b1,b2⟩:=k0o h hs;rw[hs]at hv;cases two
  ·simp at hv;omega
  ·simp only[if_true]at hv;cases hs2:s1 N D (l.drop p) 0 0 with
   | none=>rw[hs2]at hv;cases hv
   | some yq=>
    obtain⟨y,q⟩:=yq;obtain⟨b3,b4⟩:=k0o h hs2;rw[hs2]at hv;rw[List.length_drop]at b4;simp at hv;omega
theorem k0J {n:Nat}{P:List UInt8→Bool}(h:∀ l,l.length=n→P l=false):cw n P=0:=by
 rw[a0Q (Q:=fun _=>false) h,c0m]
theorem c0w {N D:Nat}(h:N<D){two:Bool}{n:Nat}{v:Int}(hv:v < -(n:Int)∨(n:Int)<v):gV N D two n v=0:=by
 refine k0J fun l hl=>decide_eq_false fun e=>?_
 have:=h0k h e;omega
theorem w0w (N D n:Nat)(v:Int):gV N D false n v=if 0≤v then cw n (f0p N D v.toNat) else 0:=by
 unfold gV
 split
 ·rename_i h0
  refine a0Q fun l hl=>?_
  unfold k0b f0p;cases s1 N D l 0 0 with
  | none=>rfl
  | some xp=>
   obtain⟨x,p⟩:=xp;simp only[Bool.false_eq_true,if_false];rw[decide_eq_decide,Option.some.injEq];omega
 ·rename_i h0
  refine k0J fun l hl=>decide_eq_false fun e=>?_
  unfold k0b at e;cases hs:s1 N D l 0 0 with
  | none=>rw[hs]at e;cases e
  | some xp=>rw[hs]at e;simp at e;omega
theorem f0f {α : Type}(g : α→Option (Nat×Nat))(Q:Nat→Nat→Bool)(M:Nat):∀ L:List α,(∀ x∈L,∀ i k,g x=some (i,k)→i<M∧k<M) →
 L.countP (fun x=>match g x with | none=>false | some p=>Q p.1 p.2)=a0i (fun i=>a0i (fun k=>if Q i k=true then L.countP (fun x=>decide (g x=some (i,k))) else 0) M) M
 | [],_=>by
  have h2:∀ i,a0i (fun k=>if Q i k=true then ([]:List α).countP (fun x=>decide (g x=some (i,k))) else 0) M=0:=fun i=>by
   rw[a0b (d:=fun _=>0) (fun k _=>by simp),a0t]
  rw[a0b (d:=fun _=>0) (fun i _=>h2 i),a0t];rfl
 | x::r,h=>by
  have ih:=f0f g Q M r fun y hy=>h y (List.mem_cons_of_mem _ hy)
  have e:∀ i,a0i (fun k=>if Q i k=true then (x::r).countP (fun x=>decide (g x=some (i,k))) else 0) M=a0i (fun k=>if Q i k=true then r.countP (fun x=>decide (g x=some (i,k))) else 0) M+a0i (fun k=>if Q i k=true∧g x=some (i,k) then 1 else 0) M:=fun i=>by
   rw[← c0i];refine a0b fun k _=>?_
   rw[List.countP_cons];by_cases h1:Q i k=true
   ·rw[if_pos h1,if_pos h1]
    congr 1
    simp[h1]
   ·rw[if_neg h1,if_neg h1,if_neg (fun hh=>h1 hh.1)]
  rw[List.countP_cons,ih,a0b (fun i _=>e i),c0i]
  congr 1
  cases hg:g x with
  | none=>
   rw[a0b (d:=fun _=>0) (fun i _=>by rw[a0b (d:=fun _=>0) (fun k _=>by simp),a0t]),a0t];simp
  | some p=>
   obtain⟨a,b⟩:=p;obtain⟨ha,hb⟩:=h x (List.mem_cons_self ..) a b hg;by_cases hq:Q a b=true
   ·have e2:∀ i,a0i (fun k=>if Q i k=true∧some (a,b)=some (i,k) then 1 else 0) M=if a=i then 1 else 0:=fun i=>by
     by_cases h1:a=i
     ·subst h1;rw[if_pos rfl,a0b (d:=fun k=>if b=k then 1 else 0) (fun k _=>by
       by_cases h2:b=k
       ·subst h2;simp[hq]
       ·rw[if_neg h2,if_neg (by simp;exact fun _=>h2)])]
      rw[e0p,if_pos hb]
     ·rw[if_neg h1,a0b (d:=fun _=>0) (fun k _=>if_neg (by simp;exact fun _ hh=>absurd hh h1)),a0t]
    rw[a0b (fun i _=>e2 i),e0p,if_pos ha];simp[hq]
   ·rw[a0b (d:=fun _=>0) (fun i _=>by rw[a0b (d:=fun _=>0) (fun k _=>if_neg (by rintro⟨h1,h2⟩;simp at h2;obtain⟨rfl,rfl⟩:=h2;exact hq h1)),a0t]),a0t];simp[hq]
def v0q (N D:Nat)(l:List UInt8):Option (Nat×Nat):=match s1 N D l 0 0 with
 | none=>none
 | some (x,p)=>match s1 N D (l.drop p) 0 0 with | none=>none | some (y,_)=>some (x,y)
theorem n0D (N D i k:Nat)(l:List UInt8):decide (v0q N D l=some (i,k))=f0k N D i k l:=by
 rw[Bool.eq_iff_iff,decide_eq_true_iff];unfold v0q f0k f0p;cases s1 N D l 0 0 with
 | none=>simp
 | some xp=>
  obtain⟨x,p⟩:=xp;dsimp only;cases s1 N D (l.drop p) 0 0 with
  | none=>simp
  | some yq=>simp
theorem l0P {N D:Nat}(h:N<D)(n:Nat)(v:Int):gV N D true n v=a0i (fun i=>a0i (fun k=>if (i:Int)-(k:Int)=v then cw n (f0k N D i k) else 0) (n+1)) (n+1):=by
 have h1:=f0f (v0q N D) (fun i k=>decide ((i:Int)-(k:Int)=v)) (n+1) (q0k n) (fun l hl i k hg=>by
  have hn:=f0x hl;unfold v0q at hg;cases hs:s1 N D l 0 0 with
  | none=>rw[hs]at hg;cases hg
  | some xp=>
   obtain⟨x,p⟩:=xp;obtain⟨b1,b2⟩:=k0o h hs;rw[hs]at hg;dsimp only at hg;cases hs2:s1 N D (l.drop p) 0 0 with
   | none=>rw[hs2]at hg;cases hg
   | some yq=>
    obtain⟨y,q⟩:=yq;obtain⟨b3,b4⟩:=k0o h hs2;rw[hs2]at hg;rw[List.length_drop]at b4;simp at hg;omega)
 unfold gV;rw[← h0d];refine Eq.trans ?_ (h1.trans ?_)
 ·refine List.countP_congr fun l hl=>?_
  unfold k0b v0q;cases s1 N D l 0 0 with
  | none=>simp
  | some xp=>
   obtain⟨x,p⟩:=xp;simp only[if_true];cases s1 N D (l.drop p) 0 0 with
   | none=>simp
   | some yq=>simp
 ·refine a0b fun i _=>a0b fun k _=>?_
  simp only[decide_eq_true_eq]
  split
  ·rw[h0d];exact a0Q fun l _=>n0D N D i k l
  ·rfl
theorem l0Q {N D:Nat}(h:N<D)(two:Bool)(n:Nat):a0i (fun j=>gV N D two n ((j:Int)-(n:Int))) (2*n+1)+gL N D two n=2 ^ n:=by
 have h1:=j0K (fun l=>((k0b N D two l).isSome,((k0b N D two l).getD 0+(n:Int)).toNat)) (2*n+1) (q0k n) (fun l hl hd=>by
  have hn:=f0x hl;dsimp only at hd ⊢;obtain⟨v,hv⟩:=Option.isSome_iff_exists.1 hd;have:=h0k h hv;rw[hv,Option.getD_some];omega)
 rw[g0r]at h1;rw[← h1]
 congr 1
 ·refine a0b fun j hj=>?_
  unfold gV;rw[← h0d];refine List.countP_congr fun l hl=>?_
  have hn:=f0x hl;cases hv:k0b N D two l with
  | none=>simp
  | some v=>
   have:=h0k h hv;simp;omega
 ·unfold gL;rw[← h0d];refine List.countP_congr fun l hl=>?_
  cases k0b N D two l<;>simp
theorem r0P {N D:Nat}(h:N<D)(two:Bool)(n:Nat)(v:Int):gV N D two n v≤2 ^ n:=by
 by_cases hv:v < -(n:Int)∨(n:Int)<v
 ·rw[c0w h hv];exact Nat.zero_le _
 ·have h1:=l0Q h two n;have h2:=n0I (f:=fun j=>gV N D two n ((j:Int)-(n:Int))) (i:=(v+n).toNat) (n:=2*n+1) (by omega);rw[show ((v+(n:Int)).toNat:Int)-(n:Int)=v by omega]at h2;omega
open Go.Lib (decDigits nDigits)
def q0s (l:List Nat):List Value:=l.map fun n=>.string (a0f n)
@[simp] theorem numL_length (l:List Nat):(q0s l).length=l.length:=by simp[q0s]
theorem r0w {l:List Nat}{i:Nat}(h:i<l.length):(q0s l)[i]?=some (.string (a0f (l.getD i 0))):=by
 simp[q0s,List.getD_eq_getElem?_getD,List.getElem?_eq_getElem h]
theorem r0v (l:List Nat)(i x:Nat):(q0s l).set i (.string (a0f x))=q0s (l.set i x):=by simp[q0s,List.map_set]
def j0R (c:Bool)(k x:Nat)(l:List Nat):List Nat:=if c=true then l.set k (l.getD k 0+x) else l
theorem j0Q (c:Bool)(k x:Nat)(l:List Nat):(j0R c k x l).length=l.length:=by unfold j0R;split<;>simp
theorem c0Q (k x:Nat)(l:List Nat):j0R false k x l=l:=rfl
theorem d0I (k x:Nat)(l:List Nat):j0R true k x l=l.set k (l.getD k 0+x):=rfl
theorem q0m (c:Bool){k x:Nat}{l:List Nat}(hk:k<l.length)(i:Nat):(j0R c k x l).getD i 0=l.getD i 0+(if c=true∧i=k then x else 0):=by
 cases c
 ·rw[c0Q];simp
 ·rw[d0I,List.getD_eq_getElem?_getD,List.getD_eq_getElem?_getD,List.getElem?_set];by_cases h:k=i
  ·subst h;simp[hk,List.getD_eq_getElem?_getD]
  ·simp[h,show ¬ i=k from fun e=>h e.symm]
theorem a0g {x i:Nat}(h:x≤2 ^ i)(hi:i≤3000):nDigits x≤4000:=by
 refine Nat.le_trans (b0M h) ?_;have h1:2 ^ i<10 ^ (i+1):=by
  have h2:2 ^ i≤10 ^ i:=Nat.pow_le_pow_left (by omega) i;have h3:10 ^ i<10 ^ (i+1):=Nat.pow_lt_pow_right (by omega) (by omega);omega
 exact Nat.le_trans (a0j (Nat.succ_pos i) h1) (by omega)
end Go.Proofs.YtlmnpocifldpmaaGreatDoor
namespace Go.Proofs.YtlmnpocifldpmaaGreatDoor
open Go.RowKit
def aIn (c:Nat→Bool)(x i:Nat):Nat→List Nat→List Nat
 | 0,l=>l
 | j+1,l=>j0R (c j) (i+j) x (aIn c x i j l)
def d0M (c:Nat→Bool)(O:List Nat)(n:Nat):Nat→List Nat
 | 0=>List.replicate (n+1) 0
 | i+1=>aIn c (O.getD i 0) i (n+1-i) (d0M c O n i)
theorem c0B (c:Nat→Bool)(x i:Nat):∀ (j:Nat) (l:List Nat),(aIn c x i j l).length=l.length
 | 0,l=>rfl
 | j+1,l=>by rw[aIn,j0Q,c0B c x i j l]
theorem c0f (c:Nat→Bool)(O:List Nat)(n:Nat):∀ i,(d0M c O n i).length=n+1
 | 0=>by simp[d0M]
 | i+1=>by rw[d0M,c0B,c0f c O n i]
theorem n0m (b:Bool)(k:Nat)(l:List Nat):j0R b k 0 l=l:=by
 unfold j0R
 split
 ·rw[Nat.add_zero];apply List.ext_getElem?
  intro m;rw[List.getElem?_set]
  split
  ·rename_i h
   subst h
   split
   ·rename_i hk
    rw[List.getD_eq_getElem?_getD,List.getElem?_eq_getElem hk];rfl
   ·rename_i hk
    rw[List.getElem?_eq_none (by omega)]
  ·rfl
 ·rfl
theorem i0u (c:Nat→Bool)(i:Nat):∀ (j:Nat) (l:List Nat),aIn c 0 i j l=l
 | 0,l=>rfl
 | j+1,l=>by rw[aIn,n0m,i0u c i j l]
theorem k0U {c:Nat→Bool}{x i n:Nat}{l:List Nat}(hl:l.length=n+1):∀ {j:Nat},i+j≤n+1→∀ k,(aIn c x i j l).getD k 0=l.getD k 0+(if i≤k∧k<i+j∧c (k-i)=true then x else 0)
 | 0,_,k=>by rw[aIn,if_neg (by omega)];rfl
 | j+1,h,k=>by
  rw[aIn,q0m _ (by rw[c0B];omega),k0U hl (by omega) k,Nat.add_assoc]
  congr 1
  by_cases hk:k=i+j
  ·subst hk;rw[if_neg (by omega),show i+j-i=j by omega,Nat.zero_add];by_cases hc:c j=true
   ·rw[if_pos ⟨hc,rfl⟩,if_pos ⟨by omega,by omega,hc⟩]
   ·rw[if_neg (fun h=>hc h.1),if_neg (fun h=>hc h.2.2)]
  ·have e0:(if c j=true∧k=i+j then x else 0)=0:=if_neg (fun h=>hk h.2);rw[e0,Nat.add_zero];by_cases hc:i≤k∧k<i+j∧c (k-i)=true
   ·rw[if_pos hc,if_pos ⟨hc.1,by omega,hc.2.2⟩]
   ·rw[if_neg hc,if_neg (fun h=>hc ⟨h.1,by omega,h.2.2⟩)]
theorem f0z {c:Nat→Bool}{O:List Nat}{n:Nat}:∀ {i:Nat},i≤n+1→∀ k,k≤n→(d0M c O n i).getD k 0=a0i (fun i'=>if i'≤k∧c (k-i')=true then O.getD i' 0 else 0) i
 | 0,_,k,hk=>by simp[d0M,a0i,List.getD_eq_getElem?_getD,List.getElem?_replicate,show k<n+1 by omega]
 | i+1,h,k,hk=>by
  rw[d0M,k0U (c0f c O n i) (by omega),f0z (by omega) k hk,a0i]
  congr 1
  by_cases hc:i≤k∧c (k-i)=true
  ·rw[if_pos hc,if_pos ⟨hc.1,by omega,hc.2⟩]
  ·rw[if_neg hc,if_neg (fun h=>hc ⟨h.1,h.2.2⟩)]
def fnL (f:Nat→Nat)(n:Nat):List Nat:=(List.range (n+1)).map f
theorem e0S (f:Nat→Nat)(n:Nat):(fnL f n).length=n+1:=by simp[fnL]
theorem g0g {f:Nat→Nat}{n k:Nat}(h:k≤n):(fnL f n).getD k 0=f k:=by simp[fnL,List.getD_eq_getElem?_getD,show k<n+1 by omega]
theorem p0u {l:List Nat}{f:Nat→Nat}{n:Nat}(hl:l.length=n+1)(h:∀ k,k≤n→l.getD k 0=f k):l=fnL f n:=by
 apply List.ext_getElem?
 intro k;by_cases hk:k≤n
 ·have h1:=h k hk;rw[List.getD_eq_getElem?_getD,List.getElem?_eq_getElem (by omega)]at h1;rw[List.getElem?_eq_getElem (by omega)];simp only[Option.getD_some]at h1;rw[h1];simp[fnL,show k<n+1 by omega]
 ·rw[List.getElem?_eq_none (by omega),List.getElem?_eq_none (by rw[e0S];omega)]
theorem q0n {c:Nat→Bool}{f:Nat→Nat}{n:Nat}:d0M c (fnL f n) n (n+1)=fnL (cvo (chi c) f) n:=by
 refine p0u (c0f _ _ _ _) fun k hk=>?_
 rw[f0z (Nat.le_refl _) k hk,i0k];unfold cvo;have e:∀ m,a0i (fun i'=>if i'≤k∧c (k-i')=true then (fnL f n).getD i' 0 else 0) (k+1+m)=a0i (fun i'=>if i'≤k∧c (k-i')=true then (fnL f n).getD i' 0 else 0) (k+1):=fun m=>by
  induction m with
  | zero=>rfl
  | succ m ih=>rw[← Nat.add_assoc,a0i,ih,if_neg (by omega)];rfl
 rw[show n+1=k+1+(n-k) by omega,e];refine a0b fun i hi=>?_
 rw[g0g (by omega)];unfold chi;by_cases hc:c (k-i)=true
 ·rw[if_pos ⟨by omega,hc⟩,if_pos hc,Nat.mul_one]
 ·rw[if_neg (fun h=>hc h.2),if_neg hc,Nat.mul_zero]
def h0M (N D n i:Nat):List Nat:=fnL (opn N D i) n
def n0o (N D n i:Nat):List Nat:=fnL (edn N D i) n
theorem o0G (N D n:Nat):(List.replicate (n+1) 0).set 0 1=h0M N D n 0:=by
 refine p0u (by simp) fun k hk=>?_
 rw[List.getD_eq_getElem?_getD,List.getElem?_set];unfold opn dlt;by_cases h:k=0
 ·subst h;simp
 ·rw[if_neg (fun e=>h e.symm),if_neg h];simp[List.getElem?_replicate,show k<n+1 by omega]
theorem j0l (N D n i:Nat):d0M (c0p N D) (h0M N D n i) n (n+1)=h0M N D n (i+1):=q0n
theorem p0E (N D n i:Nat):d0M (a0F N D) (h0M N D n i) n (n+1)=n0o N D n i:=q0n
theorem s0V {c:Nat→Bool}{f:Nat→Nat}{B n:Nat}(h:∀ s,s≤n→f s≤B):∀ k,k≤n→cvo (chi c) f k≤(n+1)*B:=fun k hk=>by
 unfold cvo;have h1:a0i (fun s=>chi c s*f (k-s)) (k+1)≤a0i (fun _=>B) (k+1):=d0R fun s hs=>by
  have:=w0L c s;have:=h (k-s) (by omega)
  calc chi c s*f (k-s)≤1*f (k-s):=Nat.mul_le_mul_right _ (by assumption)
   _≤B:=by omega
 have h2:∀ m,a0i (fun _=>B) m=m*B:=fun m=>by
  induction m with
  | zero=>simp[a0i]
  | succ m ih=>rw[a0i,ih,Nat.succ_mul]
 rw[h2]at h1;exact Nat.le_trans h1 (Nat.mul_le_mul_right _ (by omega))
theorem l0E {N D n:Nat}(hn:n≤32):∀ i s,s≤n→opn N D i s≤2 ^ (6*i)
 | 0,s,hs=>by unfold opn dlt;split<;>simp
 | i+1,s,hs=>by
  have h:=s0V (c:=c0p N D) (f:=opn N D i) (B:=2 ^ (6*i)) (n:=n) (fun s hs=>l0E hn i s hs) s hs;rw[opn];refine Nat.le_trans h ?_;rw[show 6*(i+1)=6+6*i by omega,Nat.pow_add];exact Nat.mul_le_mul_right _ (by omega)
theorem p0D {N D n:Nat}(hn:n≤32)(i s:Nat)(hs:s≤n):edn N D i s≤2 ^ (6*(i+1)):=by
 have h:=s0V (c:=a0F N D) (f:=opn N D i) (B:=2 ^ (6*i)) (n:=n) (fun s hs=>l0E hn i s hs) s hs;unfold edn;refine Nat.le_trans h ?_;rw[show 6*(i+1)=6+6*i by omega,Nat.pow_add];exact Nat.mul_le_mul_right _ (by omega)
theorem w0X {c:Nat→Bool}{O:List Nat}{n i j k:Nat}(hi:i≤n)(hij:i+j≤n+1)(hk:k≤n):(aIn c (O.getD i 0) i j (d0M c O n i)).getD k 0≤(d0M c O n (n+1)).getD k 0:=by
 rw[k0U (c0f _ _ _ _) hij,f0z (by omega) k hk,f0z (Nat.le_refl _) k hk];refine Nat.le_trans ?_ (b0v (show i+1≤n+1 by omega));rw[a0i];refine Nat.add_le_add_left ?_ _;by_cases hc:i≤k∧c (k-i)=true
 ·rw[if_pos hc];split<;>omega
 ·rw[if_neg hc,if_neg (fun h=>hc ⟨h.1,h.2.2⟩)];exact Nat.le_refl _
def n0l (c:Int→Nat)(v:Int)(x:Nat):Int→Nat:=fun w=>if w=v then c w+x else c w
theorem e0n (f:Nat→Nat→Nat)(m:Nat):∀ n,a0i (fun i=>a0i (fun k=>f i k) m) n=a0i (fun k=>a0i (fun i=>f i k) n) m
 | 0=>by simp only[a0i];rw[a0t]
 | n+1=>by rw[a0i,e0n f m n,← c0i];rfl
theorem t0n (c:Prop)[Decidable c](f:Nat→Nat)(n:Nat):a0i (fun i=>if c then f i else 0) n=if c then a0i f n else 0:=by
 split
 ·rfl
 ·exact a0t n
def c1 (N D n i s:Nat)(v:Int):Nat:=a0i (fun i'=>if (i':Int)=v then a0i (fun s'=>edn N D i' s'*2 ^ (n-s')) (n+1) else 0) i+(if (i:Int)=v then a0i (fun s'=>edn N D i s'*2 ^ (n-s')) s else 0)
theorem u0U (N D n:Nat):c1 N D n 0 0=fun _=>0:=by funext v;simp[c1,a0i]
theorem q0d (N D n i s:Nat):c1 N D n i (s+1)=n0l (c1 N D n i s) (i:Int) (edn N D i s*2 ^ (n-s)):=by
 funext v
 unfold n0l c1;by_cases h:(i:Int)=v
 ·subst h;rw[if_pos rfl,if_pos rfl,if_pos rfl,a0i];omega
 ·rw[if_neg h,if_neg h,if_neg (fun e=>h e.symm)]
theorem s0Z (N D n i:Nat):c1 N D n i (n+1)=c1 N D n (i+1) 0:=by
 funext v
 unfold c1;rw[a0i];simp[a0i]
theorem u0V {N D n i s:Nat}(h:edn N D i s=0):c1 N D n i (s+1)=c1 N D n i s:=by
 rw[q0d,h]
 funext v
 unfold n0l
 split<;>simp
theorem t0a {N D:Nat}(h:N<D)(n:Nat)(v:Int):c1 N D n (n+1) 0 v=gV N D false n v:=by
 rw[w0w];unfold c1;have e:∀ i,a0i (fun s'=>edn N D i s'*2 ^ (n-s')) (n+1)=cw n (f0p N D i):=fun i=>(g0l h i n).symm
 simp only[e];rw[show (if ((n+1:Nat):Int)=v then a0i (fun s'=>edn N D (n+1) s'*2 ^ (n-s')) 0 else 0)=0 by split<;>rfl,Nat.add_zero];by_cases h0:0≤v
 ·rw[if_pos h0];rw[a0b (d:=fun i=>if v.toNat=i then cw n (f0p N D v.toNat) else 0) (fun i _=>by
   by_cases hi:(i:Int)=v
   ·rw[if_pos hi,if_pos (by omega),show v.toNat=i by omega]
   ·rw[if_neg hi,if_neg (by omega)])]
  have e2:∀ m,a0i (fun i=>if v.toNat=i then cw n (f0p N D v.toNat) else 0) m=if v.toNat<m then cw n (f0p N D v.toNat) else 0:=fun m=>by
   induction m with
   | zero=>simp[a0i]
   | succ m ih=>
    rw[a0i,ih];by_cases h1:v.toNat<m
    ·rw[if_pos h1,if_neg (by omega),if_pos (by omega)];rfl
    ·rw[if_neg h1,Nat.zero_add];by_cases h2:v.toNat=m
     ·rw[if_pos h2,if_pos (by omega)]
     ·rw[if_neg h2,if_neg (by omega)]
  rw[e2]
  split
  ·rfl
  ·rename_i hn
   refine (k0J fun l hl=>?_).symm;unfold f0p;cases hs:s1 N D l 0 0 with
   | none=>rfl
   | some xp=>
    obtain⟨x,p⟩:=xp;obtain⟨b1,b2⟩:=k0o h hs;exact decide_eq_false (by omega)
 ·rw[if_neg h0];rw[a0b (d:=fun _=>0) (fun i _=>if_neg (by omega)),a0t]
theorem w0U {N D n i s:Nat}(h:N<D)(hi:i≤n)(hs:s≤n+1)(v:Int):c1 N D n i s v≤gV N D false n v:=by
 rw[← t0a h];have h1:c1 N D n i s v≤c1 N D n (i+1) 0 v:=by
  rw[← s0Z];unfold c1;refine Nat.add_le_add_left ?_ _
  split
  ·exact b0v hs
  ·exact Nat.le_refl _
 refine Nat.le_trans h1 ?_;unfold c1;have e:∀ i,(if ((i:Nat):Int)=v then a0i (fun s'=>edn N D i s'*2 ^ (n-s')) 0 else 0)=0:=fun i=>by split<;>rfl
 rw[e,e];exact b0v (by omega)
def p2 (N D n i s k u:Nat)(v:Int):Nat:=if (i:Int)-(k:Int)=v then a0i (fun u'=>edn N D i s*edn N D k u'*2 ^ (n-s-u')) u else 0
def q2 (N D n i s k:Nat)(v:Int):Nat:=a0i (fun k'=>p2 N D n i s k' (n-s+1) v) k
def r2 (N D n i s:Nat)(v:Int):Nat:=a0i (fun s'=>q2 N D n i s' (n+1) v) s
def t2 (N D n i:Nat)(v:Int):Nat:=a0i (fun i'=>r2 N D n i' (n+1) v) i
def c2 (N D n i s k u:Nat)(v:Int):Nat:=t2 N D n i v+r2 N D n i s v+q2 N D n i s k v+p2 N D n i s k u v
theorem c0H (N D n i s k:Nat)(v:Int):p2 N D n i s k 0 v=0:=by unfold p2;split<;>rfl
theorem u0R (N D n:Nat):c2 N D n 0 0 0 0=fun _=>0:=by funext v;simp[c2,t2,r2,q2,c0H,a0i]
theorem x0N (N D n i s k u:Nat):c2 N D n i s k (u+1)=n0l (c2 N D n i s k u) ((i:Int)-(k:Int)) (edn N D i s*edn N D k u*2 ^ (n-s-u)):=by
 funext v
 unfold n0l c2 p2;by_cases h:(i:Int)-(k:Int)=v
 ·subst h;rw[if_pos rfl,if_pos rfl,if_pos rfl,a0i];omega
 ·rw[if_neg h,if_neg h,if_neg (fun e=>h e.symm)]
theorem u0S {N D n i s k u:Nat}(h:edn N D k u=0):c2 N D n i s k (u+1)=c2 N D n i s k u:=by
 rw[x0N,h]
 funext v
 unfold n0l
 split<;>simp
theorem x0U (N D n i s k:Nat):c2 N D n i s k (n-s+1)=c2 N D n i s (k+1) 0:=by
 funext v
 unfold c2;rw[c0H];unfold q2;rw[a0i];omega
theorem x0O (N D n i s:Nat):c2 N D n i s (n+1) 0=c2 N D n i (s+1) 0 0:=by
 funext v
 unfold c2;rw[c0H,c0H];unfold r2;rw[a0i];simp only[q2,a0i];omega
theorem u0T {N D n i s:Nat}(h:edn N D i s=0):c2 N D n i (s+1) 0 0=c2 N D n i s 0 0:=by
 rw[← x0O]
 funext v
 unfold c2;rw[c0H,c0H];have e:q2 N D n i s (n+1) v=0:=by
  unfold q2;rw[a0b (d:=fun _=>0) (fun k _=>by
   unfold p2
   split
   ·rw[a0b (d:=fun _=>0) (fun u _=>by rw[h,Nat.zero_mul,Nat.zero_mul]),a0t]
   ·rfl),a0t]
 rw[e];simp[q2,a0i]
theorem x0V (N D n i:Nat):c2 N D n i (n+1) 0 0=c2 N D n (i+1) 0 0 0:=by
 funext v
 unfold c2;rw[c0H,c0H];unfold t2;rw[a0i];simp only[q2,r2,a0i]
theorem s0Y {N D:Nat}(h:N<D)(n:Nat)(v:Int):c2 N D n (n+1) 0 0 0 v=gV N D true n v:=by
 rw[l0P h];unfold c2;rw[c0H];simp only[q2,a0i,r2,Nat.add_zero];unfold t2 r2 q2;refine a0b fun i _=>?_
 rw[e0n (fun s k=>p2 N D n i s k (n-s+1) v)];refine a0b fun k _=>?_
 unfold p2;rw[t0n];by_cases hv:(i:Int)-(k:Int)=v
 ·rw[if_pos hv,if_pos hv,g0k h k i n];unfold cvo;refine a0b fun s _=>?_
  rw[← c0h];refine a0b fun u _=>?_
  unfold pw2;rw[Nat.mul_assoc]
 ·rw[if_neg hv,if_neg hv]
theorem w0T {N D n i s k u:Nat}(h:N<D)(hi:i≤n)(hs:s≤n)(hk:k≤n)(hu:u≤n-s+1)(v:Int):c2 N D n i s k u v≤gV N D true n v:=by
 rw[← s0Y h];have a1:p2 N D n i s k u v≤p2 N D n i s k (n-s+1) v:=by
  unfold p2
  split
  ·exact b0v hu
  ·exact Nat.le_refl _
 have a2:q2 N D n i s k v+p2 N D n i s k (n-s+1) v≤q2 N D n i s (n+1) v:=by
  have:q2 N D n i s (k+1) v≤q2 N D n i s (n+1) v:=b0v (by omega);unfold q2 at *;rw[a0i]at this;omega
 have a3:r2 N D n i s v+q2 N D n i s (n+1) v≤r2 N D n i (n+1) v:=by
  have:r2 N D n i (s+1) v≤r2 N D n i (n+1) v:=b0v (by omega);unfold r2 at *;rw[a0i]at this;omega
 have a4:t2 N D n i v+r2 N D n i (n+1) v≤t2 N D n (n+1) v:=by
  have:t2 N D n (i+1) v≤t2 N D n (n+1) v:=b0v (by omega);unfold t2 at *;rw[a0i]at this;omega
 unfold c2;omega
open Go.Maps
open Go.Lib (decDigits nDigits)
def b0p (p:ByteArray×ByteArray):List UInt8:=p.1.data.toList
def a0D (L:List (ByteArray×ByteArray)):List (ByteArray×ByteArray):=L.mergeSort (fun p q=>leB (b0p p) (b0p q))
theorem b0x {L:List (ByteArray×ByteArray)}{p:ByteArray×ByteArray}:p∈a0D L↔p∈L:=List.mem_mergeSort
theorem e0X (L:List (ByteArray×ByteArray)):(a0D L).length=L.length:=List.length_mergeSort L
theorem g0c:∀ a b c:List UInt8,leB a b=true→leB b c=true→leB a c=true:=fun a b c h1 h2=>by simp only[leB,decide_eq_true_eq]at *;exact List.le_trans h1 h2
theorem p0a:∀ a b:List UInt8,(leB a b || leB b a)=true:=fun a b=>by simp only[leB,Bool.or_eq_true,decide_eq_true_eq];exact List.le_total a b
theorem c0j (L:List (ByteArray×ByteArray)):(a0D L).Pairwise (fun p q=>leB (b0p p) (b0p q)=true):=
 List.pairwise_mergeSort (le:=fun p q=>leB (b0p p) (b0p q)) (fun a b c=>g0c (b0p a) (b0p b) (b0p c)) (fun a b=>p0a (b0p a) (b0p b)) L
def b0B (L:List (ByteArray×ByteArray)):List Value:=L.flatMap (fun p=>[.string p.1,.string p.2])
theorem b0f (L:List (ByteArray×ByteArray)):(b0B L).length=L.length*2:=by
 unfold b0B
 induction L with
 | nil=>rfl
 | cons p r ih=>rw[List.flatMap_cons,List.length_append,ih,List.length_cons];simp;omega
theorem d0e (L M:List (ByteArray×ByteArray)):b0B (L++M)=b0B L++b0B M:=by simp[b0B]
theorem c0t {L:List (ByteArray×ByteArray)}:∀ {i:Nat} {p:ByteArray×ByteArray},L[i]?=some p→(b0B L)[2*i]?=some (.string p.1)∧(b0B L)[2*i+1]?=some (.string p.2):=by
 induction L with
 | nil=>intro i p h;simp at h
 | cons q r ih=>
  intro i p h;cases i with
  | zero=>simp at h;subst h;exact⟨rfl,rfl⟩
  | succ i=>
   have h':r[i]?=some p:=by simpa using h
   obtain⟨h1,h2⟩:=ih h';have e:b0B (q::r) = [.string q.1,.string q.2]++b0B r:=rfl;rw[e,show 2*(i+1)=2+2*i by omega]
   constructor
   ·rw[List.getElem?_append_right (by simp)];simpa using h1
   ·rw[List.getElem?_append_right (by simp<;>omega)];simp only[List.length_cons,List.length_nil];rw[show 2+2*i+1-(0+1+1)=2*i+1 by omega];exact h2
theorem MRow.of_owns {w:World}{base n:Nat}{e:TypeId}{v:Value}{L:List (ByteArray×ByteArray)}(h:w.ownsRow base e 2 v n (b0B L)):MRow w v L:=by
 have hn:n=L.length:=by have:=h.1;rw[b0f]at this;omega
 subst hn;refine⟨?_⟩;have hh:=h;rcases h.2 with ⟨rfl,h0⟩ | ⟨g,cap,cur,rfl,hb,hg,h1,h2,h3,h4⟩
 ·exact⟨none,0,by rw[h0],by omega,by omega,fun i x hx=>by have:=(List.getElem?_eq_some_iff.1 hx).1;omega⟩
 ·refine⟨some ⟨g,0,none⟩,cap,rfl,h1,by unfold maxLen at h2;exact h2,fun i x hx=>⟨g,0,rfl,(Array.getElem?_eq_some_iff.1 hg).1,?_⟩⟩;obtain⟨m1,m2⟩:=c0t hx;have k1:=hh.cells rfl _ _ m1;have k2:=hh.cells rfl _ _ m2;rw[Addr.add_lit]at k1 k2;rw[← Nat.add_assoc]at k2;exact⟨k1,k2⟩
theorem o0M (i:Nat):(a0f i).data.toList≠a0H.data.toList:=by
 intro e;have h:(108:UInt8)∈decDigits i:=by
  rw[← a0z,e];decide
 exact absurd (b0I i 108 h) (by decide)
open Go.Shelf
theorem j0x:(Tryz.prog.info? 39).map (fun i=>(i.zero,i.size,i.bytes))=some (some (.agg #[.string ⟨#[]⟩,.string ⟨#[]⟩]),2,32):=by kernel_rfl
theorem q0t (w:World):(zeroValue 22).run Tryz.prog w=.ok (.string ⟨#[]⟩) w:=by kernel_rfl
theorem h0s (t:Nat):shB 0 t=⟨#[48]⟩:=by
 have e:qmk false 0 t=0:=by unfold qmk sgn;simp
 have h1:¬ ovQ 0:=by
  have:nDigits 0≤4000:=by rw[b0L];omega
  have:nDigits 1≤4000:=by rw[c0K];omega
  unfold ovQ;rw[show (0:Rat).num.natAbs=0 from rfl,show (0:Rat).den=1 from rfl];omega
 unfold shB;rw[e];unfold c0I;rw[if_neg h1];apply a0Y
 rw[txQ,c0g,show (0:Rat).num.natAbs=0 from rfl,show (0:Rat).den=1 from rfl,show decide ((0:Rat).num<0)=false from rfl,b0W]
 rfl
end Go.Proofs.YtlmnpocifldpmaaGreatDoor
namespace Go.Proofs.YtlmnpocifldpmaaGreatDoor
theorem l0o (m:Bool)(n d:Nat):sgn m (n*d)=sgn m n*(d:Int):=by cases m<;>simp[sgn,Int.neg_mul]
theorem m0C (p q:Rat):p+q=mkRat (sgn (decide (p.num<0)) (p.num.natAbs*q.den)+sgn (decide (q.num<0)) (q.num.natAbs*p.den)) (p.den*q.den):=by
 rw[l0o,l0o,g0J,g0J,Rat.add_def',Int.mul_comm q.num]
 try rw[Int.mul_comm q.num]
theorem l0n (m:Bool)(x y:Nat):sgn m x+sgn m y=sgn m (x+y):=by cases m<;>simp[sgn]<;>omega
theorem l0q {m1 m2:Bool}(h:m1≠m2){x y:Nat}(hl:x<y):sgn m1 x+sgn m2 y=sgn m2 (y-x):=by
 cases m1<;>cases m2<;>simp[sgn]at *<;>omega
theorem l0p {m1 m2:Bool}(h:m1≠m2){x y:Nat}(hl:y≤x):sgn m1 x+sgn m2 y=sgn m1 (x-y):=by
 cases m1<;>cases m2<;>simp[sgn]at *<;>omega
open Go.RowKit
open Go.Lib (decDigits nDigits)
theorem g0K (m1 m2:Bool)(x y:Nat):(sgn m1 x+sgn m2 y).natAbs≤x+y:=by
 cases m1<;>cases m2<;>simp[sgn]<;>omega
structure Dig (K:Nat)(q:Rat):Prop where
 n:q.num.natAbs<10 ^ K
 d:q.den<10 ^ K
theorem Dig.fits {K:Nat}{q:Rat}(h:Dig K q)(h0:0<K)(hk:K≤4000):¬ ovQ q:=by
 unfold ovQ;have h1:=a0j h0 h.n;have h2:=a0j h0 h.d;omega
theorem p0O {K:Nat}{z:Int}{d:Nat}(hd:0<d)(h1:z.natAbs<10 ^ K)(h2:d<10 ^ K):Dig K (mkRat z d):=by
 refine⟨?_,?_⟩
 ·rw[Rat.num_mkRat,if_neg (by omega)];exact Nat.lt_of_le_of_lt (Int.natAbs_ediv_le_natAbs _ _) h1
 ·rw[Rat.den_mkRat,if_neg (by omega)];exact Nat.lt_of_le_of_lt (Nat.div_le_self _ _) h2
theorem u0F {K L:Nat}{p q:Rat}(hp:Dig K p)(hq:Dig L q):Dig (K+L) (p*q):=by
 rw[← h0F];unfold qmk;exact p0O (Nat.mul_pos p.den_pos q.den_pos) (by rw[b0s];exact e0d hp.n hq.n) (e0d hp.d hq.d)
theorem p0P {K L:Nat}{p q:Rat}(hp:Dig K p)(hq:Dig L q):Dig (K+L+1) (p+q):=by
 rw[m0C];refine p0O (Nat.mul_pos p.den_pos q.den_pos) ?_ (s0T (e0d hp.d hq.d) (by omega));refine Nat.lt_of_le_of_lt (g0K _ _ _ _) ?_;have h1:=e0d hp.n hq.d;have h2:=e0d hq.n hp.d;rw[Nat.add_comm L K]at h2;exact g0h h1 h2
theorem p0N {K:Nat}{q:Rat}(h:Dig K q):Dig K (-q):=⟨by rw[Rat.neg_num,Int.natAbs_neg];exact h.n,by rw[Rat.neg_den];exact h.d⟩
def t1:ByteArray:=⟨#[49]⟩
theorem f0V {q:Rat}(h:¬ ovQ q):c0I q=txQ q:=if_neg h
theorem j0k {q:Rat}(h:¬ ovQ q):c0U q=0:=if_neg h
theorem o0H {f:Rat→Rat→Rat}{s t:ByteArray}(h0:¬ (qE s=0∧qE t=0)):(if qE s=0 then qE t else qE s)≠0∧b0b f s t=⟨#[]⟩∧d0b f s t=(if qE s=0 then qE t else qE s):=by
 refine⟨?_,by rw[b0b,if_neg h0],?_⟩
 ·split
  ·rename_i h;exact fun e=>h0 ⟨h,e⟩
  ·rename_i h;exact h
 ·rw[d0b]
  split
  ·rename_i h;rw[if_neg (fun e=>h0 ⟨h,e⟩)]
  ·rfl
def q0q (q:Rat):Int:=if q.num=0 then 0 else if q.num<0 then -1 else 1
def q0r (p q:Rat):Int:=q0q (p-q)
def cmB (s t:ByteArray):Int:=if qE s=0∧qE t=0 then q0r (vQ s) (vQ t) else 0
def cmE (s t:ByteArray):Int:=if qE s=0 then qE t else qE s
theorem g0T {n:Nat}:(limbs n).length=0↔n=0:=by
 constructor
 ·intro h;have h2:limbs n=limbs 0:=by rw[List.eq_nil_of_length_eq_zero h,limbs_zero]
  exact e0D h2
 ·rintro rfl;rw[limbs_zero];rfl
def v0C (z:Int):Int:=if z=0 then 0 else if z<0 then -1 else 1
theorem g0a {z:Int}{d:Nat}(hd:d≠0):(mkRat z d).num=0↔z=0:=by
 rw[Rat.num_mkRat,if_neg hd];have hg:(0:Int)<(Nat.gcd d z.natAbs:Nat):=by
  have:=Nat.gcd_pos_of_pos_left z.natAbs (Nat.pos_of_ne_zero hd);omega
 have hdv:((Nat.gcd d z.natAbs:Nat):Int)∣z:=Int.ofNat_dvd_left.2 (Nat.gcd_dvd_right _ _)
 constructor
 ·intro h;have:=Int.ediv_mul_cancel hdv;rw[h,Int.zero_mul]at this;exact this.symm
 ·rintro rfl;simp
theorem g0O {z:Int}{d:Nat}(hd:d≠0):(mkRat z d).num<0↔z<0:=by
 rw[Rat.num_mkRat,if_neg hd];have hg:(0:Int)<(Nat.gcd d z.natAbs:Nat):=by
  have:=Nat.gcd_pos_of_pos_left z.natAbs (Nat.pos_of_ne_zero hd);omega
 constructor
 ·intro h;rcases Int.lt_or_le z 0 with h1 | h1
  ·exact h1
  ·have:=Int.ediv_nonneg h1 (Int.le_of_lt hg);omega
 ·intro h;exact Int.ediv_neg_of_neg_of_pos h hg
theorem o0c {z:Int}{d:Nat}(hd:d≠0):q0q (mkRat z d)=v0C z:=by
 unfold q0q v0C;by_cases h:z=0
 ·rw[if_pos ((g0a hd).2 h),if_pos h]
 ·rw[if_neg (fun e=>h ((g0a hd).1 e)),if_neg h];by_cases h2:z<0
  ·rw[if_pos ((g0O hd).2 h2),if_pos h2]
  ·rw[if_neg (fun e=>h2 ((g0O hd).1 e)),if_neg h2]
theorem h0E (a b:Nat):qmk false a b=mkRat (a:Int) b:=by unfold qmk sgn;rfl
theorem c0O {K:Nat}{z:Int}{d:Nat}(hd:d≠0)(h1:nDigits z.natAbs≤K)(h2:nDigits d≤K):Dig K (mkRat z d):=
 p0O (Nat.pos_of_ne_zero hd) (Nat.lt_of_lt_of_le (Go.Lib.lt_pow_nDigits _) (Nat.pow_le_pow_right (by omega) h1)) (Nat.lt_of_lt_of_le (Go.Lib.lt_pow_nDigits _) (Nat.pow_le_pow_right (by omega) h2))
theorem e0Z {a b:Nat}(hb:b≠0)(h1:nDigits a≤4000)(h2:nDigits b≤4000):shB a b=txQ (mkRat (a:Int) b):=by
 unfold shB;rw[h0E];exact f0V ((c0O hb (by simpa using h1) h2).fits (by omega) (by omega))
theorem d0a {f:Rat→Rat→Rat}{p q:Rat}(hp:¬ ovQ p)(hq:¬ ovQ q)(h:¬ ovQ (f p q)):b0b f (txQ p) (txQ q)=txQ (f p q)∧d0b f (txQ p) (txQ q)=0:=by
 have h1:=l0A hp;have h2:=l0A hq;refine⟨?_,?_⟩
 ·rw[b0b,if_pos ⟨h1,h2⟩,e0W,e0W,f0V h]
 ·rw[d0b,if_pos h1,if_pos h2,e0W,e0W,j0k h]
theorem s0W {p q:Rat}(hp:¬ ovQ p)(hq:¬ ovQ q):cmB (txQ p) (txQ q)=q0r p q∧cmE (txQ p) (txQ q)=0:=by
 have h1:=l0A hp;have h2:=l0A hq;exact⟨by rw[cmB,if_pos ⟨h1,h2⟩,e0W,e0W],by rw[cmE,if_pos h1,h2]⟩
open Go.Shelf
def e0h (L:List (ByteArray×ByteArray))(k:ByteArray):ByteArray:=((L.find? fun p=>decide (p.1=k)).map (·.2)).getD ⟨#[48]⟩
theorem n0x {L:List (ByteArray×ByteArray)}{k:ByteArray}(h:∀ p∈L,p.1≠k):e0h L k=⟨#[48]⟩:=by
 unfold e0h;rw[List.find?_eq_none.2 (fun p hp=>by simpa using h p hp)]
 rfl
theorem n0w {L:List (ByteArray×ByteArray)}{k v:ByteArray}(hm:(k,v)∈L)(nd:(L.map b0p).Nodup):e0h L k=v:=by
 unfold e0h;cases hf:L.find? (fun p=>decide (p.1=k)) with
 | none=>
  have:=List.find?_eq_none.1 hf (k,v) hm;simp at this
 | some p=>
  have h1:=List.mem_of_find?_eq_some hf;have h2:p.1=k:=by simpa using List.find?_some hf
  obtain⟨i,hi,e1⟩:=List.getElem_of_mem h1;obtain⟨j,hj,e2⟩:=List.getElem_of_mem hm;have e:i=j:=by
   rcases Nat.lt_trichotomy i j with h | h | h
   ·have:=List.pairwise_iff_getElem.1 nd i j (by simpa using hi) (by simpa using hj) h;simp only[List.getElem_map,e1,e2,b0p,h2,ne_eq,not_true_eq_false]at this
   ·exact h
   ·have:=List.pairwise_iff_getElem.1 nd j i (by simpa using hj) (by simpa using hi) h;simp only[List.getElem_map,e1,e2,b0p,h2,ne_eq,not_true_eq_false]at this
  subst e;rw[e1]at e2;subst e2
  rfl
theorem q0N {L:List (ByteArray×ByteArray)}(nd:(L.map b0p).Nodup):((a0D L).map b0p).Nodup:=(((List.mergeSort_perm L _).map b0p).nodup_iff).2 nd
theorem l0H {i j:Nat}(h:a0f i=a0f j):i=j:=by rw[← b0i i,h,b0i]
theorem j0Y (w:World)(v:Value)(L:List (ByteArray×ByteArray))(k:ByteArray)(hv:MRow w v L):
 Calls Tryz.prog 20 #[v,.string k] w fun e w'=>e=.returned (.string (e0h L k))∧w=w':=by
 obtain⟨a,c,rfl,h1,h2,h3⟩:=hv.ex;obtain⟨n,hn⟩:∃ n,L.length=n:=⟨_,rfl⟩;rw[hn]at h1 ⊢;have H3:=hid h3;have HN:=hid hn;clear hv h3 hn;go_enter Tryz.func20,Tryz.ntmps20;go_wp2_with fail
 go_loop [5] (fun ii=>∃ i:Nat,ii=.int .i64 (i:Nat)∧i≤n∧Hid (e0h L k=e0h (L.drop i) k)) (fun ii=>n-(intOf ii).toNat)
 case atStart=>exact⟨0,rfl,Nat.zero_le _,rfl⟩
 case round=>
  obtain⟨i,rfl,hi,hI⟩:=hrel;by_cases hlt:i<n
  ·obtain⟨p,hp⟩:∃ x,L[i]?=some x:=⟨_,List.getElem?_eq_getElem (by rw[HN.out];exact hlt)⟩;obtain⟨g,o,rfl,hg,m1,m2⟩:=H3.out i p hp;have hd:L.drop i=p::L.drop (i+1):=by
    obtain⟨h,rfl⟩:=List.getElem?_eq_some_iff.1 hp;exact List.drop_eq_getElem_cons h
   obtain⟨x1,x2⟩:=p;dsimp only at m1 m2;rw[Nat.mul_comm 2 i]at m1 m2;have b1:(0:Int)≤(i:Int):=by omega
   have b2:(i:Int)<(n:Int):=by omega
   have wi:IntKind.i64.wrap ((i:Int)+1)=(i:Int)+1:=by rw[IntWalk.i64_in _ ⟨by omega,by omega⟩]
   by_cases he:x1=k
   ·subst he;have hR:e0h L x1=x2:=by rw[hI.out,hd,e0h,List.find?_cons_of_pos (by simp)];rfl
    have HR:=hid hR;clear hp hg hd hR;go_wp2_with fail;go_ret
    exact⟨by rw[HR.out];rfl,rfl⟩
   ·have hR:Hid (e0h L k=e0h (L.drop (i+1)) k):=by show e0h L k=_;rw[hI.out,hd,e0h,List.find?_cons_of_neg (by simpa using he)];rfl
    have n1:(x1.toList==k.toList)=false:=by rw[beq_eq_false_iff_ne];exact u0e he
    clear hp hg hd he;go_wp2_with fail;go_round
    case rel=>exact⟨i+1,by go_num,by omega,hR⟩
    case measure=>simp[intOf]<;>omega
  ·obtain rfl:i=n:=by omega
   have q1:decide ((i:Int)<(i:Int))=false:=by simp
   have hR:e0h L k=⟨#[48]⟩:=by rw[hI.out,List.drop_of_length_le (by rw[HN.out];exact Nat.le_refl _)];rfl
   have HR:=hid hR;clear hlt hR;go_wp2_with fail;go_ret
   exact⟨by rw[HR.out];rfl,rfl⟩
end Go.Proofs.YtlmnpocifldpmaaGreatDoor
namespace Go.Proofs.YtlmnpocifldpmaaGreatDoor
open Go.RowKit
open Go.Lib (decDigits nDigits)
def zB (v:Int):ByteArray:=⟨(Lib.itoa v).toArray⟩
theorem f0C (v:Int):(zB v).data.toList=Lib.itoa v:=by simp[zB]
theorem k0X (n:Nat):zB (n:Int)=a0f n:=by
 unfold zB a0f;rw[Lib.itoa_nonneg]
theorem c0P {a b:Nat}(h:decDigits a=decDigits b):a=b:=by
 have:a0f a=a0f b:=by unfold a0f;rw[h]
 exact l0H this
theorem i0B (n:Nat)(r:List UInt8):decDigits n≠45::r:=fun h=>by
 have:=g0b n;rw[h]at this;simp[Lib.hasPrefix]at this
theorem i0C {v w:Int}(h:zB v=zB w):v=w:=by
 have h1:Lib.itoa v=Lib.itoa w:=by rw[← f0C,← f0C,h]
 unfold Lib.itoa at h1
 split at h1<;>split at h1
 ·rename_i a b
  have:=c0P (List.cons.inj h1).2;omega
 ·rename_i a b
  exact absurd h1.symm (i0B _ _)
 ·rename_i a b
  exact absurd h1 (i0B _ _)
 ·rename_i a b
  have:=c0P h1;omega
theorem f0D (v:Int):(zB v).data.toList≠a0H.data.toList:=fun h=>by
 rw[f0C]at h;unfold Lib.itoa at h
 split at h
 ·have:=congrArg List.head? h;simp[a0H]at this
 ·have h2:=o0M v.toNat;rw[a0z]at h2;exact h2 h
def glM (c:Int→Nat)(t n:Nat):List (ByteArray×ByteArray):=(List.range (2*n+1)).filterMap fun (j:Nat)=>if c ((j:Int)-n)=0 then none else some (zB ((j:Int)-n),shB (c ((j:Int)-n)) t)
def glP (c:Int→Nat)(t n r:Nat):List (ByteArray×ByteArray):=glM c t n++if r=0 then [] else [(a0H,shB r t)]
theorem p0p {c:Int→Nat}{t n:Nat}{p:ByteArray×ByteArray}:p∈glM c t n ↔ ∃ v:Int,-(n:Int)≤v∧v≤n∧c v≠0∧p=(zB v,shB (c v) t):=by
 unfold glM;rw[List.mem_filterMap]
 constructor
 ·rintro⟨j,hj,h⟩;rw[List.mem_range]at hj
  split at h
  ·cases h
  ·rename_i h0
   exact⟨(j:Int)-n,by omega,by omega,h0,(Option.some.inj h).symm⟩
 ·rintro⟨v,h1,h2,h3,rfl⟩;refine⟨(v+n).toNat,List.mem_range.2 (by omega),?_⟩;rw[show ((v+(n:Int)).toNat:Int)-(n:Int)=v by omega,if_neg h3]
theorem s0R (c:Int→Nat)(t n:Nat):((glM c t n).map b0p).Nodup:=by
 unfold glM;rw[List.map_filterMap];refine List.Pairwise.filterMap (R:=fun a b=>a≠b) _ (fun a b hab x hx y hy=>?_) List.nodup_range;simp only[Option.map_eq_some_iff]at hx hy;obtain⟨p,hp,rfl⟩:=hx;obtain⟨q,hq,rfl⟩:=hy
 split at hp
 ·cases hp
 ·split at hq
  ·cases hq
  ·obtain rfl:=(Option.some.inj hp).symm;obtain rfl:=(Option.some.inj hq).symm;intro e;have:=i0C (a0Y e);exact hab (by omega)
theorem w0r (c:Int→Nat)(t n r:Nat):((glP c t n r).map b0p).Nodup:=by
 unfold glP
 split
 ·rw[List.append_nil];exact s0R c t n
 ·rw[List.map_append,List.nodup_append];refine⟨s0R c t n,by simp,?_⟩;intro a ha b hb e;rw[List.mem_map]at ha;obtain⟨p,hp,rfl⟩:=ha;obtain⟨v,-,-,-,rfl⟩:=p0p.1 hp;simp at hb;subst hb;exact f0D v e
theorem p0o {c:Int→Nat}{t n r:Nat}{p:ByteArray×ByteArray}:p∈glP c t n r↔(∃ v:Int,-(n:Int)≤v∧v≤n∧c v≠0∧p=(zB v,shB (c v) t))∨(r≠0∧p=(a0H,shB r t)):=by
 unfold glP;rw[List.mem_append,p0p];refine or_congr Iff.rfl ?_
 split
 ·rename_i h;simp[h]
 ·rename_i h;simp[h]
theorem g0I {L M:List (ByteArray×ByteArray)}(h1:(L.map b0p).Nodup)(h2:(M.map b0p).Nodup)(h:∀ p,p∈L↔p∈M):a0D L=a0D M:=by
 have n1:L.Nodup:=List.Pairwise.of_map b0p (fun a b h e=>h (congrArg b0p e)) h1;have n2:M.Nodup:=List.Pairwise.of_map b0p (fun a b h e=>h (congrArg b0p e)) h2;have hp:L.Perm M:=(List.perm_ext_iff_of_nodup n1 n2).2 h;have hs:(a0D L).Perm (a0D M):=((List.mergeSort_perm L _).trans hp).trans (List.mergeSort_perm M _).symm;refine List.Perm.eq_of_pairwise (le:=fun p q=>leB (b0p p) (b0p q)=true) ?_ (c0j _) (c0j _) hs;intro a b ha hb hab hba;simp only[leB,decide_eq_true_eq]at hab hba;have e:b0p a=b0p b:=List.le_antisymm hab hba;have hb2:b∈L:=(h b).2 (b0x.1 hb);have ha2:a∈L:=b0x.1 ha;obtain⟨i,hi,rfl⟩:=List.getElem_of_mem ha2;obtain⟨j,hj,rfl⟩:=List.getElem_of_mem hb2;have hij:i=j:=by
  rcases Nat.lt_trichotomy i j with h3 | h3 | h3
  ·have:=List.pairwise_iff_getElem.1 h1 i j (by simpa using hi) (by simpa using hj) h3;simp only[List.getElem_map,ne_eq]at this;exact absurd e this
  ·exact h3
  ·have:=List.pairwise_iff_getElem.1 h1 j i (by simpa using hj) (by simpa using hi) h3;simp only[List.getElem_map,ne_eq]at this;exact absurd e.symm this
 subst hij
 rfl
end Go.Proofs.YtlmnpocifldpmaaGreatDoor
namespace Go.Proofs.YtlmnpocifldpmaaGreatDoor
open Go.RowKit
theorem e0o (x:Nat)(k:Nat):∀ n,a0i (fun j=>if j=k then x else 0) n=if k<n then x else 0
 | 0=>by simp[a0i]
 | n+1=>by
  rw[a0i,e0o x k n];by_cases h1:k<n
  ·rw[if_pos h1,if_neg (by omega),if_pos (by omega)];rfl
  ·rw[if_neg h1,Nat.zero_add];by_cases h2:n=k
   ·rw[if_pos h2,if_pos (by omega)]
   ·rw[if_neg h2,if_neg (by omega)]
theorem f0n (c:Int→Nat)(n:Nat):∀ vs:List Int,vs.Nodup→(∀ v∈vs,-(n:Int)≤v∧v≤n)→(vs.map c).sum=a0i (fun j=>if ((j:Int)-n)∈vs then c ((j:Int)-n) else 0) (2*n+1)
 | [],_,_=>by
  rw[a0b (d:=fun _=>0) (fun j _=>by simp),a0t];rfl
 | v::vs,hn,hb=>by
  have ih:=f0n c n vs (List.nodup_cons.1 hn).2 fun w hw=>hb w (List.mem_cons_of_mem _ hw)
  have hv:=hb v (List.mem_cons_self ..);have hnv:=(List.nodup_cons.1 hn).1;rw[List.map_cons,List.sum_cons,ih];have e:a0i (fun j=>if ((j:Int)-n)∈v::vs then c ((j:Int)-n) else 0) (2*n+1)=a0i (fun j=>(if j=(v+n).toNat then c v else 0)+(if ((j:Int)-n)∈vs then c ((j:Int)-n) else 0)) (2*n+1):=by
   refine a0b fun j hj=>?_
   by_cases h1:j=(v+n).toNat
   ·have h2:(j:Int)-n=v:=by omega
    rw[h2,if_pos (List.mem_cons_self ..),if_pos h1,if_neg hnv];rfl
   ·have h2:(j:Int)-n≠v:=by omega
    rw[if_neg h1,Nat.zero_add];by_cases h3:((j:Int)-n)∈vs
    ·rw[if_pos h3,if_pos (List.mem_cons_of_mem _ h3)]
    ·rw[if_neg h3,if_neg (fun h=>by rcases List.mem_cons.1 h with h | h;exact h2 h;exact h3 h)]
  rw[e,c0i,e0o,if_pos (by omega)]
structure Seen (c:Int→Nat)(n:Nat)(left:Int→Bool)(vs:List Int):Prop where
 nd:vs.Nodup
 mem:∀ v,v∈vs↔c v≠0∧left v=false
theorem Seen.start {c:Int→Nat}{n:Nat}{left:Int→Bool}(h:∀ v,c v≠0→left v=true):Seen c n left []:=⟨List.nodup_nil,fun v=>⟨fun hv=>by simp at hv,fun ⟨h1,h2⟩=>by rw[h v h1]at h2;cases h2⟩⟩
theorem Seen.step {c:Int→Nat}{n:Nat}{left left':Int→Bool}{vs:List Int}{x:Int}(h:Seen c n left vs)(hx:left x=true)(hc:c x≠0)(hl:∀ v,left' v=(left v && !decide (v=x))):Seen c n left' (vs ++ [x]):=by
 refine⟨?_,fun v=>?_⟩
 ·rw[List.nodup_append];refine⟨h.nd,by simp,fun a ha b hb e=>?_⟩;simp at hb;subst hb;subst e;have:=((h.mem a).1 ha).2;rw[hx]at this;cases this
 ·rw[List.mem_append,h.mem,hl]
  constructor
  ·rintro (⟨h1,h2⟩ | h1)
   ·exact⟨h1,by rw[h2];rfl⟩
   ·simp at h1;subst h1;exact⟨hc,by simp⟩
  ·rintro⟨h1,h2⟩;rw[Bool.and_eq_false_iff]at h2;rcases h2 with h2 | h2
   ·exact .inl ⟨h1,h2⟩
   ·right;simp at h2;simp[h2]
theorem Seen.sum_le {N D:Nat}(hND:N<D){two:Bool}{n:Nat}{left:Int→Bool}{vs:List Int}(h:Seen (gV N D two n) n left vs):(vs.map (gV N D two n)).sum≤2 ^ n:=by
 rw[f0n _ n vs h.nd (fun v hv=>by
  have h1:=((h.mem v).1 hv).1;rcases Int.lt_or_le v (-(n:Int)) with h2 | h2
  ·exact absurd (c0w hND (.inl h2)) h1
  ·rcases Int.lt_or_le (n:Int) v with h3 | h3
   ·exact absurd (c0w hND (.inr h3)) h1
   ·exact⟨h2,h3⟩)]
 have h1:=l0Q hND two n;have h2:a0i (fun j=>if ((j:Int)-n)∈vs then gV N D two n ((j:Int)-n) else 0) (2*n+1)≤a0i (fun j=>gV N D two n ((j:Int)-n)) (2*n+1):=d0R fun j _=>by split<;>omega
 omega
theorem Seen.sum_all {N D:Nat}(hND:N<D){two:Bool}{n:Nat}{left:Int→Bool}{vs:List Int}(h:Seen (gV N D two n) n left vs)(hl:∀ v,left v=false):2 ^ n-(vs.map (gV N D two n)).sum=gL N D two n:=by
 rw[f0n _ n vs h.nd (fun v hv=>by
  have h1:=((h.mem v).1 hv).1;rcases Int.lt_or_le v (-(n:Int)) with h2 | h2
  ·exact absurd (c0w hND (.inl h2)) h1
  ·rcases Int.lt_or_le (n:Int) v with h3 | h3
   ·exact absurd (c0w hND (.inr h3)) h1
   ·exact⟨h2,h3⟩)]
 have h1:=l0Q hND two n;have h2:a0i (fun j=>if ((j:Int)-n)∈vs then gV N D two n ((j:Int)-n) else 0) (2*n+1)=a0i (fun j=>gV N D two n ((j:Int)-n)) (2*n+1):=a0b fun j _=>by
  split
  ·rfl
  ·rename_i hm
   rw[h.mem]at hm;by_cases h0:gV N D two n ((j:Int)-n)=0
   ·exact h0.symm
   ·exact absurd ⟨h0,hl _⟩ hm
 omega
theorem Seen.pairs {N D:Nat}(hND:N<D){two:Bool}{n t r:Nat}{left:Int→Bool}{vs:List Int}(h:Seen (gV N D two n) n left vs)(hl:∀ v,left v=false):
 (((vs.map fun v=>(zB v,shB (gV N D two n v) t))++if r=0 then [] else [(a0H,shB r t)]).map b0p).Nodup∧a0D ((vs.map fun v=>(zB v,shB (gV N D two n v) t))++if r=0 then [] else [(a0H,shB r t)])=a0D (glP (gV N D two n) t n r):=by
 have hk:((vs.map fun v=>(zB v,shB (gV N D two n v) t)).map b0p).Nodup:=by
  rw[List.map_map];refine List.Pairwise.map (R:=fun a b=>a≠b) _ (fun a b hab e=>hab (i0C (a0Y e))) h.nd
 have nd:(((vs.map fun v=>(zB v,shB (gV N D two n v) t))++if r=0 then [] else [(a0H,shB r t)]).map b0p).Nodup:=by
  split
  ·rw[List.append_nil];exact hk
  ·rw[List.map_append,List.nodup_append];refine⟨hk,by simp,fun a ha b hb e=>?_⟩;simp only[List.mem_map]at ha;obtain⟨p,⟨v,-,rfl⟩,rfl⟩:=ha;simp at hb;subst hb;exact f0D v e
 refine⟨nd,g0I nd (w0r _ _ _ _) fun p=>?_⟩;rw[p0o,List.mem_append,List.mem_map];refine or_congr ?_ ?_
 ·constructor
  ·rintro⟨v,hv,rfl⟩;have h1:=((h.mem v).1 hv).1;refine⟨v,?_,?_,h1,rfl⟩
   ·rcases Int.lt_or_le v (-(n:Int)) with h2 | h2
    ·exact absurd (c0w hND (.inl h2)) h1
    ·exact h2
   ·rcases Int.lt_or_le (n:Int) v with h3 | h3
    ·exact absurd (c0w hND (.inr h3)) h1
    ·exact h3
  ·rintro⟨v,-,-,h1,rfl⟩;exact⟨v,(h.mem v).2 ⟨h1,hl v⟩,rfl⟩
 ·split
  ·rename_i h;simp[h]
  ·rename_i h;simp[h]
def zS (n:Nat)(f:Int→Nat):Nat:=a0i (fun j=>f ((j:Int)-n)) (2*n+1)
theorem b0u {n:Nat}{f g:Int→Nat}(h:∀ v,-(n:Int)≤v→v≤n→f v=g v):zS n f=zS n g:=
 a0b fun j hj=>h _ (by omega) (by omega)
theorem s0q (n:Nat)(f g:Int→Nat):zS n (fun v=>f v+g v)=zS n f+zS n g:=c0i _ _ _
theorem n0q (n k:Nat)(f:Int→Nat):zS n (fun v=>k*f v)=k*zS n f:=c0h _ _ _
theorem c0C (n k:Nat)(f:Int→Nat):zS n (fun v=>f v*k)=zS n f*k:=by
 rw[b0u (g:=fun v=>k*f v) (fun v _ _=>Nat.mul_comm _ _),n0q,Nat.mul_comm]
theorem t0h (n:Nat):zS n (fun _=>0)=0:=a0t _
theorem q0v {n:Nat}{f g:Int→Nat}(h:∀ v,-(n:Int)≤v→v≤n→f v≤g v):zS n f≤zS n g:=
 d0R fun j hj=>h _ (by omega) (by omega)
def vw (n:Nat):List (Int→Nat)→(List Int→Nat)→Nat
 | [],F=>F []
 | g::gs,F=>zS n fun x=>g x*vw n gs fun r=>F (x::r)
theorem e0j {n:Nat}:∀ {gs:List (Int→Nat)} {F G:List Int→Nat},(∀ xs,xs.length=gs.length→(∀ x∈xs,-(n:Int)≤x∧x≤n)→F xs=G xs)→vw n gs F=vw n gs G
 | [],F,G,h=>h [] rfl (by simp)
 | g::gs,F,G,h=>b0u fun v h1 h2=>by
  rw[e0j (gs:=gs) (fun r hr hb=>h (v::r) (by simp[hr]) (by
   intro x hx;rcases List.mem_cons.1 hx with rfl | hx
   ·exact⟨h1,h2⟩
   ·exact hb x hx))]
theorem s0s (n:Nat):∀ (gs:List (Int→Nat)) (F G:List Int→Nat),vw n gs (fun xs=>F xs+G xs)=vw n gs F+vw n gs G
 | [],F,G=>rfl
 | g::gs,F,G=>by
  rw[vw,vw,vw,← s0q];exact b0u fun v _ _=>by rw[s0s n gs,Nat.mul_add]
theorem j0Z (n:Nat):∀ gs:List (Int→Nat),vw n gs (fun _=>0)=0
 | []=>rfl
 | g::gs=>by rw[vw,b0u (g:=fun _=>0) (fun v _ _=>by rw[j0Z n gs,Nat.mul_zero]),t0h]
theorem s0r (n:Nat)(gs:List (Int→Nat))(F:Nat→List Int→Nat):∀ M,vw n gs (fun xs=>a0i (fun i=>F i xs) M)=a0i (fun i=>vw n gs (F i)) M
 | 0=>j0Z n gs
 | M+1=>by
  show vw n gs (fun xs=>a0i (fun i=>F i xs) M+F M xs)=_
  rw[s0s,s0r n gs F M];rfl
def pPr (n:Nat):List (Int→Nat)→List (Int→Bool)→Nat
 | g::gs,p::ps=>zS n (fun x=>if p x=true then g x else 0)*pPr n gs ps
 | _,_=>1
def s0n:List (Int→Bool)→List Int→Bool
 | p::ps,x::xs=>p x && s0n ps xs
 | _,_=>true
def b1 (b:Bool):Nat:=if b=true then 1 else 0
theorem n0t (n:Nat):∀ (gs:List (Int→Nat)) (ps:List (Int→Bool)),gs.length=ps.length→vw n gs (fun xs=>b1 (s0n ps xs))=pPr n gs ps
 | [],[],_=>rfl
 | g::gs,p::ps,h=>by
  have ih:=n0t n gs ps (by simpa using h);rw[vw,pPr,← c0C];refine b0u fun v _ _=>?_
  by_cases hp:p v=true
  ·rw[if_pos hp,← ih]
   congr 1
   exact e0j fun xs _ _=>by rw[s0n,hp,Bool.true_and]
  ·rw[if_neg hp,Nat.zero_mul];have:vw n gs (fun r=>b1 (s0n (p::ps) (v::r)))=0:=by
    rw[e0j (G:=fun _=>0) (fun xs _ _=>by rw[s0n,Bool.eq_false_iff.2 hp];rfl),j0Z]
   rw[this,Nat.mul_zero]
def x0f (n:Nat)(gs:List (Int→Nat)):Nat:=vw n gs fun _=>1
theorem j0i (n:Nat)(g:Int→Nat)(gs:List (Int→Nat)):x0f n (g::gs)=zS n g*x0f n gs:=by
 unfold x0f;rw[vw,c0C]
theorem j0A {N D:Nat}(h:N<D)(two:Bool)(n:Nat):zS n (gV N D two n)+gL N D two n=2 ^ n:=l0Q h two n
open Go.Lib (decDigits nDigits)
theorem n0a {x m:Nat}(hx:x≤2 ^ m)(h:m≤1000):nDigits x≤4000:=
 Nat.le_trans (b0M hx) (g0A h)
def dyB (x m:Nat):ByteArray:=shB x (2 ^ m)
def dyQ (x m:Nat):Rat:=mkRat (x:Int) (2 ^ m)
theorem c0S (m:Nat):2 ^ m≠0:=Nat.ne_of_gt (Nat.pow_pos (by omega))
theorem i0f {x m:Nat}(hx:x≤2 ^ m)(h:m≤1000):dyB x m=txQ (dyQ x m):=
 e0Z (c0S m) (n0a hx h) (n0a (Nat.le_refl _) h)
theorem c0N {x m:Nat}(hx:x≤2 ^ m)(h:m≤1000):¬ ovQ (dyQ x m):=
 (c0O (c0S m) (by simpa using n0a hx h) (n0a (Nat.le_refl _) h)).fits (by omega) (by omega)
theorem p0I (x y m k:Nat):dyQ x m*dyQ y k=dyQ (x*y) (m+k):=by
 unfold dyQ;rw[Rat.mkRat_mul_mkRat,Int.natCast_mul,Nat.pow_add]
theorem k0F (x y m:Nat):dyQ x m+dyQ y m=dyQ (x+y) m:=by
 unfold dyQ;rw[Rat.mkRat_add_mkRat _ _ (c0S m) (c0S m),← Int.add_mul,Rat.mkRat_mul_right (c0S m),Int.natCast_add]
theorem p0H {x y m:Nat}(h:y≤x):dyQ x m-dyQ y m=dyQ (x-y) m:=by
 have:=k0F (x-y) y m;rw[Nat.sub_add_cancel h]at this;rw[← this,Rat.add_sub_cancel]
theorem j0G {x y m k:Nat}(hx:x≤2 ^ m)(hy:y≤2 ^ k)(h:m+k≤1000):b0b (· * ·) (dyB x m) (dyB y k)=dyB (x*y) (m+k):=by
 have hxy:x*y≤2 ^ (m+k):=by rw[Nat.pow_add];exact Nat.mul_le_mul hx hy
 rw[i0f hx (by omega),i0f hy (by omega),(d0a (f:=(· * ·)) (c0N hx (by omega)) (c0N hy (by omega)) (by show ¬ ovQ (_*_);rw[p0I];exact c0N hxy h)).1];show txQ (_*_)=_
 rw[p0I,i0f hxy h]
theorem p0G {x y m:Nat}(hx:x+y≤2 ^ m)(h:m≤1000):b0b (· + ·) (dyB x m) (dyB y m)=dyB (x+y) m:=by
 rw[i0f (x:=x) (by omega) h,i0f (x:=y) (by omega) h,(d0a (f:=(· + ·)) (c0N (by omega) (by omega)) (c0N (by omega) (by omega)) (by show ¬ ovQ (_+_);rw[k0F];exact c0N hx h)).1];show txQ (_+_)=_
 rw[k0F,i0f hx h]
theorem s0U {x y m:Nat}(hx:x≤2 ^ m)(hy:y≤x)(h:m≤1000):b0b (· - ·) (dyB x m) (dyB y m)=dyB (x-y) m:=by
 rw[i0f (x:=x) hx h,i0f (x:=y) (by omega) h,(d0a (f:=(· - ·)) (c0N hx (by omega)) (c0N (by omega) (by omega)) (by show ¬ ovQ (_-_);rw[p0H hy];exact c0N (by omega) h)).1];show txQ (_-_)=_
 rw[p0H hy,i0f (by omega) h]
theorem w0G (x m k:Nat):dyB (x*2 ^ k) (m+k)=dyB x m:=by
 unfold dyB shB;rw[h0E,h0E,Int.natCast_mul,Nat.pow_add,Rat.mkRat_mul_right (c0S k)]
theorem i0e (m:Nat):dyB 0 m=⟨#[48]⟩:=by
 have:=w0G 0 0 m;rw[Nat.zero_mul,Nat.zero_add]at this;rw[this];unfold dyB;rw[e0Z (by decide) (by decide +kernel) (by decide +kernel)]
 decide +kernel
theorem w0H:dyB 1 0=⟨#[49]⟩:=by
 unfold dyB;rw[e0Z (by decide) (by decide +kernel) (by decide +kernel)]
 decide +kernel
theorem p0F (m:Nat):dyB (2 ^ m) m=⟨#[49]⟩:=by
 have:=w0G 1 0 m;rw[Nat.one_mul,Nat.zero_add]at this;rw[this,w0H]
end Go.Proofs.YtlmnpocifldpmaaGreatDoor
namespace Go.Proofs.YtlmnpocifldpmaaGreatDoor
open Go.RowKit
def nzV (c xs:List Int):List Int:=List.zipWith (· + ·) c xs
open Go.Lib (decDigits nDigits)
def e3:Nat:=300
def e7:Nat:=700
theorem h0O {N D:Nat}:∀ (n j x:Nat),sdx N D j=(x,true)→cvF (c0p N D) (fun m=>2 ^ m) j n*D≤x*2 ^ n
 | 0,j,x,h=>by rw[cvF];omega
 | n+1,j,x,h=>by
  rw[cvF];have eo:c0p N D (j+1)=decide (D≤2*x):=by rw[c0p,h];simp
  rw[eo,Nat.pow_succ];rcases Nat.lt_trichotomy (2*x) D with hc | hc | hc
  ·have hs:sdx N D (j+1)=(2*x,true):=by rw[sdx,h];simp;omega
   have ih:=h0O n (j+1) (2*x) hs;rw[if_neg (by simp;omega),Nat.zero_add];have:2*x*2 ^ n=x*(2 ^ n*2):=by rw[Nat.mul_comm 2 x,Nat.mul_assoc,Nat.mul_comm 2]
   omega
  ·have hs:(sdx N D (j+1)).2=false:=by rw[sdx,h];simp[hc]
   rw[if_pos (by simp;omega),b0X n (j+1) (fun i hi=>d0c hs i hi),Nat.add_zero,← hc];have:2 ^ n*(2*x)=x*(2 ^ n*2):=by rw[Nat.mul_comm 2 x,← Nat.mul_assoc,Nat.mul_comm (2 ^ n) x,Nat.mul_assoc]
   omega
  ·have hs:sdx N D (j+1)=(2*x-D,true):=by
    rw[sdx,h];show (if true=true then (if D≤2*x then (2*x-D,decide (2*x≠D)) else (2*x,true)) else (x,true))=_
    rw[if_pos rfl,if_pos (by omega),decide_eq_true (by omega)]
   have ih:=h0O n (j+1) (2*x-D) hs;rw[if_pos (by simp;omega),Nat.add_mul];have e1:x*(2 ^ n*2)=2*x*2 ^ n:=by rw[Nat.mul_comm 2 x,Nat.mul_assoc,Nat.mul_comm 2]
   have e2:(2*x-D)*2 ^ n+D*2 ^ n=2*x*2 ^ n:=by rw[← Nat.add_mul];congr 1;omega
   have e3:2 ^ n*D=D*2 ^ n:=Nat.mul_comm _ _;omega
theorem f0A {N D:Nat}:∀ (n j x:Nat),sdx N D j=(x,true)→x<D→cvF (a0F N D) (fun m=>2 ^ m) j n*D≤(D-x)*2 ^ n
 | 0,j,x,h,hx=>by rw[cvF];omega
 | n+1,j,x,h,hx=>by
  rw[cvF];have ez:a0F N D (j+1)=decide (2*x≤D):=by rw[a0F,h];simp
  rw[ez,Nat.pow_succ];have e1:(D-x)*(2 ^ n*2)=2*(D-x)*2 ^ n:=by rw[Nat.mul_comm 2 (D-x),Nat.mul_assoc,Nat.mul_comm 2]
  have e3:2 ^ n*D=D*2 ^ n:=Nat.mul_comm _ _;rcases Nat.lt_trichotomy (2*x) D with hc | hc | hc
  ·have hs:sdx N D (j+1)=(2*x,true):=by rw[sdx,h];simp;omega
   have ih:=f0A n (j+1) (2*x) hs hc;rw[if_pos (by simp;omega),Nat.add_mul];have e2:(D-2*x)*2 ^ n+D*2 ^ n=2*(D-x)*2 ^ n:=by rw[← Nat.add_mul];congr 1;omega
   omega
  ·have hs:(sdx N D (j+1)).2=false:=by rw[sdx,h];simp[hc]
   rw[if_pos (by simp;omega),b0X n (j+1) (fun i hi=>c0q hs i hi),Nat.add_zero];have e2:2*(D-x)*2 ^ n=D*2 ^ n:=by congr 1;omega
   omega
  ·have hs:sdx N D (j+1)=(2*x-D,true):=by
    rw[sdx,h];show (if true=true then (if D≤2*x then (2*x-D,decide (2*x≠D)) else (2*x,true)) else (x,true))=_
    rw[if_pos rfl,if_pos (by omega),decide_eq_true (by omega)]
   have ih:=f0A n (j+1) (2*x-D) hs (by omega);rw[if_neg (by simp;omega),Nat.zero_add];have e2:(D-(2*x-D))*2 ^ n=2*(D-x)*2 ^ n:=by congr 1;omega
   omega
section
variable {N D : Nat} (h : N < D)
include h
theorem o0J (n:Nat):cvo (chi (c0p N D)) pw2 n*D≤N*2 ^ n:=by
 have o0:c0p N D 0=false:=rfl;rw[i0l,o0,if_neg (by simp),Nat.zero_add];by_cases h0:N=0
 ·subst h0;have hs:(sdx 0 D 0).2=false:=by simp[sdx]
  rw[b0X n 0 (fun i hi=>d0c hs i hi)];omega
 ·exact h0O n 0 N (by simp[sdx,h0])
theorem k0W (n:Nat):cvo (chi (a0F N D)) pw2 n*D≤(D-N)*2 ^ n:=by
 rw[i0l];by_cases h0:N=0
 ·subst h0;have hs:(sdx 0 D 0).2=false:=by simp[sdx]
  rw[b0X n 0 (fun i hi=>c0q hs i hi),Nat.add_zero];have e:(if a0F 0 D 0=true then pw2 n else 0)≤2 ^ n:=by
   unfold pw2
   split
   ·exact Nat.le_refl _
   ·exact Nat.zero_le _
  rw[Nat.sub_zero,Nat.mul_comm D];exact Nat.mul_le_mul_right _ e
 ·have z0:a0F N D 0=false:=by simp[a0F,h0]
  rw[z0,if_neg (by simp),Nat.zero_add];exact f0A n 0 N (by simp[sdx,h0]) h
omit h in
theorem i0j {f g:Nat→Nat}{n c d P Q:Nat}(hf:cvo f pw2 n*Q≤P*2 ^ n)(hg:∀ m,m≤n→g m*c≤d*2 ^ m):cvo f g n*(c*Q)≤P*d*2 ^ n:=by
 have h1:cvo f g n*c≤d*cvo f pw2 n:=by
  unfold cvo;rw[Nat.mul_comm,← c0h,← c0h];refine d0R fun s hs=>?_
  have:=Nat.mul_le_mul_left (f s) (hg (n-s) (by omega));unfold pw2
  calc c*(f s*g (n-s))=f s*(g (n-s)*c):=by rw[Nat.mul_comm,Nat.mul_assoc]
   _≤f s*(d*2 ^ (n-s)):=this
   _=d*(f s*2 ^ (n-s)):=by rw[← Nat.mul_assoc,Nat.mul_comm (f s),Nat.mul_assoc]
 calc cvo f g n*(c*Q)=cvo f g n*c*Q:=(Nat.mul_assoc _ _ _).symm
  _≤d*cvo f pw2 n*Q:=Nat.mul_le_mul_right _ h1
  _=d*(cvo f pw2 n*Q):=Nat.mul_assoc _ _ _
  _≤d*(P*2 ^ n):=Nat.mul_le_mul_left _ hf
  _=P*d*2 ^ n:=by rw[← Nat.mul_assoc,Nat.mul_comm d]
theorem o0K (i n:Nat):cw n (f0p N D (i+1))=cvo (chi (c0p N D)) (fun m=>cw m (f0p N D i)) n:=by
 rw[a0Q (Q:=b0F N D 0 1 (f0p N D i) (fun _=>false)) (fun l _=>f0X h (i+1) l),d0C h,a0P (f:=chi (a0F N D)) (f':=chi (a0F N D)) (g':=fun _=>0) (fun _ _=>rfl) (fun m _=>c0m m),d0D,Nat.add_zero]
theorem n0C (i k n:Nat):cw n (f0k N D (i+1) k)=cvo (chi (c0p N D)) (fun m=>cw m (f0k N D i k)) n:=by
 rw[a0Q (Q:=b0F N D 0 1 (f0k N D i k) (fun _=>false)) (fun l _=>f0I h (i+1) k l),d0C h,a0P (f:=chi (a0F N D)) (f':=chi (a0F N D)) (g':=fun _=>0) (fun _ _=>rfl) (fun m _=>c0m m),d0D,Nat.add_zero]
theorem j0n:∀ i n,cw n (f0p N D i)*D ^ (i+1)≤N ^ i*(D-N)*2 ^ n
 | 0,n=>by
  rw[g0l h,a0P (f':=chi (a0F N D)) (g':=pw2) (fun s _=>f0t N D s) (fun _ _=>rfl)];simpa using k0W h n
 | i+1,n=>by
  rw[o0K h,Nat.pow_succ D (i+1),Nat.pow_succ N i,Nat.mul_comm (N ^ i) N,Nat.mul_assoc N];exact i0j (o0J h n) fun m _=>j0n i m
theorem i0I (k:Nat):∀ i n,cw n (f0k N D i k)*D ^ (i+k+2)≤N ^ (i+k)*(D-N)*(D-N)*2 ^ n
 | 0,n=>by
  have e:cw n (f0k N D 0 k)=cvo (chi (a0F N D)) (fun m=>cw m (f0p N D k)) n:=by
   rw[g0k h k 0 n];exact a0P (fun s _=>f0t N D s) fun m _=>(g0l h k m).symm
  rw[e,Nat.zero_add,Nat.pow_succ D (k+1),Nat.mul_comm _ (D-N)];exact i0j (k0W h n) fun m _=>j0n h k m
 | i+1,n=>by
  rw[n0C h,show i+1+k+2=(i+k+2)+1 by omega,show i+1+k=(i+k)+1 by omega,Nat.pow_succ D (i+k+2),Nat.pow_succ N (i+k),Nat.mul_comm (N ^ (i+k)) N,Nat.mul_assoc N,Nat.mul_assoc N];exact i0j (o0J h n) fun m _=>i0I k i m
theorem n0B (i k n:Nat):cw n (f0k N D i k)=cw n (f0k N D k i):=by
 rw[g0k h,g0k h];exact l0W _ _ _ _
theorem w0x (n:Nat)(v:Int):gV N D true n (-v)=gV N D true n v:=by
 rw[l0P h,l0P h,e0n];refine a0b fun i _=>a0b fun k _=>?_
 by_cases hv:(i:Int)-(k:Int)=v
 ·rw[if_pos hv,if_pos (by omega),n0B h]
 ·rw[if_neg hv,if_neg (by omega)]
omit h in
omit h in
omit h in
end
theorem n0A {N D:Nat}(h:N<D)(n v:Nat):∀ m,a0i (fun k=>cw n (f0k N D (v+k) k)) m*(D+N)*D ^ (v+2*m)+2 ^ n*(D-N)*N ^ v*N ^ (2*m)≤2 ^ n*(D-N)*N ^ v*D ^ (2*m)
 | 0=>by simp[a0i]
 | m+1=>by
  have ih:=n0A h n v m;have ht:=i0I h m (v+m) n;rw[a0i];obtain⟨e,rfl⟩:∃ e,D=N+e:=⟨D-N,by omega⟩;rw[show N+e-N=e by omega]at *;rw[show v+m+m=v+2*m by omega,Nat.pow_add N v,Nat.pow_add (N+e) (v+2*m) 2]at ht;rw[show v+2*(m+1)=v+2*m+2 by omega,show 2*(m+1)=2*m+2 by omega,Nat.pow_add (N+e) (v+2*m) 2,Nat.pow_add N (2*m) 2,Nat.pow_add (N+e) (2*m) 2];generalize a0i (fun k=>cw n (f0k N (N+e) (v+k) k)) m=s at *
  generalize cw n (f0k N (N+e) (v+m) m)=t at *
  generalize (N+e) ^ (v+2*m)=P at *
  generalize (N+e) ^ (2*m)=R at *
  generalize N ^ (2*m)=Q at *
  generalize N ^ v=V at *
  generalize 2 ^ n=T at *
  calc (s+t)*(N+e+N)*(P*(N+e) ^ 2)+T*e*V*(Q*N ^ 2)
   = (N+e) ^ 2*(s*(N+e+N)*P)+(N+e+N)*(t*(P*(N+e) ^ 2))+T*e*V*(Q*N ^ 2):=by grind
   _≤(N+e) ^ 2*(s*(N+e+N)*P)+(N+e+N)*(V*Q*e*e*T)+T*e*V*(Q*N ^ 2):=Nat.add_le_add_right (Nat.add_le_add_left (Nat.mul_le_mul_left _ ht) _) _
   _=(N+e) ^ 2*(s*(N+e+N)*P+T*e*V*Q):=by grind
   _≤(N+e) ^ 2*(T*e*V*R):=Nat.mul_le_mul_left _ ih
   _=T*e*V*(R*(N+e) ^ 2):=by grind
theorem m0X {N D:Nat}(h:N<D)(n v:Nat):gV N D true n (v:Nat)≤a0i (fun k=>cw n (f0k N D (v+k) k)) (n+1):=by
 rw[l0P h,e0n];refine d0R fun k hk=>?_
 have e:∀ m,a0i (fun i=>if (i:Int)-(k:Int)=(v:Int) then cw n (f0k N D i k) else 0) m=if v+k<m then cw n (f0k N D (v+k) k) else 0:=fun m=>by
  rw[← e0o];refine a0b fun i _=>?_
  by_cases hi:i=v+k
  ·subst hi;rw[if_pos (by omega),if_pos rfl]
  ·rw[if_neg (by omega),if_neg hi]
 rw[e]
 split<;>omega
theorem p0q {N D:Nat}(h:N<D)(n:Nat)(v:Int):gV N D true n v*(D ^ v.natAbs*(D+N))≤N ^ v.natAbs*(D-N)*2 ^ n:=by
 have key:∀ v:Nat,gV N D true n (v:Nat)*(D ^ v*(D+N))≤N ^ v*(D-N)*2 ^ n:=fun v=>by
  have h1:=n0A h n v (n+1);have h2:=m0X h n v;have h3:0<D ^ (2*(n+1)):=Nat.pow_pos (by omega);rw[Nat.pow_add]at h1;generalize a0i (fun k=>cw n (f0k N D (v+k) k)) (n+1)=s at *
  generalize D ^ (2*(n+1))=R at *
  refine Nat.le_of_mul_le_mul_right (c:=R) ?_ h3
  calc gV N D true n (v:Nat)*(D ^ v*(D+N))*R≤s*(D ^ v*(D+N))*R:=Nat.mul_le_mul_right _ (Nat.mul_le_mul_right _ h2)
   _=s*(D+N)*(D ^ v*R):=by grind
   _≤2 ^ n*(D-N)*N ^ v*R:=by omega
   _=N ^ v*(D-N)*2 ^ n*R:=by generalize D-N=e;grind
 rcases Int.natAbs_eq v with hv | hv
 ·rw[hv,Int.natAbs_natCast];exact key _
 ·rw[hv,w0x h,Int.natAbs_neg,Int.natAbs_natCast];exact key _
end Go.Proofs.YtlmnpocifldpmaaGreatDoor
namespace Go.Proofs.YtlmnpocifldpmaaGreatDoor
open Go.RowKit
def msT (N D W:Nat)(v:Int):Nat:=if v.natAbs≤W then N ^ v.natAbs*(D-N)*D ^ (W-v.natAbs) else 0
theorem q0u (n:Nat)(f:Int→Nat):zS n f=f 0+a0i (fun j=>f ((j:Int)+1)+f (-((j:Int)+1))) n:=by
 induction n generalizing f with
 | zero=>simp[zS,a0i]
 | succ n ih=>
  have e:zS (n+1) f=f (-((n:Int)+1))+zS n f+f ((n:Int)+1):=by
   unfold zS;rw[show 2*(n+1)+1=(2*n+1+1)+1 by omega,a0i,b0k];have a1:(((0:Nat):Int)-((n+1:Nat):Int)) = -((n:Int)+1):=by omega
   have a2:(((2*n+1+1:Nat):Int)-((n+1:Nat):Int))=(n:Int)+1:=by omega
   rw[a1,a2,a0b (d:=fun j=>f ((j:Int)-n)) (fun j _=>by
    have:(((j+1:Nat):Int)-((n+1:Nat):Int))=(j:Int)-n:=by omega
    rw[this])]
  rw[e,ih,a0i];omega
theorem l0J {N D W:Nat}(h:N≤D):∀ m,m≤W→a0i (fun j=>msT N D W ((j:Int)+1)) m+N ^ (m+1)*D ^ (W-m)=N*D ^ W
 | 0,_=>by simp[a0i]
 | m+1,hm=>by
  have ih:=l0J (W:=W) h m (by omega);rw[a0i];have e1:msT N D W ((m:Int)+1)=N ^ (m+1)*(D-N)*D ^ (W-(m+1)):=by
   unfold msT;rw[show ((m:Int)+1).natAbs=m+1 by omega,if_pos hm]
  rw[e1];obtain⟨e,he⟩:∃ e,W-m=e+1:=⟨W-m-1,by omega⟩;rw[he]at ih;rw[show W-(m+1)=e by omega];have h1:N ^ (m+1)*D ^ (e+1)=N ^ (m+1)*(D-N)*D ^ e+N ^ (m+1+1)*D ^ e:=by
   obtain⟨d,rfl⟩:∃ d,D=N+d:=⟨D-N,by omega⟩;rw[show N+d-N=d by omega,Nat.pow_succ N (m+1),Nat.pow_succ (N+d),← Nat.add_mul,← Nat.mul_add,Nat.mul_assoc,Nat.mul_comm ((N+d) ^ e),Nat.add_comm d N]
  omega
theorem o0V {N D:Nat}(W:Nat)(h:N≤D):zS W (msT N D W)≤(D+N)*D ^ W:=by
 rw[q0u];have e0:msT N D W 0=(D-N)*D ^ W:=by
  unfold msT;rw[show (0:Int).natAbs=0 from rfl,if_pos (Nat.zero_le _),Nat.pow_zero,Nat.one_mul,Nat.sub_zero]
 have e1:a0i (fun j=>msT N D W ((j:Int)+1)+msT N D W (-((j:Int)+1))) W=2*a0i (fun j=>msT N D W ((j:Int)+1)) W:=by
  rw[← c0h];refine a0b fun j _=>?_
  have:msT N D W (-((j:Int)+1))=msT N D W ((j:Int)+1):=by
   unfold msT;rw[Int.natAbs_neg]
  rw[this];omega
 rw[e0,e1];have h2:=l0J (W:=W) h W (Nat.le_refl _);obtain⟨d,rfl⟩:∃ d,D=N+d:=⟨D-N,by omega⟩;rw[show N+d-N=d by omega,Nat.add_mul,Nat.add_mul N d];omega
theorem j0p {N D W u:Nat}(h:N≤D){x y:Int}(hx:(y-x).natAbs≤u)(hW:x.natAbs+u≤W):msT N D W x*N ^ u≤msT N D W y*D ^ u:=by
 unfold msT;rw[if_pos (by omega),if_pos (by omega)];obtain⟨e,he⟩:∃ e,x.natAbs+u=y.natAbs+e:=⟨x.natAbs+u-y.natAbs,by omega⟩;have h1:N ^ x.natAbs*N ^ u=N ^ y.natAbs*N ^ e:=by rw[← Nat.pow_add,← Nat.pow_add,he]
 have h2:D ^ (W-y.natAbs)*D ^ u=D ^ (W-x.natAbs)*D ^ e:=by rw[← Nat.pow_add,← Nat.pow_add];congr 1;omega
 calc N ^ x.natAbs*(D-N)*D ^ (W-x.natAbs)*N ^ u=(N ^ x.natAbs*N ^ u)*(D-N)*D ^ (W-x.natAbs):=by ac_rfl
  _=N ^ y.natAbs*N ^ e*(D-N)*D ^ (W-x.natAbs):=by rw[h1]
  _≤N ^ y.natAbs*D ^ e*(D-N)*D ^ (W-x.natAbs):=Nat.mul_le_mul_right _ (Nat.mul_le_mul_right _ (Nat.mul_le_mul_left _ (Nat.pow_le_pow_left h e)))
  _=N ^ y.natAbs*(D-N)*(D ^ (W-x.natAbs)*D ^ e):=by ac_rfl
  _=N ^ y.natAbs*(D-N)*D ^ (W-y.natAbs)*D ^ u:=by rw[← h2];ac_rfl
theorem p0r {N D n W:Nat}(h:N<D)(hW:n≤W)(v:Int):gV N D true n v*((D+N)*D ^ W)≤msT N D W v*2 ^ n:=by
 by_cases hv:v.natAbs≤W
 ·have h1:=p0q h n v;unfold msT;rw[if_pos hv];have e:D ^ W=D ^ v.natAbs*D ^ (W-v.natAbs):=by rw[← Nat.pow_add];congr 1;omega
  rw[e]
  calc gV N D true n v*((D+N)*(D ^ v.natAbs*D ^ (W-v.natAbs)))=gV N D true n v*(D ^ v.natAbs*(D+N))*D ^ (W-v.natAbs):=by ac_rfl
   _≤N ^ v.natAbs*(D-N)*2 ^ n*D ^ (W-v.natAbs):=Nat.mul_le_mul_right _ h1
   _=N ^ v.natAbs*(D-N)*D ^ (W-v.natAbs)*2 ^ n:=by ac_rfl
 ·rw[c0w h (by omega),Nat.zero_mul];exact Nat.zero_le _
theorem d0s (u:Nat→Nat)(a:Nat):∀ b,a0i u (a+b)=a0i u a+a0i (fun j=>u (a+j)) b
 | 0=>rfl
 | b+1=>by
  rw[← Nat.add_assoc,a0i,d0s u a b,a0i];omega
theorem f0B {R W:Nat}(f:Int→Nat){d:Int}(h:R+d.natAbs≤W):zS R (fun x=>f (x+d))≤zS W f:=by
 obtain⟨o,ho⟩:∃ o:Nat,(o:Int)=W-R+d:=⟨(W-R+d:Int).toNat,by omega⟩;unfold zS;rw[a0b (d:=fun j=>f (((o+j:Nat):Int)-W)) (fun j _=>by show f _=f _;congr 1;omega)];have:=d0s (fun j=>f ((j:Int)-W)) o (2*R+1);have h2:=b0v (f:=fun j=>f ((j:Int)-W)) (show o+(2*R+1)≤2*W+1 by omega);omega
theorem t0i {n W:Nat}{f:Int→Nat}(h:n≤W)(hf:∀ v:Int,v < -(n:Int)∨(n:Int)<v→f v=0):zS W f=zS n f:=by
 unfold zS;have e1:=d0s (fun j=>f ((j:Int)-W)) (W-n) (2*n+1+(W-n));have e2:=d0s (fun j=>f (((W-n+j:Nat):Int)-W)) (2*n+1) (W-n);rw[show W-n+(2*n+1+(W-n))=2*W+1 by omega]at e1;rw[e1,e2,a0b (d:=fun _=>0) (fun j hj=>hf _ (by omega)),a0t,a0b (c:=fun j=>f (((W-n+(2*n+1+j):Nat):Int)-W)) (d:=fun _=>0) (fun j hj=>hf _ (by omega)),a0t,Nat.zero_add,Nat.add_zero];refine a0b fun j hj=>?_
 congr 1
 omega
theorem o0P {P Q X N D T E:Nat}(hT:P*T*N≤X*E*D)(hQ:Q*T≤X*E):(P*N-Q*D+Q*D)*T≤X*E*D:=by
 rcases Nat.le_total (P*N) (Q*D) with hc | hc
 ·rw[Nat.sub_eq_zero_of_le hc,Nat.zero_add]
  calc Q*D*T=Q*T*D:=by ac_rfl
   _≤X*E*D:=Nat.mul_le_mul_right _ hQ
 ·rw[Nat.sub_add_cancel hc]
  calc P*N*T=P*T*N:=by ac_rfl
   _≤X*E*D:=hT
def blw (g:Int→Nat)(n:Nat)(j:Int):Nat:=zS n fun y=>if decide (y<j)=true then g y else 0
theorem m0f (g:Int→Nat)(n:Nat)(j:Int):blw g n j≤zS n g:=q0v fun v _ _=>by split<;>omega
theorem k0Q (g:Int→Nat)(n:Nat)(j:Int):zS n (fun y=>if (!decide (y<j))=true then g y else 0)=zS n g-blw g n j:=by
 have:zS n (fun y=>if (!decide (y<j))=true then g y else 0)+blw g n j=zS n g:=by
  unfold blw;rw[← s0q];refine b0u fun y _ _=>?_
  by_cases h:y<j
  ·rw[decide_eq_true h];simp
  ·rw[decide_eq_false h];simp
 omega
def u0u (t:Int)(i k:Nat)(ck:Int):Int→Bool:=fun y=>if k<i then decide (y<t-ck) else if k=i then !decide (y<t-ck) else true
def ps2 (t:Int)(i:Nat):Nat→List Int→List (Int→Bool)
 | _,[]=>[]
 | k,ck::r=>u0u t i k ck::ps2 t i (k+1) r
theorem g0L (t:Int)(i:Nat):∀ (l:List Int) k,(ps2 t i k l).length=l.length
 | [],_=>rfl
 | c::r,k=>by rw[ps2,List.length_cons,g0L t i r,List.length_cons]
def sq1 (g:Int→Nat)(n:Nat)(t:Int)(i k:Nat)(ck:Int):Nat:=if k<i then blw g n (t-ck) else if k=i then zS n g-blw g n (t-ck) else zS n g
def sqF (g:Int→Nat)(n:Nat)(t:Int)(i:Nat):Nat→List Int→Nat
 | _,[]=>1
 | k,ck::r=>sq1 g n t i k ck*sqF g n t i (k+1) r
theorem v0y (g:Int→Nat)(n:Nat)(t:Int)(i k:Nat)(ck:Int):zS n (fun y=>if u0u t i k ck y=true then g y else 0)=sq1 g n t i k ck:=by
 unfold u0u sq1;by_cases h1:k<i
 ·rw[if_pos h1];exact b0u fun y _ _=>by rw[if_pos h1]
 ·rw[if_neg h1];by_cases h2:k=i
  ·rw[if_pos h2,← k0Q];exact b0u fun y _ _=>by rw[if_neg h1,if_pos h2]
  ·rw[if_neg h2];exact b0u fun y _ _=>by rw[if_neg h1,if_neg h2];rfl
theorem s0x (g:Int→Nat)(n:Nat)(t:Int)(i:Nat):∀ (l:List Int) (k:Nat),pPr n (List.replicate l.length g) (ps2 t i k l)=sqF g n t i k l
 | [],_=>rfl
 | c::r,k=>by rw[List.length_cons,List.replicate_succ,ps2,pPr,sqF,s0x g n t i r,v0y]
def sqT (gA gC:Int→Nat)(n:Nat)(thr:Int)(c:List Int)(i:Nat):Nat:=zS n fun x=>gA x*sqF gC n (thr+x) i 0 c
def h0Z (t:Int)(l:List Int):Nat:=l.findIdx fun z=>decide (t≤z)
theorem m0i {t:Int}{i:Nat}:∀ (l xs:List Int) (k:Nat),xs.length=l.length→(s0n (ps2 t i k l) xs=true ↔ ∀ j x ck,l[j]?=some ck→xs[j]?=some x→u0u t i (k+j) ck x=true)
 | [],[],k,_=>by simp[ps2,s0n]
 | c::r,x::xs,k,h=>by
  rw[ps2,s0n,Bool.and_eq_true,m0i r xs (k+1) (by simpa using h)]
  constructor
  ·rintro⟨h1,h2⟩ j y cy hc hy;cases j with
   | zero=>simp at hc hy;subst hc hy;exact h1
   | succ j=>simp at hc hy;have:=h2 j y cy hc hy;rwa[Nat.add_right_comm]at this
  ·intro h1;refine⟨h1 0 x c rfl rfl,fun j y cy hc hy=>?_⟩;have:=h1 (j+1) y cy (by simpa using hc) (by simpa using hy);rwa[Nat.add_right_comm]
theorem g0N {c xs:List Int}(h:xs.length=c.length):(nzV c xs).length=c.length:=by
 unfold nzV;rw[List.length_zipWith,h,Nat.min_self]
theorem u0r {c xs:List Int}(h:xs.length=c.length){t:Int}{i:Nat}(hi:i≤c.length):s0n (ps2 t i 0 c) xs=true↔h0Z t (nzV c xs)=i:=by
 rw[m0i c xs 0 h];simp only[Nat.zero_add];have hlen:=g0N h;have get:∀ k (hk:k<c.length),(nzV c xs)[k]'(by omega)=c[k]+xs[k]'(by omega):=fun k hk=>by simp[nzV]
 unfold h0Z
 constructor
 ·intro ha;have hlt:∀ k (hk:k<c.length),k<i→¬ t≤(nzV c xs)[k]'(by omega):=fun k hk hki=>by
   have:=ha k (xs[k]'(by omega)) c[k] (List.getElem?_eq_getElem hk) (List.getElem?_eq_getElem (by omega));unfold u0u at this;rw[if_pos hki,decide_eq_true_iff]at this;rw[get k hk];omega
  by_cases hc:i=c.length
  ·have:(nzV c xs).findIdx (fun z=>decide (t≤z))=(nzV c xs).length:=List.findIdx_eq_length.2 fun z hz=>by
    obtain⟨k,hk,rfl⟩:=List.getElem_of_mem hz;exact decide_eq_false (hlt k (by omega) (by omega))
   omega
  ·have hic:i<c.length:=by omega
   rw[List.findIdx_eq (by omega)];refine⟨?_,fun j hj=>decide_eq_false (hlt j (by omega) hj)⟩;have:=ha i (xs[i]'(by omega)) c[i] (List.getElem?_eq_getElem hic) (List.getElem?_eq_getElem (by omega));unfold u0u at this;rw[if_neg (Nat.lt_irrefl _),if_pos rfl,Bool.not_eq_true',decide_eq_false_iff_not]at this;rw[get i hic];exact decide_eq_true (by omega)
 ·intro hf k x ck h1 h2;obtain⟨hk,rfl⟩:=List.getElem?_eq_some_iff.1 h1;obtain⟨hk2,rfl⟩:=List.getElem?_eq_some_iff.1 h2;unfold u0u;by_cases hki:k<i
  ·rw[if_pos hki];have:=List.not_of_lt_findIdx (p:=fun z=>decide (t≤z)) (xs:=nzV c xs) (i:=k) (by omega);rw[get k hk]at this;have:=of_decide_eq_false (by simpa using this:decide (t≤c[k]+xs[k])=false);exact decide_eq_true (by omega)
  ·rw[if_neg hki];by_cases he:k=i
   ·rw[if_pos he];subst he;have hlt:(nzV c xs).findIdx (fun z=>decide (t≤z))<(nzV c xs).length:=by omega
    have:=List.findIdx_getElem (w:=hlt);simp only[hf]at this;rw[get k hk]at this;have:=of_decide_eq_true this;simp;omega
   ·rw[if_neg he]
def sqA (thr:Int)(c:List Int):List Int→Nat
 | x::ys=>h0Z (thr+x) (nzV c ys)
 | []=>0
theorem v0w (gA gC:Int→Nat)(n:Nat)(thr:Int)(c:List Int){i:Nat}(hi:i≤c.length):sqT gA gC n thr c i=vw n (gA::List.replicate c.length gC) (fun xs=>b1 (decide (sqA thr c xs=i))):=by
 unfold sqT;rw[vw];refine b0u fun x _ _=>?_
 rw[← s0x,← n0t n _ _ (by rw[List.length_replicate,g0L])]
 congr 1
 refine e0j fun ys hl _=>?_
 rw[List.length_replicate]at hl
 congr 1
 rw[Bool.eq_iff_iff,u0r hl hi,decide_eq_true_iff];rfl
theorem u0s (t:Int)(l:List Int):h0Z t l≤l.length:=List.findIdx_le_length
theorem k0i (gA gC:Int→Nat)(n:Nat)(thr:Int)(c:List Int):a0i (sqT gA gC n thr c) (c.length+1)=zS n gA*zS n gC ^ c.length:=by
 rw[a0b (fun i hi=>v0w gA gC n thr c (Nat.le_of_lt_succ hi)),← s0r];have:∀ L,x0f n (List.replicate L gC)=zS n gC ^ L:=fun L=>by
  induction L with
  | zero=>rfl
  | succ L ih=>rw[List.replicate_succ,j0i,ih,Nat.pow_succ,Nat.mul_comm]
 rw[← this,← j0i];refine e0j fun xs hl _=>?_
 cases xs with
 | nil=>simp at hl
 | cons x ys=>
  simp at hl;have hle:=u0s (thr+x) (nzV c ys);rw[g0N hl]at hle;have hA:sqA thr c (x::ys)=h0Z (thr+x) (nzV c ys):=rfl;rw[hA,a0b (d:=fun i=>if h0Z (thr+x) (nzV c ys)=i then 1 else 0) (fun i _=>by
   by_cases e:h0Z (thr+x) (nzV c ys)=i
   ·rw[if_pos e,b1,if_pos (decide_eq_true e)]
   ·rw[if_neg e,b1,if_neg (by simpa using e)]),e0p,if_pos (by omega)]
section
variable {N D n W : Nat} (h : N < D) (hW : n ≤ W)
include h hW
theorem v0j (p q:Int→Bool)(hpq:∀ y,p y=true→q y=true):zS n (fun y=>if p y=true then gV N D true n y else 0)*((D+N)*D ^ W)≤2 ^ n*zS W (fun y=>if q y=true then msT N D W y else 0):=by
 rw[← c0C,← n0q,← t0i (n:=n) (W:=W) (f:=fun y=>(if p y=true then gV N D true n y else 0)*((D+N)*D ^ W)) hW (fun v hv=>by
  show (if _ then _ else _)*_=0
  rw[c0w h hv];split<;>simp)]
 refine q0v fun y _ _=>?_
 by_cases hp:p y=true
 ·rw[if_pos hp,if_pos (hpq y hp),Nat.mul_comm (2 ^ n)];exact p0r h hW y
 ·rw[if_neg hp,Nat.zero_mul];exact Nat.zero_le _
theorem x0k {e s:Nat}(hs:s≤e)(he:n+e≤W)(p q:Int→Bool)(hpq:∀ y,p y=true→q (y+s)=true):zS n (fun y=>if p y=true then gV N D true n y else 0)*((D+N)*D ^ W)*N ^ e≤2 ^ n*D ^ e*zS W (fun y=>if q y=true then msT N D W y else 0):=by
 have h1:=f0B (R:=n) (W:=W) (fun y=>if q y=true then msT N D W y else 0) (d:=(s:Int)) (by omega);refine Nat.le_trans ?_ (Nat.mul_le_mul_left _ h1);rw[← c0C,← c0C,← n0q];refine q0v fun y h1 h2=>?_
 by_cases hp:p y=true
 ·rw[if_pos hp,if_pos (hpq y hp)];have u1:=p0r h hW y;have u2:=j0p (N:=N) (D:=D) (W:=W) (u:=e) (by omega) (x:=y) (y:=y+s) (by omega) (by omega)
  calc gV N D true n y*((D+N)*D ^ W)*N ^ e≤msT N D W y*2 ^ n*N ^ e:=Nat.mul_le_mul_right _ u1
   _=msT N D W y*N ^ e*2 ^ n:=by ac_rfl
   _≤msT N D W (y+s)*D ^ e*2 ^ n:=Nat.mul_le_mul_right _ u2
   _=2 ^ n*D ^ e*msT N D W (y+s):=by ac_rfl
 ·rw[if_neg hp,Nat.zero_mul,Nat.zero_mul];exact Nat.zero_le _
theorem n0Q {t t':Int}{i:Nat}:∀ (l l':List Int) (k:Nat),l.length=l'.length→i<k→sqF (gV N D true n) n t i k l*((D+N)*D ^ W) ^ l.length≤(2 ^ n) ^ l.length*sqF (msT N D W) W t' i k l'
 | [],[],_,_,_=>by simp[sqF]
 | c::r,c'::r',k,hl,hk=>by
  have ih:=n0Q (t:=t) (t':=t') (i:=i) r r' (k+1) (by simpa using hl) (by omega);have h1:=v0j h hW (fun _=>true) (fun _=>true) (fun _ h=>h);simp only[if_true]at h1;rw[sqF,sqF,List.length_cons,Nat.pow_succ,Nat.pow_succ];unfold sq1;rw[if_neg (by omega),if_neg (by omega),if_neg (by omega),if_neg (by omega)];have:=Nat.mul_le_mul h1 ih;refine Nat.le_trans (Nat.le_of_eq ?_) (Nat.le_trans this (Nat.le_of_eq ?_))
  ·ac_rfl
  ·ac_rfl
theorem l0i {t t':Int}{i e s:Nat}(hs:s≤e)(he:n+e≤W):∀ (l l':List Int) (k:Nat),l.length=l'.length→k≤i→(∀ (j:Nat) (a b:Int),l[j]?=some a→l'[j]?=some b→t-a≤t'-b∧t'-b≤t-a+s) →
 sqF (gV N D true n) n t i k l*((D+N)*D ^ W) ^ l.length*N ^ e≤(2 ^ n) ^ l.length*D ^ e*sqF (msT N D W) W t' i k l'
 | [],[],_,_,_,_=>by
  simp[sqF];exact Nat.pow_le_pow_left (by omega) e
 | c::r,c'::r',k,hl,hk,hd=>by
  have h0:=hd 0 c c' rfl rfl;rw[sqF,sqF,List.length_cons,Nat.pow_succ,Nat.pow_succ];unfold sq1;by_cases hki:k<i
  ·have ih:=l0i (t:=t) (t':=t') (i:=i) hs he r r' (k+1) (by simpa using hl) (by omega) (fun j a b ha hb=>hd (j+1) a b (by simpa using ha) (by simpa using hb));rw[if_pos hki,if_pos hki];have h1:=v0j h hW (fun y=>decide (y<t-c)) (fun y=>decide (y<t'-c')) (fun y hy=>by
    have:=of_decide_eq_true hy;exact decide_eq_true (by omega))
   have:=Nat.mul_le_mul h1 ih;unfold blw;refine Nat.le_trans (Nat.le_of_eq ?_) (Nat.le_trans this (Nat.le_of_eq ?_))
   ·ac_rfl
   ·ac_rfl
  ·obtain rfl:k=i:=by omega
   have ih:=n0Q h hW (t:=t) (t':=t') (i:=k) r r' (k+1) (by simpa using hl) (by omega);rw[if_neg hki,if_neg hki,if_pos rfl,if_pos rfl,← k0Q,← k0Q];have h1:=x0k h hW hs he (fun y => !decide (y<t-c)) (fun y => !decide (y<t'-c')) (fun y hy=>by
    rw[Bool.not_eq_true',decide_eq_false_iff_not]at hy ⊢;omega)
   have:=Nat.mul_le_mul h1 ih;refine Nat.le_trans (Nat.le_of_eq ?_) (Nat.le_trans this (Nat.le_of_eq ?_))
   ·ac_rfl
   ·ac_rfl
end
theorem l0g {N1 D1 N2 D2 n W e s e' s':Nat}(h1:N1<D1)(h2:N2<D2)(hs:s≤e)(he:n+e≤W)(hs':s'≤e')(he':n+e'≤W){thr:Int}{c c':List Int}(hl:c.length=c'.length){i:Nat}
 (hd:∀ (j:Nat) (a b:Int),c[j]?=some a→c'[j]?=some b→b-a≤s∧(s:Int)-(b-a)≤s'):
 sqT (gV N1 D1 true n) (gV N2 D2 true n) n thr c i*(((D1+N1)*D1 ^ W)*((D2+N2)*D2 ^ W) ^ c.length)*(N1 ^ e*N2 ^ e')≤sqT (msT N1 D1 W) (msT N2 D2 W) W thr c' i*(2 ^ n) ^ (c.length+1)*(D1 ^ e*D2 ^ e'):=by
 unfold sqT;have hsh:=f0B (R:=n) (W:=W) (fun x=>msT N1 D1 W x*sqF (msT N2 D2 W) W (thr+x) i 0 c') (d:=(s:Int)) (by omega);refine Nat.le_trans ?_ (Nat.mul_le_mul_right _ (Nat.mul_le_mul_right _ hsh));rw[← c0C,← c0C,← c0C,← c0C];refine q0v fun x hx1 hx2=>?_
 have u1:=p0r (n:=n) (W:=W) h1 (by omega) x;have u2:=j0p (N:=N1) (D:=D1) (W:=W) (u:=e) (by omega) (x:=x) (y:=x+s) (by omega) (by omega);have u3:=l0i (n:=n) (W:=W) h2 (by omega) (t:=thr+x) (t':=thr+(x+s)) (i:=i) hs' he' c c' 0 hl (Nat.zero_le _) (fun j a b ha hb=>by
  have:=hd j a b ha hb;omega)
 rw[Nat.pow_succ (2 ^ n)];generalize sqF (gV N2 D2 true n) n (thr+x) i 0 c=P at *
 generalize sqF (msT N2 D2 W) W (thr+(x+s)) i 0 c'=Q at *
 generalize gV N1 D1 true n x=G at *
 generalize msT N1 D1 W x=A at *
 generalize msT N1 D1 W (x+s)=B at *
 generalize (D1+N1)*D1 ^ W=T1 at *
 generalize ((D2+N2)*D2 ^ W) ^ c.length=T2 at *
 generalize (2 ^ n) ^ c.length=E2 at *
 calc G*P*(T1*T2)*(N1 ^ e*N2 ^ e')=(G*T1)*N1 ^ e*(P*T2*N2 ^ e'):=by ac_rfl
  _≤(A*2 ^ n)*N1 ^ e*(E2*D2 ^ e'*Q):=Nat.mul_le_mul (Nat.mul_le_mul_right _ u1) u3
  _=(A*N1 ^ e)*2 ^ n*(E2*D2 ^ e'*Q):=by ac_rfl
  _≤(B*D1 ^ e)*2 ^ n*(E2*D2 ^ e'*Q):=Nat.mul_le_mul_right _ (Nat.mul_le_mul_right _ u2)
  _=B*Q*(E2*2 ^ n)*(D1 ^ e*D2 ^ e'):=by ac_rfl
theorem m0r {N1 D1 N2 D2 n e s e' s':Nat}(h1:N1<D1)(h2:N2<D2)(hs:s≤e)(hs':s'≤e'){thr:Int}{c c':List Int}(hl:c.length=c'.length)
 (hd:∀ (j:Nat) (a b:Int),c[j]?=some a→c'[j]?=some b→b-a≤s∧(s:Int)-(b-a)≤s'):
 a0i (fun i=>sqT (gV N1 D1 true n) (gV N2 D2 true n) n thr c i*(N1 ^ e*N2 ^ e')-sqT (gV N1 D1 true n) (gV N2 D2 true n) n thr c' i*(D1 ^ e*D2 ^ e')) (c.length+1)+zS n (gV N1 D1 true n)*zS n (gV N2 D2 true n) ^ c.length*(D1 ^ e*D2 ^ e')≤2 ^ (n*(c.length+1))*(D1 ^ e*D2 ^ e'):=by
 obtain⟨W,hW⟩:∃ W,n+e+e'=W:=⟨_,rfl⟩;obtain⟨T,hT⟩:∃ T,((D1+N1)*D1 ^ W)*((D2+N2)*D2 ^ W) ^ c.length=T:=⟨_,rfl⟩;have hTp:0<T:=by
  rw[← hT];exact Nat.mul_pos (Nat.mul_pos (by omega) (Nat.pow_pos (by omega))) (Nat.pow_pos (Nat.mul_pos (by omega) (Nat.pow_pos (by omega))))
 have hE:(2 ^ n) ^ (c.length+1)=2 ^ (n*(c.length+1)):=(Nat.pow_mul 2 n _).symm;have hsum:a0i (sqT (msT N1 D1 W) (msT N2 D2 W) W thr c') (c.length+1)≤T:=by
  rw[hl,k0i,← hT,hl];exact Nat.mul_le_mul (o0V W (by omega)) (Nat.pow_le_pow_left (o0V W (by omega)) _)
 have hq:=k0i (gV N1 D1 true n) (gV N2 D2 true n) n thr c';rw[← hl]at hq;rw[← hq];have hmain:∀ m,m≤c.length+1→(a0i (fun i=>sqT (gV N1 D1 true n) (gV N2 D2 true n) n thr c i*(N1 ^ e*N2 ^ e')-sqT (gV N1 D1 true n) (gV N2 D2 true n) n thr c' i*(D1 ^ e*D2 ^ e')) m+a0i (sqT (gV N1 D1 true n) (gV N2 D2 true n) n thr c') m*(D1 ^ e*D2 ^ e'))*T≤a0i (sqT (msT N1 D1 W) (msT N2 D2 W) W thr c') m*2 ^ (n*(c.length+1))*(D1 ^ e*D2 ^ e'):=by
  intro m
  induction m with
  | zero=>intro _;simp[a0i]
  | succ m ih=>
   intro hm;have i1:=ih (by omega);have a1:=l0g (n:=n) (W:=W) h1 h2 hs (by omega) hs' (by omega) (thr:=thr) hl (i:=m) hd;have a2:=l0g (n:=n) (W:=W) (e:=0) (s:=0) (e':=0) (s':=0) h1 h2 (Nat.le_refl _) (by omega) (Nat.le_refl _) (by omega) (thr:=thr) (c:=c') (c':=c') rfl (i:=m) (fun j a b ha hb=>by rw[ha]at hb;cases hb;omega);rw[← hl]at a2;rw[hT,hE]at a1 a2;simp only[Nat.pow_zero,Nat.mul_one]at a2;have key:=o0P a1 a2;rw[a0i,a0i,a0i];generalize sqT (gV N1 D1 true n) (gV N2 D2 true n) n thr c m=P at *
   generalize sqT (gV N1 D1 true n) (gV N2 D2 true n) n thr c' m=Q at *
   generalize sqT (msT N1 D1 W) (msT N2 D2 W) W thr c' m=X at *
   generalize a0i (fun i=>sqT (gV N1 D1 true n) (gV N2 D2 true n) n thr c i*(N1 ^ e*N2 ^ e')-sqT (gV N1 D1 true n) (gV N2 D2 true n) n thr c' i*(D1 ^ e*D2 ^ e')) m=S1 at *
   generalize a0i (sqT (gV N1 D1 true n) (gV N2 D2 true n) n thr c') m=S2 at *
   generalize a0i (sqT (msT N1 D1 W) (msT N2 D2 W) W thr c') m=S3 at *
   generalize 2 ^ (n*(c.length+1))=E at *
   generalize D1 ^ e*D2 ^ e'=F at *
   generalize N1 ^ e*N2 ^ e'=G at *
   calc (S1+(P*G-Q*F)+(S2+Q)*F)*T=(S1+S2*F)*T+(P*G-Q*F+Q*F)*T:=by rw[← Nat.add_mul,Nat.add_mul S2];congr 1;omega
    _≤S3*E*F+X*E*F:=Nat.add_le_add i1 key
    _=(S3+X)*E*F:=by rw[Nat.add_mul,Nat.add_mul]
 have:=hmain _ (Nat.le_refl _);refine Nat.le_of_mul_le_mul_right (Nat.le_trans this ?_) hTp
 calc a0i (sqT (msT N1 D1 W) (msT N2 D2 W) W thr c') (c.length+1)*2 ^ (n*(c.length+1))*(D1 ^ e*D2 ^ e')≤T*2 ^ (n*(c.length+1))*(D1 ^ e*D2 ^ e'):=Nat.mul_le_mul_right _ (Nat.mul_le_mul_right _ hsum)
  _=2 ^ (n*(c.length+1))*(D1 ^ e*D2 ^ e')*T:=by ac_rfl
theorem k0R {w w':World}(h:Below w.heap.size w w')(row:Option Nat):w.grownBy w' row:=⟨h.os,h.tape,h.output,h.size,fun k hk _=>h.block k hk⟩
theorem c0E (w:World)(v u:Value)(a b:Nat)(ha:IsN .i64 w v a)(hb:IsN .i64 w u b):
 Calls Tryz.prog 146 #[v,u] w fun e w'=>e=.returned (.int .i64 (b0G a b))∧Below w.heap.size w w':=by
 obtain⟨a1,c1,rfl,h1,h2,h3⟩:=ha.openI;obtain⟨a2,c2,rfl,k1,k2,k3⟩:=hb.openI;have H3:=hid h3;have K3:=hid k3;clear h3 k3 ha hb;by_cases hne:(limbs a).length=(limbs b).length
 ·obtain⟨n,ea⟩:∃ n,(limbs a).length=n:=⟨_,rfl⟩;have eb:(limbs b).length=n:=hne.symm.trans ea;rw[ea]at h1 ⊢;rw[eb]at k1 ⊢;have HA:=hid ea;have HB:=hid eb;clear hne ea eb;go_enter Tryz.func146,Tryz.ntmps146;go_wp2_with fail
  go_loopw [5] (fun i wr=>∃ (k:Nat) (t:Int),k≤n∧i=.int .i64 t∧t=(k:Int)-1∧Hid ((limbs a).drop k=(limbs b).drop k)∧Hid (Below w.heap.size w wr)) (fun i _=>(intOf i+1).toNat)
  case atStart=>exact⟨n,_,Nat.le_refl _,rfl,rfl,by rw[Hid,List.drop_of_length_le (by rw[HA.out];exact Nat.le_refl _),List.drop_of_length_le (by rw[HB.out];exact Nat.le_refl _)],Below.refl _ _⟩
  case round=>
   obtain⟨k,t,hk,rfl,ht,hd,hB⟩:=hrel;cases k with
   | zero=>
    obtain rfl:t = -1:=by omega
    clear ht;go_wp2_with fail;go_ret
    have:a=b:=e0D hd.out;subst this;exact⟨a0L c0Z.symm,hB.out⟩
   | succ k=>
    obtain rfl:t=(k:Int):=by omega
    clear ht;obtain⟨x,hx⟩:∃ x,(limbs a)[k]?=some x:=⟨_,List.getElem?_eq_getElem (by rw[HA.out];omega)⟩;obtain⟨y,hy⟩:∃ y,(limbs b)[k]?=some y:=⟨_,List.getElem?_eq_getElem (by rw[HB.out];omega)⟩;obtain⟨g,o,rfl,hg,hc⟩:=H3.out k x hx;obtain⟨g',o',rfl,hg',hc'⟩:=K3.out k y hy;have d1:=(hB.out.cell (p:=⟨g,o+k,none⟩) hg).trans hc;have d2:=(hB.out.cell (p:=⟨g',o'+k,none⟩) hg').trans hc';have HX:=hid hx;have HY:=hid hy;clear hx hy hc hc';have b1:(0:Int)≤(k:Int):=by omega
    have b2:(k:Int)<(n:Int):=by omega
    rcases Nat.lt_trichotomy x y with hlt | heq | hgt
    ·have q1:decide (x<y)=true:=by simpa using hlt
     go_wp2_with fail;go_quiet (fail)
     go_wp2_with fail;go_ret
     exact⟨a0L (b0A (e0B (HA.out.trans HB.out.symm) HX.out HY.out hd.out hlt)).symm,a0h hB.out _⟩
    ·have q1:decide (x<y)=false:=by simp;omega
     have q2:decide (y<x)=false:=by simp;omega
     go_wp2_with fail;go_quiet (fail)
     go_wp2_with fail;go_quiet (fail)
     go_wp2_with fail;go_roundw
     case rel=>exact⟨k,_,by omega,rfl,rfl,f0e HX.out (by rw[HY.out,heq]) hd.out,a0h hB.out _⟩
     case measure=>simp[intOf]<;>omega
    ·have q1:decide (x<y)=false:=by simp;omega
     have q2:decide (y<x)=true:=by simpa using hgt
     go_wp2_with fail;go_quiet (fail)
     go_wp2_with fail;go_quiet (fail)
     go_wp2_with fail;go_ret
     exact⟨a0L (c0o (e0B (HB.out.trans HA.out.symm) HY.out HX.out hd.out.symm hgt)).symm,a0h (a0h hB.out _) _⟩
 ·rcases Nat.lt_or_gt_of_ne hne with hlt | hgt
  ·have HL:=hid (c0l hlt);have q0:(((limbs a).length:Int) != ((limbs b).length:Int))=true:=by simp;omega
   have q1:decide ((limbs a).length<(limbs b).length)=true:=by simpa using hlt
   clear hne;go_enter Tryz.func146,Tryz.ntmps146;go_wp2_with fail;go_ret
   exact⟨a0L (b0A HL.out).symm,Below.refl _ _⟩
  ·have HL:=hid (c0l hgt);have q0:(((limbs a).length:Int) != ((limbs b).length:Int))=true:=by simp;omega
   have q1:decide ((limbs a).length<(limbs b).length)=false:=by simp;omega
   clear hne;go_enter Tryz.func146,Tryz.ntmps146;go_wp2_with fail;go_ret
   exact⟨a0L (c0o HL.out).symm,Below.refl _ _⟩
end Go.Proofs.YtlmnpocifldpmaaGreatDoor
