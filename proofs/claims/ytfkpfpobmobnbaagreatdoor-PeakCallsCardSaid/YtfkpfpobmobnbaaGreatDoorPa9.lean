/- Texts that the proof rests on, merged: R1e, Nt, Rp10, Rp11, Rp12, Rp13, Lr0, Fx0, Fd13, Fd4, Fn0, Sh6, Sm, Gd0, Gl0, Tb. -/
import Derived.Test.YtfkpfpobmobnbaaGreatDoorPa8
import Derived.WalkLawsBesides
import Derived.Sort.Walk0
import Derived.Deep.DeepCutAuto
import Derived.Deep.AppendLies
import Derived.Shelf.SlSortCmp.WholeK
import Derived.Shelf.SlGeneric
import Derived.Shelf.Small.Bits
import Derived.Ground.SlsfProg
import Derived.Ground.NamesProg
import Derived.Test.YtfkpfpobmobnbaaGreatDoorProg
import Derived.Sort.OwnSortedInts
import Derived.Maps.AppendAt
import Derived.RangeFuncBox
set_option linter.defProp false
set_option linter.unusedVariables false
set_option linter.unusedSimpArgs false
set_option linter.unusedSectionVars false
set_option maxRecDepth 100000
set_option maxHeartbeats 8000000
namespace Go.Proofs.YtfkpfpobmobnbaaGreatDoor
section
open Go.RowKit
def q0h (w:World)(v u:Value)(a b:Nat)(ha:IsN .i64 w v a)(hb:IsN .i64 w u b)(hle:b<=a)(hla:(limbs a).length<=1000000):
 Calls Tryz.prog 177 #[v,u] w fun e w'=>RetFr w.heap.size .i64 (a-b) e w'/\Below w.heap.size w w':=by
 obtain⟨i0,hi,hz0,hz1,hz2⟩:=Dj i0Q;obtain⟨a1,c1,rfl,h1,h2,h3⟩:=ha.openI;obtain⟨a2,c2,rfl,k1,k2,k3⟩:=hb.openI;have H3:=hid h3;have K3:=hid k3;clear h3 k3 ha hb;have hmn:=a0h hle;obtain⟨n,ea⟩:=gn ((limbs a).length);obtain⟨m,eb⟩:=gn ((limbs b).length);rw[ea]at h1 hla hmn |-;rw[eb]at k1 hmn |-;have HA:=hid ea;have HB:=hid eb;have HL:=hid hle;clear ea eb hle;go_enter Tryz.func177,Tryz.ntmps177;go_wp2_with fail
 go_loopw [5,6,7,8] (fun o cc i nn wr=>∃ (s:List Nat) (c:Nat) (C:Int),i=.int .i64 s.length/\cc=.int .i64 C/\C=(c:Int)/\c<=1/\s.length<=n/\Hid (MinusI a b s c)/\Hid (wr.ownsRow w.heap.size 3 1 o s.length (b0p .i64 s))/\Hid (Below w.heap.size w wr))
  (fun _ _ i _ _=>n-(intOf i).toNat)
 case atStart=>exact⟨[],0,0,rfl,rfl,rfl,by omega,by simp,MinusI.start a b,Eb _ _ _ _,Z3 _ _⟩
 case round=>
  obtain⟨s,c,C,rfl,rfl,hC,hc1,hs1,hP,hO,hB⟩:=hrel;obtain⟨ao,co,rfl⟩:=b0i hO.out;by_cases hA:s.length<n
  .obtain⟨x,hx⟩:∃ x,(limbs a)[s.length]?=some x:=⟨_,J0 (by rw[HA.out];exact hA)⟩;obtain⟨g,og,rfl,hg,hc⟩:=H3.out _ x hx;have hc':=(hB.out.cell (p:=⟨g,og+s.length,none⟩) hg).trans hc;have hxl:=(a0o a).get hx;have HX:=hid hx;clear hx hc;by_cases hB':s.length<m
   focus
    obtain⟨y,hy⟩:∃ y,(limbs b)[s.length]?=some y:=⟨_,J0 (by rw[HB.out];exact hB')⟩;obtain⟨g',og',rfl,hg',hd⟩:=K3.out _ y hy;have hd':=(hB.out.cell (p:=⟨g',og'+s.length,none⟩) hg').trans hd;have hyl:=(a0o b).get hy;have HY:=hid hy;clear hy hd;rcases (show c=0\/c=1 by omega) with rfl | rfl
    focus
     obtain rfl:C=0:=by omega
     clear hC;by_cases hneg:x<y+0
     focus
      obtain⟨z,hz0',hz1',hzI⟩:∃ z:Nat,x+1000000000*1=z+0+y/\z<1000000000/\Hid ((↑x - ↑y+1000000000:Int)=(z:Int)):=⟨((↑x - ↑y+1000000000:Int)).toNat,by omega,by omega,by rw[Hid];omega⟩;have HN:=hid (hP.out.next (z:=z) (c':=1) (by rw[a0J HX.out,a0J HY.out];omega) hz1' (by omega));clear hz0' hz1';have q1:decide ((x:Int)-(y:Int)<0)=true:=by simp<;>omega
     rotate_left
     focus
      obtain⟨z,hz0',hz1',hzI⟩:∃ z:Nat,x+1000000000*0=z+0+y/\z<1000000000/\Hid ((↑x - ↑y:Int)=(z:Int)):=⟨((↑x - ↑y:Int)).toNat,by omega,by omega,by rw[Hid];omega⟩;have HN:=hid (hP.out.next (z:=z) (c':=0) (by rw[a0J HX.out,a0J HY.out];omega) hz1' (by omega));clear hz0' hz1';have q1:decide ((x:Int)-(y:Int)<0)=false:=by simp<;>omega
    rotate_left 2
    focus
     obtain rfl:C=1:=by omega
     clear hC;by_cases hneg:x<y+1
     focus
      obtain⟨z,hz0',hz1',hzI⟩:∃ z:Nat,x+1000000000*1=z+1+y/\z<1000000000/\Hid ((↑x-1 - ↑y+1000000000:Int)=(z:Int)):=⟨((↑x-1 - ↑y+1000000000:Int)).toNat,by omega,by omega,by rw[Hid];omega⟩;have HN:=hid (hP.out.next (z:=z) (c':=1) (by rw[a0J HX.out,a0J HY.out];omega) hz1' (by omega));clear hz0' hz1';have q1:decide ((x:Int)-1-(y:Int)<0)=true:=by simp<;>omega
     rotate_left
     focus
      obtain⟨z,hz0',hz1',hzI⟩:∃ z:Nat,x+1000000000*0=z+1+y/\z<1000000000/\Hid ((↑x-1 - ↑y:Int)=(z:Int)):=⟨((↑x-1 - ↑y:Int)).toNat,by omega,by omega,by rw[Hid];omega⟩;have HN:=hid (hP.out.next (z:=z) (c':=0) (by rw[a0J HX.out,a0J HY.out];omega) hz1' (by omega));clear hz0' hz1';have q1:decide ((x:Int)-1-(y:Int)<0)=false:=by simp<;>omega
   rotate_left 4
   focus
    skip
    rcases (show c=0\/c=1 by omega) with rfl | rfl
    focus
     obtain rfl:C=0:=by omega
     clear hC;by_cases hneg:x<0+0
     .omega
     focus
      obtain⟨z,hz0',hz1',hzI⟩:∃ z:Nat,x+1000000000*0=z+0+0/\z<1000000000/\Hid ((↑x:Int)=(z:Int)):=⟨((↑x:Int)).toNat,by omega,by omega,by rw[Hid];omega⟩;have HN:=hid (hP.out.next (z:=z) (c':=0) (by rw[a0J HX.out,b0f (by rw[HB.out];omega)];omega) hz1' (by omega));clear hz0' hz1';have q1:decide ((x:Int)<0)=false:=by simp<;>omega
    rotate_left
    focus
     obtain rfl:C=1:=by omega
     clear hC;by_cases hneg:x<0+1
     focus
      obtain⟨z,hz0',hz1',hzI⟩:∃ z:Nat,x+1000000000*1=z+1+0/\z<1000000000/\Hid ((↑x-1+1000000000:Int)=(z:Int)):=⟨((↑x-1+1000000000:Int)).toNat,by omega,by omega,by rw[Hid];omega⟩;have HN:=hid (hP.out.next (z:=z) (c':=1) (by rw[a0J HX.out,b0f (by rw[HB.out];omega)];omega) hz1' (by omega));clear hz0' hz1';have q1:decide ((x:Int)-1<0)=true:=by simp<;>omega
     rotate_left
     focus
      obtain⟨z,hz0',hz1',hzI⟩:∃ z:Nat,x+1000000000*0=z+1+0/\z<1000000000/\Hid ((↑x-1:Int)=(z:Int)):=⟨((↑x-1:Int)).toNat,by omega,by omega,by rw[Hid];omega⟩;have HN:=hid (hP.out.next (z:=z) (c':=0) (by rw[a0J HX.out,b0f (by rw[HB.out];omega)];omega) hz1' (by omega));clear hz0' hz1';have q1:decide ((x:Int)-1<0)=false:=by simp<;>omega
   all_goals
    clear hneg;go_wp2_with (at_builtin;refine Bw _ rfl _ _ 79 rfl w.heap.size 3 i0 (.int .i64 0) 1 8 Kg hi hz0 hz1 hz2 rfl (by decide) _ s.length _ rfl (hO.out.alloc _) ⟨wr.heap.size,0,none⟩ 1 1 [_] rfl rfl (Dh wr _ _) (by simp[Value.oneCell']) (by unfold maxLen;omega) (by omega) (by have:=hB.out.size;simp;omega) ?_;intro v' w3 hown3 hgrow3 _;have HO3:=hid hown3;have HG3:=hid hgrow3;clear hown3 hgrow3)
    obtain⟨n1,n2⟩:=e0G hO.out hB.out HO3.out HG3.out hzI.out;have N1:=hid n1;have N2:=hid n2;clear n1 n2 HO3 HG3;obtain⟨a3,k3,rfl⟩:=b0i N1.out;go_wp2_with fail;go_roundw
    case rel=>exact⟨s ++ [z],_,_,by simp,rfl,by simp,by omega,by simp<;>omega,HN,N1,N2⟩
    case measure=>simp[intOf]<;>omega
  .obtain rfl:s.length=n:=by omega
   have hv:=hid (hP.out.done HA.out.symm HL.out);go_wp2_with (go_at_call 222;refine (c0K _ _ _ s hP.out.sm (Row.of_owns hO.out)).mono ?_;rintro e w1 ⟨⟨m1,rfl,hv1⟩,rfl⟩)
   go_ret
   exact⟨⟨_,rfl,by rw[<- hv.out];exact hv1,fun g hg=>(hO.out.lt g (by cases ao<;>exact hg)).1⟩,hB.out⟩
def e0E (w:World)(v u:Value)(a b:Nat)(ha:IsN .i64 w v a)(hb:IsN .i64 w u b)(hle:b<=a)(hla:(limbs a).length<=1000000):
 Calls Tryz.prog 177 #[v,u] w fun e w'=>h0x .i64 (a-b) e w'/\Below w.heap.size w w':=
 (q0h w v u a b ha hb hle hla).mono fun _ _ h=>⟨h.1.ret,h.2⟩
open Go.Shelf
def k0h {w0 w w1 w3:World}{t:TypeId}{v:Value}{m:Nat}{vs:List Value}{o:Obj}(h:w.ownsRow w0.heap.size t 1 v m vs)(h0:Below w0.heap.size w0 w)(hb:Below w.heap.size w w1)(hg:(w1.alloc o).grownBy w3 v.ownBlock):Below w0.heap.size w0 w3:=by
 have h1:Below w0.heap.size w0 (w1.alloc o):=(h0.trans (hb.mono h0.size)).alloc (h0.trans (hb.mono h0.size)).size _;refine h1.trans ⟨hg.os,hg.tape,hg.output,hg.size,fun j hj=>hg.block j (U6 hj h1.size) fun e=>?_⟩;have:=(h.lt j e.symm).1;omega
def d0r {k:IntKind}{w:World}{v:Value}{n:Nat}{a:Addr}(h:IsN k w v n)(hne:n=0\/v.ownBlock≠some a.block)(x:Value):IsN k (w.setCell a x) v n:=by
 obtain⟨a',c,rfl,h1,h2,h3⟩:=h.ex;rw[ints_length]at *;refine⟨a',c,by rw[ints_length],by rw[ints_length];exact h1,h2,fun i y hy=>?_⟩;obtain⟨g,o,rfl,hg',hc⟩:=h3 i y hy;rcases hne with rfl | hne
 .rw[limbs_zero]at hy;simp[b0p]at hy
 .refine⟨g,o,rfl,by simpa[World.setCell]using hg',?_⟩;have hb:g≠a.block:=fun e=>hne (by rw[<- e];rfl)
  rw[<- hc];unfold World.setCell World.cell?;simp[Cd,Ne.symm hb]
structure NTab (B:Nat)(w:World)(g m c:Nat)(f:Nat->Nat):Prop where
 ex:∃ vs,w.ownsRow B 79 1 (.slice (some ⟨g,0,none⟩) m c) m vs/\∀ j x,vs[j]?=some x->IsN .i64 w x (f j)/\(f j=0\/∀ g',x.ownBlock=some g'->B<=g'/\g'≠g)
theorem NTab.slot {B:Nat}{w:World}{g m c:Nat}{f:Nat->Nat}(h:NTab B w g m c f):B<=g/\g<w.heap.size/\m<=c/\c<=9223372036854775807/\∀ i,w.frozen? ⟨g,i,none⟩=false:=by
 obtain⟨vs,h1,h2⟩:=h.ex;have hs:=d0I h1;exact⟨hs.1,hs.2.1,hs.2.2.2.2.2.1,hs.2.2.2.2.1,hs.2.2.1⟩
theorem NTab.call {B:Nat}{w w':World}{g m c:Nat}{f:Nat->Nat}(h:NTab B w g m c f)(hb:Below w.heap.size w w'):NTab B w' g m c f:=by
 obtain⟨vs,h1,h2⟩:=h.ex;exact⟨vs,h1.kept (a0T hb none) (by simp[Value.ownBlock]),fun j x hx=>⟨(h2 j x hx).1.call hb,(h2 j x hx).2⟩⟩
theorem NTab.at {B:Nat}{w:World}{g m c:Nat}{f:Nat->Nat}(h:NTab B w g m c f){i:Nat}(hi:i<m):∃ x,w.cell? ⟨g,i,none⟩=some x/\IsN .i64 w x (f i)/\(f i=0\/∀ g',x.ownBlock=some g'->B<=g'/\g'≠g):=by
 obtain⟨vs,h1,h2⟩:=h.ex;have hl:vs.length=m:=by have:=h1.1;omega
 obtain⟨x,hx⟩:∃ x,vs[i]?=some x:=⟨_,J0 (by omega)⟩;exact⟨x,(d0I h1).2.2.2.1 i x hx,(h2 i x hx).1,(h2 i x hx).2⟩
theorem NTab.row {B:Nat}{w:World}{g m c:Nat}{f:Nat->Nat}(h:NTab B w g m c f):NRow w (.slice (some ⟨g,0,none⟩) m c) m f:=by
 obtain⟨vs,h1,h2⟩:=h.ex;exact⟨vs,by have:=h1.1;omega,Row.of_owns h1,fun j x hx=>(h2 j x hx).1⟩
theorem NTab.fn {B:Nat}{w:World}{g m c:Nat}{f f':Nat->Nat}(h:NTab B w g m c f)(e:∀ i,i<m->f i=f' i):NTab B w g m c f':=by
 obtain⟨vs,h1,h2⟩:=h.ex;have hl:vs.length=m:=by have:=h1.1;omega
 refine⟨vs,h1,fun j x hx=>?_⟩;rw[<- e j (by have:=(O4.1 hx).1;omega)];exact h2 j x hx
theorem NTab.put {B:Nat}{w:World}{g m c n:Nat}{f:Nat->Nat}{x:Value}(h:NTab B w g m c f)(i:Nat)(hx:IsN .i64 w x n)(hne:n=0\/∀ g',x.ownBlock=some g'->B<=g'/\g'≠g):NTab B (w.setCell ⟨g,i,none⟩ x) g m c (fun j=>if j=i then n else f j):=by
 obtain⟨vs,h1,h2⟩:=h.ex;refine⟨vs.set i x,q0w h1 i x,fun j y hy=>?_⟩;rw[Ec]at hy;by_cases hj:i=j
 .subst hj;rw[J2 rfl]at hy
  split at hy
  .obtain rfl:=J9 hy;rw[J2 rfl];refine⟨d0r hx (hne.imp id fun e e'=>(e _ e').2 rfl) _,hne⟩
  .cases hy
 .rw[U0 hj]at hy;rw[U0 (fun e=>hj e.symm)];obtain⟨k1,k2⟩:=h2 j y hy;exact⟨d0r k1 (k2.imp id fun e e'=>(e _ e').2 rfl) _,k2⟩
theorem NTab.other {B:Nat}{w:World}{g m c:Nat}{f:Nat->Nat}(h:NTab B w g m c f){a:Addr}(ha:a.block<B)(x:Value):NTab B (w.setCell a x) g m c f:=by
 obtain⟨vs,h1,h2⟩:=h.ex;refine⟨vs,?_,fun j y hy=>?_⟩
 .refine⟨h1.1,?_⟩;rcases h1.2 with h0 | ⟨g',cap,cur,e,k1,k2,k3⟩
  .exact .inl h0
  .refine .inr ⟨g',cap,cur,e,k1,?_,k3⟩;have hg:g'≠a.block:=by omega
   rw[<- k2];unfold World.setCell;simp[Cd,Ne.symm hg]
 .obtain⟨k1,k2⟩:=h2 j y hy;exact⟨d0r k1 (k2.imp id fun e e'=>by have:=(e _ e').1;omega) _,k2⟩
theorem NTab.mono {B B':Nat}{w:World}{g m c:Nat}{f:Nat->Nat}(h:NTab B w g m c f)(hB:B'<=B):NTab B' w g m c f:=by
 obtain⟨vs,h1,h2⟩:=h.ex;refine⟨vs,⟨h1.1,?_⟩,fun j y hy=>?_⟩
 .rcases h1.2 with h0 | ⟨g',cap,cur,e,k1,k2,k3⟩
  .exact .inl h0
  .exact .inr ⟨g',cap,cur,e,by omega,k2,k3⟩
 .obtain⟨k1,k2⟩:=h2 j y hy;exact⟨k1,k2.imp id fun e g' hg=>⟨by have:=(e g' hg).1;omega,(e g' hg).2⟩⟩
theorem NTab.of {B:Nat}{w:World}{v:Value}{m:Nat}(h:NOwn B w v (m+1) (fun _=>0)):∃ g c,v=.slice (some ⟨g,0,none⟩) (m+1) c/\NTab B w g (m+1) c (fun _=>0):=by
 obtain⟨vs,h1,h2⟩:=id h;obtain⟨g,c,rfl,k1,k2⟩:=h1.form (Ed m);exact⟨g,c,rfl,vs,h1,fun j x hx=>⟨(h2 j x hx).1,.inl rfl⟩⟩
open Go.Lib (decDigits nDigits)
def m0J (w:World)(v:Value)(m n:Nat)(hv:IsN .i64 w v m)(hn:n<=256)(hm:m<=2 ^ 256):
 Calls Tryz.prog 220 #[v,.int .i64 (n:Nat)] w fun e w'=>e=.returned (.string (shB m (2 ^ n)))/\Below w.heap.size w w':=by
 have RT:=fun V=>hid (m0I V n (by omega))
 obtain⟨t,ht⟩:=gn (2 ^ n);rw[ht]at RT |-;have tle:t<=2 ^ 256:=by rw[<- ht];exact H6 (by omega) (by omega)
 have tpos:t≠0:=by rw[<- ht];exact Mv (Ff (by omega))
 have big:∀ x,x<=2 ^ 256->nDigits x<=78:=fun x hx=>a0l (by omega) (Df hx (by decide))
 have dm:=big m hm;have dt:=big t tle;have LM:Hid ((limbs m).length<=1000000):=a0x (by omega);have LT:Hid ((limbs t).length<=1000000):=a0x (by omega);have RM:=fun V=>hid (l0n V m t (by omega) (by omega) tpos)
 have V0:=hid hv;clear hv ht tle tpos big hm dm dt;go_enter Tryz.func220,Tryz.ntmps220;go_wp2_with fail;refine (a0S _ _ _ V0.out LM.out).mono ?_;rintro e w1 ⟨rfl,hb1⟩;have B1:=hid hb1;clear hb1;go_wp2_with fail;refine (RT _).out.mono ?_;rintro e w2 ⟨⟨v2,rfl,hv2⟩,hb2⟩;have V2:=hid hv2;have B2:=hid (a0a B1.out hb2);clear hv2 hb2;go_wp2_with fail;refine (a0S _ _ _ V2.out LT.out).mono ?_;rintro e w3 ⟨rfl,hb3⟩;have B3:=hid (a0a B2.out hb3);clear hb3;go_wp2_with fail;refine (RM _).out.mono ?_;rintro e w4 ⟨rfl,hb4⟩;have B4:=hid (a0a B3.out hb4);clear hb4;go_wp2_with fail;go_ret
 exact⟨rfl,B4.out⟩
def ltB (x z:ByteArray):Bool:=Op.bytesLess x.toList z.toList
def j0p (L:List (ByteArray×ByteArray))(key p:ByteArray):List (ByteArray×ByteArray):=
 if p=⟨#[48]⟩ then L else L.takeWhile (fun x=>ltB x.1 key)++(key,p)::L.dropWhile (fun x=>ltB x.1 key)
def m0w {L:List (ByteArray×ByteArray)}{f:ByteArray×ByteArray->Bool}:∀ {k:Nat},(∀ j x,j<k->L[j]?=some x->f x=true)->(∀ x,L[k]?=some x->f x=false)->L.takeWhile f=L.take k/\L.dropWhile f=L.drop k:=by
 induction L with
 | nil=>intro k _ _;simp
 | cons a r ih=>
  intro k h1 h2;cases k with
  | zero=>
   have:=h2 a (by simp);simp[this]
  | succ k=>
   have ha:=h1 0 a (by omega) (by simp);obtain⟨e1,e2⟩:=ih (k:=k) (fun j x hj hx=>h1 (j+1) x (by omega) (by simpa using hx)) (fun x hx=>h2 x (by simpa using hx));simp[ha,e1,e2]
def a0F {P:Program}(w:World){ops:Array Oper}{o:Oper}{a:Act}{K:Act->World->Prop}{Q:Exit->Act->World->Prop}{E:Prop}(hgd:o.guard=none)(s x:Operand)(t:TypeId)
 (ho:o.op=.call { callee:=.builtin .append,args:=#[s,x],argTypes:=#[t,t] })
 (base:Nat) (e:TypeId) (i:TypeInfo) (z:Value) (size bytes:Nat) (ht:P.underlying t=some (.slice e)) (hi:P.info? e=some i) (hz:i.zero=some z)
 (hsize:i.size=size) (hby:i.bytes=bytes) (hzs:z.cells.size=size) (hsz:0<size)
 (v:Value) (n:Nat) (xs:List Value) (hs:a.eval s=v) (hown:w.ownsRow base e size v n xs) (hv:v ≠ .slice none 0 0)
 (ao:Option Addr) (m c:Nat) (news:List Value) (hx:a.eval x=.slice ao m c) (hl:news.length=m*size) (hnews:∀ j u,news[j]?=some u->∃ ad,ao=some ad/\w.cell? (ad.add j)=some u) (h1:∀ u∈news,u.oneCell'=true)
 (h63:n+m<=maxLen) (hbytes:(n+m)*bytes<=140737488355328) (hbase:base<=w.heap.size)
 (h:∀ v' w',w'.ownsRow base e size v' (n+m) (xs++news)->w.grownBy w' v.ownBlock->v' ≠ .slice none 0 0->K (a.put o.dst v') w'):
 if Region.wanted o (yielded ops a.tmps)=true then Oper.wp P o a w K Q else E:=by
 have hw:Region.wanted o (yielded ops a.tmps)=true:=by simp[Region.wanted,hgd]
 rw[J2 hw];have key:∃ v' w',(Builtin.append_ #[t,t] o.type #[v,.slice ao m c]).run P w=.ok v' w'/\w'.ownsRow base e size v' (n+m) (xs++news)/\w.grownBy w' v.ownBlock/\v' ≠ .slice none 0 0:=by
  cases ao with
  | some ad=>
   obtain⟨v',w',hr,k1,k2,k3,-⟩:=run_append_own_at (P:=P) w base t o.type e i z size bytes ht hi hz hsize hby hzs hsz v n xs hown ad m c news hl (fun j u hu=>by obtain⟨ad',e',hc⟩:=hnews j u hu;cases e';exact hc) h1 h63 hbytes hbase;exact⟨v',w',hr,k1,k2,fun e=>hv (k3.1 e).1⟩
  | none=>
   have hn:news = []:=by
    cases news with
    | nil=>rfl
    | cons u r=>obtain⟨ad,e,_⟩:=hnews 0 u rfl;cases e
   subst hn;have hm:m=0:=by
    rcases M7 m with h | h
    .exact h
    .have:=Dr h hsz;simp at hl;omega
   subst hm;refine⟨v,w,?_,by simpa using hown,⟨rfl,rfl,rfl,J4 _,fun _ _ _=>rfl⟩,hv⟩;rcases hown.2 with ⟨e,_⟩ | ⟨g,cap,cur,rfl,hb,hg,h1',h2',h3',h4'⟩
   .exact absurd e hv
   .simp[Builtin.append_,run_underlying ht,sizeOf,typeInfo,hi,Builtin.lenOf,Builtin.firstCells,loadCells,loadCellsFrom,storeCells,h1']
 obtain⟨v',w',hr,h2,h3,h4⟩:=key;unfold Oper.wp execOp;simp only[ho,resolve,invoke,builtin,Sem.run_bind,Sem.run_pure,Result.andThen_ok,List.map_toArray,Lr,List.map_nil,hs,hx,hr];exact h v' w' h2 h3 h4
def c0L (M:List (ByteArray×ByteArray)):∀ u∈a0O M,u.oneCell'=true:=by
 intro u hu;obtain⟨x,_,hx⟩:=List.mem_flatMap.1 hu;simp at hx;rcases hx with rfl | rfl<;>rfl
def c0g (M:List (ByteArray×ByteArray))(x y:ByteArray):a0O (M ++ [(x,y)])=a0O M ++ [.string x,.string y]:=b0l _ _
def e0h {W:World}{g:Nat}:∀ {M:List (ByteArray×ByteArray)} {O:Nat},(∀ (i:Nat) (y:ByteArray×ByteArray),M[i]?=some y->W.cell? ⟨g,O+2*i,none⟩=some (.string y.1)/\W.cell? ⟨g,O+2*i+1,none⟩=some (.string y.2))->∀ (j:Nat) (u:Value),(a0O M)[j]?=some u->W.cell? ⟨g,O+j,none⟩=some u:=by
 intro M
 induction M with
 | nil=>intro O _ j u hu;simp[a0O]at hu
 | cons q r ih=>
  intro O h j u hu;have e:a0O (q::r)=.string q.1 :: .string q.2::a0O r:=rfl;rw[e]at hu
  match j,hu with
  | 0,hu=>simp at hu;subst hu;exact (h 0 q rfl).1
  | 1,hu=>simp at hu;subst hu;exact (h 0 q rfl).2
  | j+2,hu=>
   have:=ih (O:=O+2) (fun i y hy=>by
    have:=h (i+1) y (by simpa using hy);rw[show O+2*(i+1)=O+2+2*i by omega]at this;exact this) j u (by simpa using hu)
   rw[show O+(j+2)=O+2+j by omega];exact this
def l0z {W:World}{B:Nat}{x y:ByteArray}{t:TypeId}{fr:Nat×Nat}(h:W.heap[B]?=some (.cells #[.string x,.string y] t fr)):∀ (j:Nat) (u:Value),[Value.string x,Value.string y][j]?=some u->∃ ad,some (⟨B,0,none⟩:Addr)=some ad/\W.cell? (ad.add j)=some u:=fun j u hu=>⟨_,rfl,World.news_of_block h j u hu⟩
def b0A {w0 W w3:World}{t:TypeId}{z:Nat}{v:Value}{m:Nat}{vs:List Value}(h:W.ownsRow w0.heap.size t z v m vs)(h0:Below w0.heap.size w0 W)(hg:W.grownBy w3 v.ownBlock):Below w0.heap.size w0 w3:=by
 refine h0.trans ⟨hg.os,hg.tape,hg.output,hg.size,fun j hj=>hg.block j (U6 hj h0.size) fun e=>?_⟩;have:=(h.lt j e.symm).1;omega
def a0w {w X:World}{B:Nat}{t:TypeId}(hB:X.heap.size=B)(h:w.heap.size<=X.heap.size):(X.alloc (.cells #[] t)).ownsRow w.heap.size t 2 (.slice (some ⟨B,0,none⟩) 0 0) 0 []:=by subst hB;exact Jk _ _ 0 h (by unfold maxLen;omega) rfl
def Hc:=@Go.Addr.mk.injEq
def He:=@Go.heap_alloc_new
def Av:=@Go.Proofs.Tryz.underlying37
def m0H (w:World)(v:Value)(L:List (ByteArray×ByteArray))(key p:ByteArray)(hv:MRow w v L)(hn:L.length<=1000):
 Calls Tryz.prog 74 #[v,.string key,.string p] w fun e w'=>(∃ u,e=.returned u/\MRow w' u (j0p L key p))/\Below w.heap.size w w':=by
 obtain⟨i0,hi,hz0,hz1,hz2⟩:=Dj g0V;have HV:=hid hv;obtain⟨a,c,rfl,h1,h2,h3⟩:=hv.ex;obtain⟨n,hN⟩:=gn (L.length);rw[hN]at h1 HV hn |-;have HN:=hid hN;have H3:=hid h3;clear hv h3 hN;by_cases hp:p=⟨#[48]⟩
 .have e:Hid (j0p L key p=L):=by show j0p L key p=L;rw[j0p,J2 hp]
  rw[e.out];have q0:(p.toList == [48])=true:=by subst hp;rw[Cl];rfl
  clear hp e;go_enter Tryz.func74,Tryz.ntmps74;go_wp2_with fail;go_ret
  exact⟨⟨_,rfl,HV.out⟩,Z3 _ _⟩
 .have E:Hid (j0p L key p=L.takeWhile (fun x=>ltB x.1 key)++(key,p)::L.dropWhile (fun x=>ltB x.1 key)):=by show j0p L key p=_;rw[j0p,U0 hp]
  have q0:(p.toList == [48])=false:=a0L hp;rw[E.out];clear hp E;go_enter Tryz.func74,Tryz.ntmps74;go_wp2_with fail
  go_loop [7] (fun ii=>∃ k:Nat,ii=.int .i64 k/\k<=n/\Hid (∀ j x,j<k->L[j]?=some x->ltB x.1 key=true)) (fun ii=>n-(intOf ii).toNat)
  case atStart=>exact⟨0,rfl,S4 _,fun j x hj=>absurd hj (by omega)⟩
  case round=>
   obtain⟨k,rfl,hk,hI⟩:=hrel;have c1:(0:Int)<=(k:Int):=by omega
   by_cases hlt:k<n
   .obtain⟨x,hx⟩:∃ x,L[k]?=some x:=⟨_,J0 (by rw[HN.out];exact hlt)⟩;obtain⟨g,o,rfl,hg,hc,-⟩:=H3.out k x hx;have HX:=hid hx;rw[E9 2 k]at hc;have c2:(k:Int)<(n:Int):=by omega
    have wi:IntKind.i64.wrap ((k:Int)+1)=((k+1:Nat):Int):=by rw[Q0 _ ⟨by omega,by omega⟩];omega
    obtain⟨lb,hlb⟩:=gn (Op.bytesLess x.1.toList key.toList);have HLB:=hid (show ltB x.1 key=lb from hlb);clear hx;have SRC1:Hid (∀ W,Below w.heap.size w W->∀ j u,(a0O (L.take k))[j]?=some u->∃ ad,some (⟨g,o,none⟩:Addr)=some ad/\W.cell? (ad.add j)=some u):=fun W hW j u hu=>by
     refine⟨_,rfl,?_⟩;rw[Addr.add_lit];refine e0h (fun i y hy=>?_) j u hu;rw[Bh]at hy
     split at hy
     .obtain⟨g',o',e,k0,k1,k2⟩:=H3.out i y hy;simp only[Ad,Hc]at e;obtain⟨rfl,rfl,-⟩:=e;exact⟨(hW.cell (p:=⟨g,_,none⟩) hg).trans k1,(hW.cell (p:=⟨g,_,none⟩) hg).trans k2⟩
     .cases hy
    have SRC2:Hid (∀ W,Below w.heap.size w W->∀ j u,(a0O (L.drop k))[j]?=some u->∃ ad,some (⟨g,o+k*2,none⟩:Addr)=some ad/\W.cell? (ad.add j)=some u):=fun W hW j u hu=>by
     refine⟨_,rfl,?_⟩;rw[Addr.add_lit];refine e0h (fun i y hy=>?_) j u hu;rw[Bf]at hy;obtain⟨g',o',e,k0,k1,k2⟩:=H3.out _ y hy;simp only[Ad,Hc]at e;obtain⟨rfl,rfl,-⟩:=e;rw[show o+2*(k+i)=o+k*2+2*i by omega]at k1 k2;exact⟨(hW.cell (p:=⟨g,_,none⟩) hg).trans k1,(hW.cell (p:=⟨g,_,none⟩) hg).trans k2⟩
    have SL1:Hid ((a0O (L.take k)).length=k*2):=by show _=_;rw[a0Y,K5 (by rw[HN.out];omega)]
    have SL2:Hid ((a0O (L.drop k)).length=(n-k)*2):=by show _=_;rw[a0Y,Ah,HN.out]
    have MZ2:Hid (((w.alloc (.cells #[] 42)).alloc (.cells #[.string key,.string p] 42)).drew.heap[w.heap.size+1]?=some (.cells #[.string key,.string p] 42 (0,0))):=by
     have:=He (w.alloc (.cells #[] 42)) (.cells #[.string key,.string p] 42);rw[show (w.alloc (.cells #[] 42)).heap.size=w.heap.size+1 from by simp]at this;exact this
    have MZ3:Hid (((w.alloc (.cells #[.string key,.string p] 42)).alloc (.cells #[] 42)).drew.heap[w.heap.size]?=some (.cells #[.string key,.string p] 42 (0,0))):=(heap_alloc_old (w.alloc (.cells #[.string key,.string p] 42)) (.cells #[] 42) _ (by simp)).trans (He w (.cells #[.string key,.string p] 42));have d1:(k:Int)<=(c:Int):=by omega
    have d2:(k:Int)<=(n:Int):=by omega
    have d4:¬ c=k:=by omega
    cases lb
    .have TK:=hid (m0w (L:=L) (f:=fun x=>ltB x.1 key) (k:=k) hI.out (fun y hy=>by have:=HX.out;rw[hy]at this;cases this;exact HLB.out));go_wp2_with fail
     go_region_held3 (fun _=>True) (first | trivial)
      (first
       | (refine a0F _ rfl _ _ _ rfl w.heap.size 42 i0 _ 2 32 Av hi hz0 hz1 hz2 rfl (by decide) (.slice (some ⟨_,0,none⟩) 0 0) 0 [] rfl (by first | exact (a0w rfl nr0).drew | exact ((a0w rfl nr0).alloc _).drew | exact (a0w (by simp) (by simp)).drew) (by intro e;cases e) (some ⟨g,o,none⟩) k c (a0O (L.take k)) rfl SL1.out (SRC1.out _ (by first | exact (br0.alloc nr0 _).drew | exact ((br0.alloc nr0 _).alloc (by simp) _).drew)) (c0L _) (by unfold maxLen;omega) (by omega) (by simp<;>omega) ?_;intro v1 w1 hown1 hg1 hne1;have B1:Hid (Below w.heap.size w w1):=b0A (w0:=w) (w3:=w1) (by first | exact (a0w rfl nr0).drew | exact ((a0w rfl nr0).alloc _).drew | exact (a0w (by simp) (by simp)).drew) (by first | exact (br0.alloc nr0 _).drew | exact ((br0.alloc nr0 _).alloc (by simp) _).drew) hg1;have O1:=hid (show w1.ownsRow w.heap.size 42 2 v1 k (a0O (L.take k)) from by rw[J8]at hown1;exact hown1);have NE1:=hid hne1;have HG1:=hid hg1;clear hown1 hg1 hne1)
       | (refine a0F _ rfl _ _ _ rfl w.heap.size 42 i0 _ 2 32 Av hi hz0 hz1 hz2 rfl (by decide) v1 k _ rfl (by first | exact O1.out | exact O1.out.alloc _) NE1.out (some ⟨_,0,none⟩) 1 1 [.string key,.string p] rfl rfl (l0z (by first | exact He _ _ | exact (HG1.out.block (w.heap.size+1) (by simp<;>omega) (by simp[Value.ownBlock])).trans MZ2.out | exact (HG1.out.block w.heap.size (by simp<;>omega) (by simp[Value.ownBlock])).trans MZ3.out)) (by simp[Value.oneCell']) (by unfold maxLen;omega) (by omega) (by first | exact B1.out.size | exact (B1.out.alloc B1.out.size _).size) ?_;intro v2 w2 hown2 hg2 hne2;have B2:Hid (Below w.heap.size w w2):=b0A (w0:=w) (w3:=w2) (by first | exact O1.out | exact O1.out.alloc _) (by first | exact B1.out | exact B1.out.alloc B1.out.size _) hg2;have O2:=hid hown2;have NE2:=hid hne2;clear hown2 hg2 hne2)
       | (refine a0F _ rfl _ _ _ rfl w.heap.size 42 i0 _ 2 32 Av hi hz0 hz1 hz2 rfl (by decide) v2 (k+1) _ rfl O2.out NE2.out (some ⟨g,o+k*2,none⟩) (n-k) (c-k) (a0O (L.drop k)) rfl SL2.out (SRC2.out _ B2.out) (c0L _) (by unfold maxLen;omega) (by omega) (by exact B2.out.size) ?_;intro v3 w3 hown3 hg3 hne3;have O3:=hid hown3;have B3:Hid (Below w.heap.size w w3):=b0A (w0:=w) (w3:=w3) O2.out B2.out hg3;clear hown3 hg3 hne3))
     all_goals
      have OF:=O3.out;rw[<- c0g,<- b0l]at OF;go_wp2_with fail
      all_goals
       go_ret
       refine⟨⟨_,rfl,?_⟩,B3.out⟩;rw[TK.out.1,TK.out.2];have:=MRow.of_owns OF;rwa[As]at this
    .go_wp2_with fail;go_round
     case rel=>
      refine⟨k+1,by go_num,by omega,fun j y hj hy=>?_⟩;rcases Cc j k with h | h
      .exact hI.out j y h hy
      .obtain rfl:j=k:=by omega
       have:=HX.out;rw[hy]at this;cases this;exact HLB.out
     case measure=>simp[intOf]<;>omega
   .obtain rfl:k=n:=by omega
    have SRC1:Hid (∀ W,Below w.heap.size w W->∀ j u,(a0O (L.take k))[j]?=some u->∃ ad,a=some ad/\W.cell? (ad.add j)=some u):=fun W hW j u hu=>by
     obtain⟨x0,hx0⟩:∃ x0,L[0]?=some x0:=by
      cases hL:L with
      | nil=>rw[hL]at hu;simp[a0O]at hu
      | cons x r=>exact⟨x,rfl⟩
     obtain⟨g,o,rfl,hg,-,-⟩:=H3.out 0 x0 hx0;refine⟨_,rfl,?_⟩;rw[Addr.add_lit];refine e0h (fun i y hy=>?_) j u hu;rw[Bh]at hy
     split at hy
     .obtain⟨g',o',e,k0,k1,k2⟩:=H3.out i y hy;simp only[Ad,Hc]at e;obtain⟨rfl,rfl,-⟩:=e;exact⟨(hW.cell (p:=⟨g,_,none⟩) hg).trans k1,(hW.cell (p:=⟨g,_,none⟩) hg).trans k2⟩
     .cases hy
    have DN:Hid (L.drop k = []):=Ga (by rw[HN.out];exact J4 _);have SRC2:Hid (∀ (ao:Option Addr) W,Below w.heap.size w W->∀ j u,(a0O (L.drop k))[j]?=some u->∃ ad,ao=some ad/\W.cell? (ad.add j)=some u):=fun ao W hW j u hu=>by
     rw[DN.out]at hu;simp[a0O]at hu
    have SL1:Hid ((a0O (L.take k)).length=k*2):=by show _=_;rw[a0Y,K5 (by rw[HN.out];exact J4 _)]
    have SL2:Hid ((a0O (L.drop k)).length=0*2):=by show _=_;rw[DN.out];rfl
    have MZ2:Hid (((w.alloc (.cells #[] 42)).alloc (.cells #[.string key,.string p] 42)).drew.heap[w.heap.size+1]?=some (.cells #[.string key,.string p] 42 (0,0))):=by
     have:=He (w.alloc (.cells #[] 42)) (.cells #[.string key,.string p] 42);rw[show (w.alloc (.cells #[] 42)).heap.size=w.heap.size+1 from by simp]at this;exact this
    have MZ3:Hid (((w.alloc (.cells #[.string key,.string p] 42)).alloc (.cells #[] 42)).drew.heap[w.heap.size]?=some (.cells #[.string key,.string p] 42 (0,0))):=(heap_alloc_old (w.alloc (.cells #[.string key,.string p] 42)) (.cells #[] 42) _ (by simp)).trans (He w (.cells #[.string key,.string p] 42));have d1:(k:Int)<=(c:Int):=by omega
    have d2:(k:Int)<=(k:Int):=by omega
    have TK:=hid (m0w (L:=L) (f:=fun x=>ltB x.1 key) (k:=k) hI.out (fun y hy=>by rw[I7 (by rw[HN.out];exact J4 _)]at hy;cases hy));cases a
    .go_wp2_with fail
     go_region_held3 (fun _=>True) (first | trivial)
      (first
       | (refine a0F _ rfl _ _ _ rfl w.heap.size 42 i0 _ 2 32 Av hi hz0 hz1 hz2 rfl (by decide) (.slice (some ⟨_,0,none⟩) 0 0) 0 [] rfl (by first | exact (a0w rfl nr0).drew | exact ((a0w rfl nr0).alloc _).drew | exact (a0w (by simp) (by simp)).drew) (by intro e;cases e) _ k c (a0O (L.take k)) rfl SL1.out (SRC1.out _ (by first | exact (br0.alloc nr0 _).drew | exact ((br0.alloc nr0 _).alloc (by simp) _).drew)) (c0L _) (by unfold maxLen;omega) (by omega) (by simp<;>omega) ?_;intro v1 w1 hown1 hg1 hne1;have B1:Hid (Below w.heap.size w w1):=b0A (w0:=w) (w3:=w1) (by first | exact (a0w rfl nr0).drew | exact ((a0w rfl nr0).alloc _).drew | exact (a0w (by simp) (by simp)).drew) (by first | exact (br0.alloc nr0 _).drew | exact ((br0.alloc nr0 _).alloc (by simp) _).drew) hg1;have O1:=hid (show w1.ownsRow w.heap.size 42 2 v1 k (a0O (L.take k)) from by rw[J8]at hown1;exact hown1);have NE1:=hid hne1;have HG1:=hid hg1;clear hown1 hg1 hne1)
       | (refine a0F _ rfl _ _ _ rfl w.heap.size 42 i0 _ 2 32 Av hi hz0 hz1 hz2 rfl (by decide) v1 k _ rfl (by first | exact O1.out | exact O1.out.alloc _) NE1.out (some ⟨_,0,none⟩) 1 1 [.string key,.string p] rfl rfl (l0z (by first | exact He _ _ | exact (HG1.out.block (w.heap.size+1) (by simp<;>omega) (by simp[Value.ownBlock])).trans MZ2.out | exact (HG1.out.block w.heap.size (by simp<;>omega) (by simp[Value.ownBlock])).trans MZ3.out)) (by simp[Value.oneCell']) (by unfold maxLen;omega) (by omega) (by first | exact B1.out.size | exact (B1.out.alloc B1.out.size _).size) ?_;intro v2 w2 hown2 hg2 hne2;have B2:Hid (Below w.heap.size w w2):=b0A (w0:=w) (w3:=w2) (by first | exact O1.out | exact O1.out.alloc _) (by first | exact B1.out | exact B1.out.alloc B1.out.size _) hg2;have O2:=hid hown2;have NE2:=hid hne2;clear hown2 hg2 hne2)
       | (refine a0F _ rfl _ _ _ rfl w.heap.size 42 i0 _ 2 32 Av hi hz0 hz1 hz2 rfl (by decide) v2 (k+1) _ rfl O2.out NE2.out _ 0 _ (a0O (L.drop k)) rfl SL2.out (SRC2.out _ _ B2.out) (c0L _) (by unfold maxLen;omega) (by omega) (by exact B2.out.size) ?_;intro v3 w3 hown3 hg3 hne3;have O3:=hid hown3;have B3:Hid (Below w.heap.size w w3):=b0A (w0:=w) (w3:=w3) O2.out B2.out hg3;clear hown3 hg3 hne3))
     all_goals
      have OF:=O3.out;rw[<- c0g,<- b0l]at OF;go_wp2_with fail
      all_goals
       go_ret
       refine⟨⟨_,rfl,?_⟩,B3.out⟩;rw[TK.out.1,TK.out.2];have:=MRow.of_owns OF;rwa[As]at this
    .go_wp2_with fail
     go_region_held3 (fun _=>True) (first | trivial)
      (first
       | (refine a0F _ rfl _ _ _ rfl w.heap.size 42 i0 _ 2 32 Av hi hz0 hz1 hz2 rfl (by decide) (.slice (some ⟨_,0,none⟩) 0 0) 0 [] rfl (by first | exact (a0w rfl nr0).drew | exact ((a0w rfl nr0).alloc _).drew | exact (a0w (by simp) (by simp)).drew) (by intro e;cases e) _ k c (a0O (L.take k)) rfl SL1.out (SRC1.out _ (by first | exact (br0.alloc nr0 _).drew | exact ((br0.alloc nr0 _).alloc (by simp) _).drew)) (c0L _) (by unfold maxLen;omega) (by omega) (by simp<;>omega) ?_;intro v1 w1 hown1 hg1 hne1;have B1:Hid (Below w.heap.size w w1):=b0A (w0:=w) (w3:=w1) (by first | exact (a0w rfl nr0).drew | exact ((a0w rfl nr0).alloc _).drew | exact (a0w (by simp) (by simp)).drew) (by first | exact (br0.alloc nr0 _).drew | exact ((br0.alloc nr0 _).alloc (by simp) _).drew) hg1;have O1:=hid (show w1.ownsRow w.heap.size 42 2 v1 k (a0O (L.take k)) from by rw[J8]at hown1;exact hown1);have NE1:=hid hne1;have HG1:=hid hg1;clear hown1 hg1 hne1)
       | (refine a0F _ rfl _ _ _ rfl w.heap.size 42 i0 _ 2 32 Av hi hz0 hz1 hz2 rfl (by decide) v1 k _ rfl (by first | exact O1.out | exact O1.out.alloc _) NE1.out (some ⟨_,0,none⟩) 1 1 [.string key,.string p] rfl rfl (l0z (by first | exact He _ _ | exact (HG1.out.block (w.heap.size+1) (by simp<;>omega) (by simp[Value.ownBlock])).trans MZ2.out | exact (HG1.out.block w.heap.size (by simp<;>omega) (by simp[Value.ownBlock])).trans MZ3.out)) (by simp[Value.oneCell']) (by unfold maxLen;omega) (by omega) (by first | exact B1.out.size | exact (B1.out.alloc B1.out.size _).size) ?_;intro v2 w2 hown2 hg2 hne2;have B2:Hid (Below w.heap.size w w2):=b0A (w0:=w) (w3:=w2) (by first | exact O1.out | exact O1.out.alloc _) (by first | exact B1.out | exact B1.out.alloc B1.out.size _) hg2;have O2:=hid hown2;have NE2:=hid hne2;clear hown2 hg2 hne2)
       | (refine a0F _ rfl _ _ _ rfl w.heap.size 42 i0 _ 2 32 Av hi hz0 hz1 hz2 rfl (by decide) v2 (k+1) _ rfl O2.out NE2.out _ 0 _ (a0O (L.drop k)) rfl SL2.out (SRC2.out _ _ B2.out) (c0L _) (by unfold maxLen;omega) (by omega) (by exact B2.out.size) ?_;intro v3 w3 hown3 hg3 hne3;have O3:=hid hown3;have B3:Hid (Below w.heap.size w w3):=b0A (w0:=w) (w3:=w3) O2.out B2.out hg3;clear hown3 hg3 hne3))
     all_goals
      have OF:=O3.out;rw[<- c0g,<- b0l]at OF;go_wp2_with fail
      all_goals
       go_ret
       refine⟨⟨_,rfl,?_⟩,B3.out⟩;rw[TK.out.1,TK.out.2];have:=MRow.of_owns OF;rwa[As]at this
def q0R {x z:ByteArray}:ltB x z=true ↔ ¬ z.data.toList<=x.data.toList:=by
 unfold ltB;rw[bytesLess_eq,Cl,Cl,K6];exact List.not_le.symm
def My:=@List.pairwise_cons
def e0T {key:ByteArray}:∀ {L:List (ByteArray×ByteArray)},L.Pairwise (fun p q=>leB (b0B p) (b0B q)=true)->∀ x∈L.dropWhile (fun x=>ltB x.1 key),leB key.data.toList (b0B x)=true:=by
 intro L
 induction L with
 | nil=>intro _ x hx;simp at hx
 | cons a r ih=>
  intro h x hx;obtain⟨h1,h2⟩:=My.1 h;by_cases ha:ltB a.1 key=true
  .rw[List.dropWhile_cons,J2 ha]at hx;exact ih h2 x hx
  .rw[List.dropWhile_cons,U0 ha]at hx;have hle:leB key.data.toList (b0B a)=true:=by
    have:=mt q0R.2 ha;unfold leB;rw[K6];exact Hu.1 this
   rcases Ci.1 hx with rfl | hx
   .exact hle
   .exact g0Q _ _ _ hle (h1 x hx)
def z0L {α : Type}{f : α->Bool}{x : α}:∀ {L:List α},x∈L.takeWhile f->f x=true:=by
 intro L
 induction L with
 | nil=>intro h;simp at h
 | cons a r ih=>
  intro h;by_cases ha:f a=true
  .rw[List.takeWhile_cons,J2 ha]at h;rcases Ci.1 h with rfl | h
   .exact ha
   .exact ih h
  .rw[List.takeWhile_cons,U0 ha]at h;simp at h
def z0w {L:List (ByteArray×ByteArray)}:L.Pairwise (fun x y=>x.1≠y.1)->∀ x∈L,∀ y∈L,x.1=y.1->x=y:=by
 induction L with
 | nil=>intro _ x hx;simp at hx
 | cons a r ih=>
  intro h x hx y hy e;obtain⟨h1,h2⟩:=My.1 h;rcases Ci.1 hx with e1 | hx'<;>rcases Ci.1 hy with e2 | hy'
  .rw[e1,e2]
  .rw[e1]at e;exact absurd e (h1 y hy')
  .rw[e2]at e;exact absurd e.symm (h1 x hx')
  .exact ih h2 x hx' y hy' e
def i0i {key:ByteArray}{L:List (ByteArray×ByteArray)}:∀ x∈L.takeWhile (fun x=>ltB x.1 key),leB (b0B x) key.data.toList=true:=fun x hx=>by
 have h:=z0L hx;have:=q0R.1 h;unfold leB;rw[K6];rcases List.le_total (b0B x) key.data.toList with h' | h'
 .exact h'
 .exact absurd h' this
def Lf:=@List.pairwise_append
def h0h {L:List (ByteArray×ByteArray)}{key p:ByteArray}(hp:p≠⟨#[48]⟩)(hk:∀ x∈L,x.1≠key)(hn:L.Pairwise (fun x y=>x.1≠y.1)):j0p (a0y L) key p=a0y (L ++ [(key,p)]):=by
 rw[j0p,U0 hp];have hs:=c0x L;have hperm:((a0y L).takeWhile (fun x=>ltB x.1 key)++(key,p)::(a0y L).dropWhile (fun x=>ltB x.1 key)).Perm (a0y (L ++ [(key,p)])):=by
  refine List.Perm.trans List.perm_middle ?_;rw[List.takeWhile_append_dropWhile];refine List.Perm.trans ?_ (Hb _ _).symm;exact (List.Perm.cons _ (Hb _ _)).trans (List.perm_append_singleton _ _).symm
 have hinj:∀ x∈L ++ [(key,p)],∀ y∈L ++ [(key,p)],x.1=y.1->x=y:=by
  have hpw:(L ++ [(key,p)]).Pairwise (fun x y=>x.1≠y.1):=by
   rw[Lf];exact⟨hn,by simp,fun a ha b hb=>by simp at hb;subst hb;exact hk a ha⟩
  exact z0w hpw
 refine List.Perm.eq_of_pairwise (le:=fun p q=>leB (b0B p) (b0B q)=true) ?_ ?_ (c0x _) hperm
 .intro a b ha hb h1 h2;have ha':a∈L ++ [(key,p)]:=b0D.1 (hperm.mem_iff.1 ha);have hb':b∈L ++ [(key,p)]:=b0D.1 hb;refine hinj a ha' b hb' ?_;simp only[leB,K6]at h1 h2;exact b0c (Nv h1 h2)
 .rw[Lf];refine⟨hs.sublist (List.takeWhile_sublist _),?_,fun a ha b hb=>?_⟩
  .rw[My];exact⟨fun x hx=>e0T hs x hx,hs.sublist (List.dropWhile_sublist _)⟩
  .have h1:=i0i a ha;rcases Ci.1 hb with rfl | hb
   .exact h1
   .exact g0Q _ _ _ h1 (e0T hs b hb)
def p0N {a b:Nat}(hb:b≠0)(h1:nDigits a<=4000)(h2:nDigits b<=4000)(ha:a≠0):shB a b≠⟨#[48]⟩:=fun e=>by
 rw[<- f0T b,h0C hb h1 h2,h0C hb (by rw[c0A];omega) h2]at e;have e':=congrArg vQ e;rw[f0r,f0r]at e';have h3:=(Rat.mkRat_eq_iff hb hb).1 e';have hp:0<a*b:=Dr (by omega) (by omega);omega
def p0u {x:Nat}(h:x<=2 ^ 256):nDigits x<=4000:=O0 (a0l (k:=78) (by omega) (Df h (by decide))) (by omega)
end
section
open Go.RowKit
open Go.Lib (decDigits nDigits)
def p0U {D:Nat}(hD:0<D)(l:List UInt8):s1 0 D l 0 0=some (0,0):=by
 have ht:b0P 0 D 0 1 l=(true,0,0):=by
  rw[b0P.eq_def];simp[sdB,sdV]
 rw[g0x hD,ht]
 rfl
def g0o {D:Nat}(hD:0<D)(two:Bool)(l:List UInt8):h0y 0 D two l=some 0:=by
 unfold h0y;rw[p0U hD];simp only;rw[p0U hD];cases two<;>rfl
def r0r {D:Nat}(hD:0<D)(two:Bool)(n:Nat):gL 0 D two n=0:=by
 unfold gL;rw[a0E (Q:=fun _=>false) (fun l _=>by rw[g0o hD];rfl)];exact c0n n
def i0U {D:Nat}(hD:0<D)(two:Bool)(n:Nat)(v:Int):gV 0 D two n v=if v=0 then 2 ^ n else 0:=by
 unfold gV;by_cases h:v=0
 .rw[J2 h,a0E (Q:=fun _=>true) (fun l _=>by rw[g0o hD,h];rfl)];exact j0e n
 .rw[U0 h,a0E (Q:=fun _=>false) (fun l _=>by rw[g0o hD];simp;exact fun e=>h e.symm)];exact c0n n
def i0o {a:ByteArray}(h:gPE a=0):qE a=0/\iM (cW a)=false:=by
 unfold gPE at h
 split at h
 .rename_i he;exact absurd h he
 .rename_i he
  split at h
  .cases h
  .rename_i hm
   refine⟨by simpa using he,?_⟩;cases hi:iM (cW a)
   .rfl
   .exact absurd (.inl hi) hm
def g0C {a:ByteArray}(h:gPE a=0)(h0:a≠⟨#[48]⟩):0<bN (cW a):=by
 obtain⟨h1,h2⟩:=i0o h;obtain⟨v1,v2,-,-,-,v6⟩:=s0N h1;rw[b0O h2]at v1 v6;rcases M7 (bN (cW a)) with e | e
 .refine absurd ?_ h0;rw[e,Nat.gcd_zero_left]at v1;rw[v6,e,v1,h2];apply b0c
  rw[b0T,b0Y]
  rfl
 .exact e
def h0F {a:ByteArray}(h:a=⟨#[48]⟩):bN (cW a)=0/\bN (qD a)=1:=by
 subst h;have e:(⟨#[48]⟩:ByteArray)=txB false 0 1:=by
  apply b0c
  rw[b0T,b0Y]
  rfl
 have h1:=y0k false 0 1;have h2:=y0l false 0 1;rw[<- e]at h1 h2
 constructor
 .unfold bN;rw[h1];show dv (decDigits 0)=0
  rw[h0e]
 .unfold qD;rw[h2]
  rfl
def j0U {a:ByteArray}(h:gPE a=0){j:Nat}(hj:j<=256):nDigits (bN (cW a)*2 ^ j)<=4000:=by
 have h1:=h;unfold gPE at h1
 split at h1
 .rename_i he;exact absurd h1 he
 .rename_i he
  split at h1
  .cases h1
  .rename_i hm
   split at h1
   .cases h1
   .rename_i hl
    have hp:=f0Z (by simpa using he) (fun e=>hm (.inl e)) hl;have a1:nDigits (bN (cW a))<=eN:=a0l (by unfold eN;omega) hp.2.2.1;have a2:nDigits (2 ^ j)<=78:=a0l (by omega) (Df (H6 (by omega) hj) (by decide));exact O0 (z0D a1 a2 (by omega)) (by unfold eN;omega)
def glI (c:Int->Nat)(t n i:Nat):List (ByteArray×ByteArray):=(List.range i).filterMap fun (j:Nat)=>if c ((j:Int)-n)=0 then none else some (zB ((j:Int)-n),shB (c ((j:Int)-n)) t)
def x0r (c:Int->Nat)(t n:Nat):glI c t n (2*n+1)=glM c t n:=rfl
def l0I {c:Int->Nat}{t n i:Nat}{p:ByteArray×ByteArray}(h:p∈glI c t n i):∃ j:Nat,j<i/\p.1=zB ((j:Int)-n):=by
 unfold glI at h;rw[List.mem_filterMap]at h;obtain⟨j,hj,h⟩:=h;rw[Ev]at hj
 split at h
 .cases h
 .simp only[Ad]at h;exact⟨j,hj,by rw[<- h]⟩
def Js:=@List.range_succ
def i0R (c:Int->Nat)(t n i:Nat):glI c t n (i+1)=glI c t n i++if c ((i:Int)-n)=0 then [] else [(zB ((i:Int)-n),shB (c ((i:Int)-n)) t)]:=by
 unfold glI;rw[Js,List.filterMap_append]
 congr 1
 by_cases h:c ((i:Int)-n)=0
 .simp[h]
 .simp[h]
theorem r0n (c:Int->Nat)(t n:Nat):∀ i,(glI c t n i).Pairwise (fun x y=>x.1≠y.1)
 | 0=>List.Pairwise.nil
 | i+1=>by
  rw[i0R,Lf];refine⟨r0n c t n i,by split<;>simp,fun x hx y hy e=>?_⟩;obtain⟨j,hj,e1⟩:=l0I hx
  split at hy
  .cases hy
  .simp only[Fb]at hy;rw[hy,e1]at e;have:=j0y e;omega
def r0o (c:Int->Nat)(t n i:Nat):(glI c t n i).length<=i:=by
 unfold glI;refine O0 (List.length_filterMap_le _ _) ?_;simp
def x0s {c:Int->Nat}{t n i:Nat}(ht:t≠0)(h1:nDigits (c ((i:Int)-n))<=4000)(h2:nDigits t<=4000):j0p (a0y (glI c t n i)) (zB ((i:Int)-n)) (shB (c ((i:Int)-n)) t)=a0y (glI c t n (i+1)):=by
 by_cases h0:c ((i:Int)-n)=0
 .rw[i0R,J2 h0,h0,f0T,j0p,J2 rfl,Dn]
 .rw[i0R,U0 h0];refine h0h (p0N ht h1 h2 h0) ?_ (r0n c t n i);intro x hx e;obtain⟨j,hj,e1⟩:=l0I hx;rw[e1]at e;have:=j0y e;omega
def u0l {c:Int->Nat}{t n r:Nat}(ht:t≠0)(h1:nDigits r<=4000)(h2:nDigits t<=4000):j0p (a0y (glI c t n (2*n+1))) b0o (shB r t)=a0y (glP c t n r):=by
 unfold glP;rw[<- x0r];by_cases h0:r=0
 .rw[J2 h0,h0,f0T,j0p,J2 rfl,Dn]
 .rw[U0 h0];refine h0h (p0N ht h1 h2 h0) ?_ (r0n c t n _);intro x hx e;obtain⟨j,hj,e1⟩:=l0I hx;rw[e1]at e;exact g0m _ (by rw[e])
def lfI (c:Int->Nat)(t n i:Nat):Nat:=t-a0k (fun j=>c ((j:Int)-n)) i
def u0a (c:Int->Nat)(t n:Nat):lfI c t n 0=t:=by simp[lfI,a0k]
def u0b (c:Int->Nat)(t n i:Nat):lfI c t n i-c ((i:Int)-n)=lfI c t n (i+1):=by unfold lfI;rw[a0k];omega
section
variable {N D : Nat} (h : N < D)
include h
theorem z0N {two:Bool}{n i:Nat}(hi:i<=2*n):gV N D two n ((i:Int)-n)<=lfI (gV N D two n) (2 ^ n) n i:=by
 have h1:=g0X h two n;have h2:=a0K (f:=fun j=>gV N D two n ((j:Int)-n)) (show i+1<=2*n+1 by omega);rw[a0k]at h2;unfold lfI;omega
theorem x0e (two:Bool)(n:Nat):lfI (gV N D two n) (2 ^ n) n (2*n+1)=gL N D two n:=by
 have h1:=g0X h two n;unfold lfI;omega
def o3 (N D n i j:Nat):Nat:=if n<=j/\j<n+i then gV N D false n ((j:Int)-n) else 0
omit h in
theorem w0S (N D n j:Nat):o3 N D n 0 j=0:=by unfold o3;rw[U0 (by omega)]
theorem w0T (n i j:Nat):o3 N D n (i+1) j=if j=n+i then cvo (edn N D i) pw2 n else o3 N D n i j:=by
 by_cases e:j=n+i
 .rw[J2 e];unfold o3;rw[J2 (by omega),<- e0q h,e];rw[show (((n+i:Nat):Int)-n)=(i:Int) by omega,r0q,J2 (by omega),Be]
 .rw[U0 e];unfold o3;by_cases h1:n<=j/\j<n+i
  .rw[J2 h1,J2 (by omega)]
  .rw[U0 h1,U0 (by omega)]
theorem z0A {n j:Nat}(hj:j<=2*n):o3 N D n (n+1) j=gV N D false n ((j:Int)-n):=by
 unfold o3;by_cases h1:n<=j/\j<n+(n+1)
 .rw[J2 h1]
 .rw[U0 h1];unfold gV;rw[a0E (Q:=fun _=>false) (fun l _=>?_),c0n];rw[D9];unfold h0y;cases s1 N D l 0 0 with
  | none=>simp
  | some xp=>simp;omega
theorem a1h (two:Bool){n:Nat}(hn:n<=256):nDigits (gL N D two n)<=4000:=p0u (O0 (a1g h two n) (H6 (by omega) hn))
theorem a1e (two:Bool){n:Nat}(v:Int)(hn:n<=256):nDigits (gV N D two n v)<=4000:=p0u (O0 (k0x h two n v) (H6 (by omega) hn))
end
def u0k {D:Nat}(hD:0<D)(two:Bool)(n:Nat):a0y (glP (gV 0 D two n) (2 ^ n) n (gL 0 D two n)) = [(⟨#[48]⟩,⟨#[49]⟩)]:=by
 have h1:shB (2 ^ n) (2 ^ n)=⟨#[49]⟩:=by
  have e1:shB (2 ^ n) (2 ^ n)=shB 1 1:=by
   have:=It (n:=1) (d:=1) (m0p n);rw[Gr,Int.one_mul]at this;unfold shB;rw[f0c,f0c,this]
   rfl
  rw[e1,h0C (by omega) (by rw[b0n];omega) (by rw[b0n];omega)];have e2:mkRat ((1:Nat):Int) 1=1:=by decide
  rw[e2];apply b0c
  rw[txQ,b0T,show (1:Rat).num.natAbs=1 from rfl,show (1:Rat).den=1 from rfl,show decide ((1:Rat).num<0)=false from by decide,f0m]
  rfl
 have z0:zB 0=⟨#[48]⟩:=by rw[show (0:Int)=((0:Nat):Int) from rfl,j0x,a0p]
 have h2:a0y (glP (gV 0 D two n) (2 ^ n) n (gL 0 D two n))=a0y [(⟨#[48]⟩,⟨#[49]⟩)]:=by
  refine e0Z (r0l _ _ _ _) (by simp) fun p=>?_
  rw[d0t,Fb]
  constructor
  .rintro (⟨v,-,-,hv,rfl⟩ | ⟨hr,-⟩)
   .by_cases h0:v=0
    .rw[i0U hD,J2 h0,h0,z0,h1]
    .exact absurd (by rw[i0U hD,U0 h0]) hv
   .exact absurd (r0r hD two n) hr
  .rintro rfl;refine .inl ⟨0,by omega,by omega,?_,?_⟩
   .rw[i0U hD,J2 rfl];exact m0p n
   .rw[i0U hD,J2 rfl,z0,h1]
 rw[h2];unfold a0y;simp
def t0D (n:Nat)(s:ByteArray):ByteArray:=z0z (fun q=>q⁻¹ ^ n) s
def t0C (n:Nat)(s:ByteArray):Int:=z0y (fun q=>q⁻¹ ^ n) s
def n0b (a:ByteArray):Int:=if gPE a≠0 then gPE a else if a=⟨#[48]⟩ then 6 else 0
def j0r (a:ByteArray)(n many:Int):Int:=if gPE a≠0 then gPE a else if n<0\/256<n\/many<1\/256<many then 2 else 0
def b1i (a:ByteArray)(n many:Int):ByteArray:=d0j (· * ·) (glB a n false) (a0f many.toNat)
def a1m (a:ByteArray)(n many:Int):ByteArray:=if j0r a n many≠0 then ⟨#[]⟩ else mnB (b1i a n many) ⟨#[49]⟩
def a1l (a:ByteArray)(n many:Int):Int:=if j0r a n many≠0 then j0r a n many else cmE (b1i a n many) ⟨#[49]⟩
def ffX (a:ByteArray)(reach:Int):Int:=if n0b a≠0 then n0b a else if reach<0\/10000<reach then 2 else 0
def ffM (reach:Int)(one:Bool):Nat:=if one=true then reach.toNat else 2*reach.toNat
def ffB (a:ByteArray)(reach:Int)(one:Bool):ByteArray:=if ffX a reach≠0 then ⟨#[]⟩ else t0D (ffM reach one) a
def ffE (a:ByteArray)(reach:Int)(one:Bool):Int:=if ffX a reach≠0 then ffX a reach else t0C (ffM reach one) a
def n0e (a:ByteArray)(n:Int)(two:Bool):(glB a n two).size<=10000:=by
 unfold glB
 split
 .exact d0o _
 .exact S4 _
def r0t (f:Rat->Rat->Rat)(s t:ByteArray):(d0j f s t).size<=10000:=by
 unfold d0j
 split
 .exact d0o _
 .exact S4 _
def l0H {a:ByteArray}(h:n0b a=0):gPE a=0/\a≠⟨#[48]⟩:=by
 unfold n0b at h
 split at h
 .rename_i h1;exact absurd h h1
 .rename_i h1
  refine⟨Af h1,fun e=>?_⟩;rw[J2 e]at h;cases h
def r0a {a:ByteArray}(h:n0b a=0):qE a=0/\0<(vQ a).num:=by
 obtain⟨h1,h2⟩:=l0H h;obtain⟨hq,hm⟩:=i0o h1;obtain⟨e1,e2,e3⟩:=i0e hq;refine⟨hq,?_⟩;have hp:=g0C h1 h2;have e4:iD (cW a)=cW a:=b0O hm;rw[e4]at e2;have h3:¬ (vQ a).num<0:=by
  have:=e1;rw[hm]at this;simpa using this
 omega
def b1F {a:ByteArray}(h:n0b a=0):vQ a≠0:=fun e=>by
 have:=(r0a h).2;rw[e]at this;exact absurd this (by decide)
structure PkOk (c:List Int)(a:ByteArray)(b:List ByteArray):Prop where
 pos:1<=c.length
 le:c.length<=256
 rng:∀ x∈c,-1125899906842624<=x/\x<=1125899906842624
 a:gPE a=0
 len:b.length=c.length
 b:∀ s∈b,c0u s=0
def k0f {c:List Int}{a:ByteArray}(h:qnE c a=0):1<=c.length/\c.length<=256/\(∀ x∈c,-1125899906842624<=x/\x<=1125899906842624)/\gPE a=0:=by
 unfold qnE at h
 split at h
 .rename_i h1;exact absurd h h1
 .rename_i h1
  have h1:ctE c=0:=Af h1;unfold ctE at h1
  split at h1
  .cases h1
  .rename_i h2
   unfold zE at h1
   split at h1
   .cases h1
   .rename_i h3
    split at h1
    .cases h1
    .rename_i h4
     refine⟨by omega,by omega,fun x hx=>?_,h⟩;have:e0s x=false:=by
      cases hw:e0s x
      .rfl
      .exact absurd (Cm.2 ⟨x,hx,hw⟩) h4
     unfold e0s at this;simp only[Ic,D9]at this;omega
def y0L {b:List ByteArray}{m:Int}(h:wdE b m=0):(b.length:Int)=m/\∀ s∈b,c0u s=0:=by
 unfold wdE at h
 split at h
 .rename_i h1;exact⟨h1,n0G.1 h⟩
 .cases h
def v0k {c:List Int}{a:ByteArray}{b:List ByteArray}(h:pkE c a b=0):PkOk c a b:=by
 unfold pkE at h
 split at h
 .rename_i h1;exact absurd h h1
 .rename_i h1
  have h1:qnE c a=0:=Af h1;obtain⟨q1,q2,q3,q4⟩:=k0f h1;obtain⟨w1,w2⟩:=y0L h;exact⟨q1,q2,q3,q4,by omega,w2⟩
open Go.Shelf
def q0J {c:List Int}{a:ByteArray}{b:List ByteArray}{xs:List (Int×Int)}(hl:c.length=b.length)(h1:NzOk c a b xs)(h2:v0m c a b xs):
 (xs.length=c.length/\nzO false a c b=some (xs.map Prod.snd))\/(xs.length<c.length/\nzO false a c b=none):=by
 rcases h2 with h2 | ⟨n,s,h3,h4,h5⟩
 .refine .inl ⟨h2,l0x hl (by rw[Dl];exact h2) fun k x y hx hy=>?_⟩;have hk:k<xs.length:=by have:=(O4.1 hx).1;omega
  obtain⟨n,s,g1,g2,g3,g4⟩:=h1 k xs[k] (J0 hk);rw[hx]at g1;rw[hy]at g2;cases g1;cases g2;rw[g4,Ea,J0 hk];rfl
 .exact .inr ⟨(O4.1 h3).1,i0E _ n s h3 h4 h5⟩
def r0B (w:World)(v u:Value)(c:List Int)(a:ByteArray)(b:List ByteArray)(hv:Row w v (zs c))(hu:Row w u (d0k b))(ha:a.size<=100000)(hb:∀ x∈b,x.size<=100000000)(hL:Lay w):
 Calls Tryz.prog 20 #[v,.string a,u] w fun e w'=>e=.returned (.tuple #[.int .i64 (pkA c a b).1,.bool (pkA c a b).2,.int .i64 (pkE c a b)])/\Below w.heap.size w w':=by
 have HQ:=hid (e0m w v c a hv ha hL);have HW:=fun V h=>hid (u0w V u b (c.length:Nat) h hb)
 have HV:=hid hv;have HU:=hid hu;have HL:=hid hL;obtain⟨s,cp,rfl,q1,q2,q3⟩:=hv.openZ;obtain⟨t,cq,rfl,p1,p2,p3⟩:=hu.openS;have eor:orZ [qnE c a,wdE b (c.length:Nat)]=pkE c a b:=by
  simp only[orZ,pkE];by_cases h:qnE c a=0
  .by_cases h2:wdE b (c.length:Nat)=0
   .simp[h,h2]
   .simp[h,h2]
  .simp[h]
 obtain⟨qe,hqe⟩:=gn (qnE c a);obtain⟨we,hwe⟩:=gn (wdE b (c.length:Nat));obtain⟨n,hn⟩:=gn (c.length);obtain⟨n2,hn2⟩:=gn (b.length);rw[hqe]at HQ eor;rw[hwe]at HW eor;have CO:=fun V v h=>hid (b1p V v [qe,we] h)
 rw[eor]at CO;rw[hn]at HQ HW HV q1 |-;simp only[hn2]at HW;rw[hn2]at HU p1 |-;by_cases h0:pkE c a b=0
 case neg=>
  have e2:pkA c a b=(0,false):=by unfold pkA;rw[U0 h0]
  rw[e2];obtain⟨z,hz⟩:=gn (pkE c a b);rw[hz]at CO h0 |-;have t0:(z==0)=false:=by rw[U4];exact h0
  clear hv hu q3 p3 e2 hz hn hn2 h0 hqe hwe eor;go_enter Tryz.func20,Tryz.ntmps20;go_wp2_with fail;refine HQ.out.mono ?_;rintro e w1 ⟨rfl,hb1⟩;have y1:=hid hb1;clear hb1;go_wp2_with fail;refine (HW _ (HU.out.call y1.out)).out.mono ?_;rintro e w2 ⟨rfl,hb2⟩;have y2:=hid (a0a y1.out hb2);clear hb2;go_wp2_with fail;refine (CO _ _ (l0h _ _ _ _)).out.mono ?_;rintro e w3 ⟨rfl,rfl⟩;go_wp2_with fail
  go_ret3
  exact⟨rfl,y2.out.alloc y2.out.size _⟩
 have OK:=v0k h0;have e2:pkA c a b=(match nzO false a c b with | none=>(0,false) | some l=>((amx l:Nat),true)):=by unfold pkA;rw[J2 h0];rfl
 obtain⟨R,hR⟩:=gn (pkA c a b);rw[hR]at e2 |-;rw[h0]at CO |-;have hlen:=OK.len;have HOK:=hid OK;have HR:=hid e2;have HN:=hid hn;have HN2:=hid hn2;have HA:=hid ha;rw[hn,hn2]at hlen;subst hlen;clear hv hu q3 p3 hn hn2 h0 e2 hR OK ha hb hqe hwe eor hL;go_enter Tryz.func20,Tryz.ntmps20;go_wp2_with fail;refine HQ.out.mono ?_;rintro e w1 ⟨rfl,hb1⟩;have y1:=hid hb1;clear hb1;go_wp2_with fail;refine (HW _ (HU.out.call y1.out)).out.mono ?_;rintro e w2 ⟨rfl,hb2⟩;have y2:=hid (a0a y1.out hb2);clear hb2;go_wp2_with fail;refine (CO _ _ (l0h _ _ _ _)).out.mono ?_;rintro e w3 ⟨rfl,rfl⟩;have y3:=hid (y2.out.alloc y2.out.size (.cells #[.int .i64 qe,.int .i64 we] 27));go_wp2_with fail;obtain⟨w3,hw3⟩:=gn (w2.alloc (.cells #[.int .i64 qe,.int .i64 we] 27));rw[hw3]at y3
 try rw[hw3]
 refine (u0y _ _ _ _ _ _ _ _).mono ?_;rintro e w4 ⟨rfl,rfl⟩;have y4:=hid ((((y3.out.alloc y3.out.size (.cells #[.slice s n2 cp] 22)).alloc (y3.out.alloc y3.out.size _).size (.cells #[.string a] 23)).alloc ((y3.out.alloc y3.out.size _).alloc (y3.out.alloc y3.out.size _).size _).size (.cells #[.slice t n2 cq] 24)));have X1:=hid (((Blk.new w3 #[.slice s n2 cp] 22).alloc (.cells #[.string a] 23)).alloc (.cells #[.slice t n2 cq] 24));have X2:=hid ((Blk.made (w3.alloc (.cells #[.slice s n2 cp] 22)) #[.string a] 23 (n:=w3.heap.size+1) (by simp)).alloc (.cells #[.slice t n2 cq] 24));have X3:=hid (Blk.made ((w3.alloc (.cells #[.slice s n2 cp] 22)).alloc (.cells #[.string a] 23)) #[.slice t n2 cq] 24 (n:=w3.heap.size+1+1) (by simp));obtain⟨W,hW⟩:=gn (((w3.alloc (.cells #[.slice s n2 cp] 22)).alloc (.cells #[.string a] 23)).alloc (.cells #[.slice t n2 cq] 24));rw[hW]at y4 X1 X2 X3 |-;have hread:∀ W1 W2,Below W.heap.size W W1->KpC W.heap.size W1 W2->W2.cell? ⟨w3.heap.size,0,none⟩=some (.slice s n2 cp)/\W2.cell? ⟨w3.heap.size+1,0,none⟩=some (.string a)/\W2.cell? ⟨w3.heap.size+1+1,0,none⟩=some (.slice t n2 cq)/\Row W2 (.slice s n2 cp) (zs c)/\Row W2 (.slice t n2 cq) (d0k b)/\Lay W2:=fun W1 W2 b1 b2=>by
  have b3:Below W.heap.size W W2:=b1.trans (b2.rest b1.size);have b4:Below w.heap.size w W2:=y4.out.trans (b3.mono y4.out.size);exact⟨(X1.out.call b3).cell 0,(X2.out.call b3).cell 0,(X3.out.call b3).cell 0,HV.out.call b4,HU.out.call b4,HL.out.call b4⟩
 have HF:=l0y (Kp:=KpC W.heap.size) 8 (by omega) W w3.heap.size (w3.heap.size+1) (w3.heap.size+1+1) (.slice s n2 cp) (.slice t n2 cq) c a b HA.out (fun x hx=>j0i (HOK.out.b x hx)) (by rw[HN.out,HN2.out]) HOK.out.le HOK.out.rng (KpC.refl _) KpC.trans hread (fun _ _=>KpC.of_below)
 have PF:=hid (x0J W 179 _ (m0U c a b) _ (fun pre x h=>by
  obtain⟨n,b',h1,h2,h3,h4⟩:=h;have:=(O4.1 h1).1;have:=HOK.out.le;exact⟨h3,by omega⟩) HF (Ch Tryz.func179 (by kernel_rfl) rfl))
 clear hread HF hW X1 X2 X3;go_wp2_with fail;refine PF.out.mono ?_;rintro e w5 ⟨⟨xs,⟨h1,h2⟩,rfl⟩,hb5⟩;have y5:=hid (y4.out.trans (hb5.mono y4.out.size));have hend:=q0J (by rw[HN.out,HN2.out]) h1 h2;rw[HN.out]at hend;obtain⟨m,hm⟩:=gn (xs.length);obtain⟨k,hk⟩:=gn ((amS (xs.map Prod.snd)).2.1);rw[hm]at hend |-;rw[hk];clear hb5 h1 h2 hm PF;rcases hend with ⟨h1,h2⟩ | ⟨h1,h2⟩
 .have HM:=hid h1;have HE:Hid (R=((k:Int),true)):=by
   show R=_
   rw[HR.out,h2,<- hk];rfl
  clear h1 h2 hk;go_wp2_with fail
  .rename_i hx
   exact absurd hx (by have:=HM.out;omega)
  .go_ret3
   exact⟨by rw[HE.out];rfl,y5.out⟩
 .have HM:=hid h1;have HE:Hid (R=(0,false)):=by
   show R=_
   rw[HR.out,h2]
  clear h1 h2 hk;go_wp2_with fail
  .go_ret3
   exact⟨by rw[HE.out];rfl,y5.out⟩
  all_goals
   rename_i hx
   exact absurd HM.out hx
end
section
open Go.RowKit
open Go.Lib (decDigits nDigits)
def fkN (g:Int->Nat)(n:Nat)(ci v:Int)(i:Nat)(c:List Int):Nat->Nat
 | 0=>g v
 | k+1=>if k=i then fkN g n ci v i c k else fkN g n ci v i c k*cmC g n (if k<i then ci+v-c.getD k 0 else ci+v-c.getD k 0+1)
theorem v0A (g:Int->Nat)(n:Nat)(ci v:Int)(i:Nat)(c:List Int):∀ m k,k+m=c.length->fkF g n ci v i k (c.drop k) (fkN g n ci v i c k)=fkN g n ci v i c c.length
 | 0,k,h=>by
  obtain rfl:k=c.length:=by omega
  rw[List.drop_length];rfl
 | m+1,k,h=>by
  have hk:k<c.length:=by omega
  have hd:c.getD k 0=c[k]:=by rw[J3,J0 hk];rfl
  rw[H9 hk,fkF,<- hd];have:=v0A g n ci v i c m (k+1) (by omega);rw[fkN]at this;exact this
def x0G (g:Int->Nat)(n:Nat)(ci v:Int)(i:Nat)(c:List Int):fkF g n ci v i 0 c (g v)=fkN g n ci v i c c.length:=v0A g n ci v i c c.length 0 (by omega)
def bI (i k:Nat):Nat:=if k<=i then k+1 else k
def m0l (i:Nat):bI i (i+1)=bI i i:=by unfold bI;rw[U0 (by omega),J2 nr0]
def j0n {i k:Nat}(h:k≠i):bI i (k+1)=bI i k+1:=by unfold bI;split<;>split<;>omega
def v0N {i L:Nat}(h:i<L):bI i L=L:=U0 (by omega)
def a1U {i k L:Nat}(h:i<L)(hk:k<=L):bI i k<=L:=by unfold bI;split<;>omega
section
variable {g : Int -> Nat} {n : Nat} (hg : ∀ v : Int, v < 0 -> g v = 0) (hz : zS n g <= 2 ^ n)
include hg hz
theorem b1H {v:Int}(h:v<=n):g v<=2 ^ n:=by
 by_cases h0:v<0
 .rw[hg v h0];exact S4 _
 .refine O0 ?_ hz;rw[j0w hg];have:=p0F (f:=fun j=>g (j:Int)) (i:=v.toNat) (n:=n+1) (by omega);rwa[show ((v.toNat:Nat):Int)=v by omega]at this
theorem n0l {ci v:Int}{i:Nat}{c:List Int}(hv:v<=n):∀ k,fkN g n ci v i c k<=2 ^ (n*bI i k)
 | 0=>by
  show g v<=2 ^ (n*1)
  rw[De];exact b1H hg hz hv
 | k+1=>by
  rw[fkN];by_cases h:k=i
  .subst h;rw[J2 rfl,m0l];exact n0l hv k
  .rw[U0 h,j0n h,K9,De,Cr];exact Bk (n0l hv k) (n0y hz hg _)
theorem u0r {ci v:Int}{i k:Nat}{c:List Int}(hv:v<=n)(hi:i<c.length)(hk:k<c.length)(hne:k≠i)(hm:n*c.length<=1000):
 d0j (· * ·) (dyB (fkN g n ci v i c k) (n*bI i k)) (dyB (cmC g n (if k<i then ci+v-c.getD k 0 else ci+v-c.getD k 0+1)) n)=dyB (fkN g n ci v i c (k+1)) (n*bI i (k+1)):=by
 have hb:=a1U hi (show k+1<=c.length by omega);rw[j0n hne]at hb;have h2:n*bI i k+n<=1000:=by
  have:=Aa n hb;rw[K9,De]at this;omega
 rw[a1A (n0l hg hz hv k) (n0y hz hg _) h2,fkN,U0 hne,j0n hne,K9,De]
def fkS (g:Int->Nat)(n:Nat)(c:List Int)(i m:Nat):Nat:=a0k (fun v=>fkN g n (c.getD i 0) (v:Int) i c c.length) m
omit hg hz in
theorem l0N (c:List Int)(i:Nat):fkS g n c i (n+1)=fkT g n c i:=a0d fun v _=>(x0G g n _ _ i c).symm
theorem i0V {c:List Int}{i:Nat}(hi:i<c.length):a0k (fkT g n c) i+fkT g n c i<=2 ^ (n*c.length):=a1p hg hz (c:=c) (M:=i+1) (by omega)
theorem x0B {c:List Int}{i v:Nat}(hi:i<c.length)(hv:v<=n)(hm:n*c.length<=1000):
 d0j (· + ·) (dyB (fkS g n c i v) (n*c.length)) (dyB (fkN g n (c.getD i 0) (v:Int) i c c.length) (n*bI i c.length))=dyB (fkS g n c i (v+1)) (n*c.length):=by
 rw[v0N hi,v0D _ hm]
 .rfl
 .have h1:fkS g n c i (v+1)<=fkS g n c i (n+1):=a0K (by omega);rw[l0N]at h1;have h2:=i0V hg hz hi;have h3:fkS g n c i (v+1)=fkS g n c i v+fkN g n (c.getD i 0) (v:Int) i c c.length:=rfl;omega
def fkR (g:Int->Nat)(n:Nat)(c:List Int)(i:Nat):Nat:=2 ^ (n*c.length)-a0k (fkT g n c) i
theorem x0C {c:List Int}{i:Nat}(hi:i<c.length)(hm:n*c.length<=1000):d0j (· - ·) (dyB (fkR g n c i) (n*c.length)) (dyB (fkT g n c i) (n*c.length))=dyB (fkR g n c (i+1)) (n*c.length):=by
 have h2:=i0V hg hz hi;unfold fkR;rw[a1y (Ls _ _) (by omega) hm,a0k]
 congr 1;omega
def cmS (g:Int->Nat)(j:Nat):Nat:=a0k (fun x=>g (x:Int)) j
theorem v0G {j:Nat}(hj:j<=n+1):cmS g j<=2 ^ n:=by
 refine O0 (a0K hj) ?_;rw[<- j0w hg];exact hz
theorem y0f {j:Nat}(hj:j<=n)(hm:n<=1000):d0j (· + ·) (dyB (cmS g j) n) (dyB (g (j:Int)) n)=dyB (cmS g (j+1)) n:=by
 have:=v0G hg hz (show j+1<=n+1 by omega);rw[v0D (show cmS g j+g (j:Int)<=2 ^ n from this) hm];rfl
omit hg hz in
theorem a1I (j:Int):cmC g n j=cmS g (max 0 (min j ((n:Int)+1))).toNat:=rfl
end
def c0r (g:Int->Nat)(n:Nat)(c:List Int)(i:Nat):List (ByteArray×ByteArray):=(List.range i).map fun k=>(a0f k,dyB (fkT g n c k) (n*c.length))
def fkW (g:Int->Nat)(n:Nat)(c:List Int):List (ByteArray×ByteArray):=c0r g n c c.length ++ [(b0o,dyB (fkR g n c c.length) (n*c.length))]
def h0q (p:ByteArray×ByteArray):Bool:=decide (p.2≠⟨#[48]⟩)
def fkP (g:Int->Nat)(n:Nat)(c:List Int):List (ByteArray×ByteArray):=(fkW g n c).filter h0q
def f0k (g:Int->Nat)(n:Nat)(c:List Int)(i:Nat):c0r g n c (i+1)=c0r g n c i ++ [(a0f i,dyB (fkT g n c i) (n*c.length))]:=by
 unfold c0r;rw[Js,Bj];rfl
def f0y (g:Int->Nat)(n:Nat)(c:List Int)(i:Nat):(c0r g n c i).length=i:=by simp[c0r]
def h0S {x m:Nat}(hx:x<=2 ^ m)(h:m<=1000):dyB x m=⟨#[48]⟩↔x=0:=
 ⟨fun e=>Af fun h0=>p0N (d0W m) (h0v hx h) (h0v nr0 h) h0 e,fun e=>e ▸ j0b m⟩
def n0k (g:Int->Nat)(n:Nat)(c:List Int):((fkW g n c).map b0B).Nodup:=by
 unfold fkW c0r;rw[Bj,List.map_map,List.map_singleton,Gv];refine⟨?_,by simp,?_⟩
 .rw[List.Nodup,List.pairwise_map];refine List.nodup_range.imp fun {a b} hab e=>hab ?_
  simp only[Function.comp,b0B,a0q]at e;exact d0e e
 .intro a ha b hb;simp only[Fr,Fb,Function.comp]at ha hb;obtain⟨k,_,rfl⟩:=ha;subst hb;have:=g0m (k:Int);rw[j0x]at this;exact this
def a1r (g:Int->Nat)(n:Nat)(c:List Int):((fkP g n c).map b0B).Nodup:=(List.filter_sublist.map b0B).nodup (n0k g n c)
noncomputable def z0B (g:Int->Nat)(n:Nat)(ks:List ByteArray)(v:Nat):ByteArray:=@ite _ (a0f v∈ks) (Classical.propDecidable _) (dyB (g v) n) ⟨#[48]⟩
noncomputable def nzT (g:Int->Nat)(n:Nat)(ks:List ByteArray):List ByteArray:=(List.range (n+1)).map (z0B g n ks)
@[simp] theorem nzT_length (g:Int->Nat) (n:Nat) (ks:List ByteArray):(nzT g n ks).length=n+1:=by simp[nzT]
def w0W (g:Int->Nat)(n:Nat):nzT g n []=List.replicate (n+1) ⟨#[48]⟩:=by
 apply No
 .simp
 .intro i h1 h2;simp only[nzT,Lc,List.getElem_range,List.getElem_replicate];unfold z0B;rw[U0 (by simp)]
def w0V (g:Int->Nat){n v:Nat}(hv:v<=n)(ks:List ByteArray):nzT g n (ks ++ [a0f v])=(nzT g n ks).set v (dyB (g v) n):=by
 apply No
 .simp
 .intro i h1 h2;rw[List.getElem_set];simp only[nzT,Lc,List.getElem_range];unfold z0B;by_cases e:v=i
  .subst e;rw[J2 rfl,J2 (by simp)]
  .rw[U0 e];have:(a0f i∈ks ++ [a0f v])↔a0f i∈ks:=by
    rw[Fu,Fb]
    constructor
    .rintro (h | h)
     .exact h
     .exact absurd (m0V h).symm e
    .exact .inl
   by_cases h:a0f i∈ks
   .rw[J2 h,J2 (this.2 h)]
   .rw[U0 h,U0 (fun k=>h (this.1 k))]
def k0n (i:Nat):a0f i≠b0o:=fun h=>k0o i (congrArg (fun b=>b.data.toList) h)
def t0K (g:Int->Nat)(n:Nat)(ks:List ByteArray):nzT g n (ks ++ [b0o])=nzT g n ks:=by
 unfold nzT;refine List.map_congr_left fun i _=>?_
 unfold z0B;have:(a0f i∈ks ++ [b0o])↔a0f i∈ks:=by
  rw[Fu,Fb]
  constructor
  .rintro (h | h)
   .exact h
   .exact absurd h (k0n i)
  .exact .inl
 by_cases h:a0f i∈ks
 .rw[J2 h,J2 (this.2 h)]
 .rw[U0 h,U0 (fun k=>h (this.1 k))]
def prT (g:Int->Nat)(n:Nat):List ByteArray:=(List.range (n+1)).map fun (v:Nat)=>dyB (g v) n
@[simp] theorem prT_length (g:Int->Nat) (n:Nat):(prT g n).length=n+1:=by simp[prT]
def q0q {g:Int->Nat}{n i:Nat}(h:i<=n):(prT g n)[i]?=some (dyB (g (i:Int)) n):=by
 unfold prT;rw[Ea,Es (by omega)];rfl
def w0U {g:Int->Nat}{n r:Nat}(hg:∀ v:Int,v<0->g v=0){p:ByteArray×ByteArray}(h:p∈a0y (glP g (2 ^ n) n r)):(∃ v:Nat,v<=n/\p=(a0f v,dyB (g v) n))\/p.1=b0o:=by
 rw[b0D,d0t]at h;rcases h with ⟨v,h1,h2,h3,rfl⟩ | ⟨_,rfl⟩
 .have h0:¬ v<0:=fun h0=>h3 (hg v h0)
  refine .inl ⟨v.toNat,by omega,?_⟩;have e:((v.toNat:Nat):Int)=v:=by omega
  rw[<- j0x,e];rfl
 .exact .inr rfl
def w0X {g:Int->Nat}{n r:Nat}(hg:∀ v:Int,v<0->g v=0):nzT g n ((a0y (glP g (2 ^ n) n r)).map Prod.fst)=prT g n:=by
 unfold nzT prT;refine List.map_congr_left fun i hi=>?_
 rw[Ev]at hi;unfold z0B;by_cases h0:g (i:Int)=0
 .rw[h0,j0b]
  split<;>rfl
 .rw[J2];rw[Fr];refine⟨(zB (i:Int),shB (g (i:Int)) (2 ^ n)),b0D.2 (d0t.2 (.inl ⟨i,by omega,by omega,h0,rfl⟩)),?_⟩;exact j0x i
def ksL (L:List (ByteArray×ByteArray))(j:Nat):List ByteArray:=(L.take j).map Prod.fst
def n0a (L:List (ByteArray×ByteArray)):ksL L 0 = []:=rfl
def x0j (L:List (ByteArray×ByteArray)):ksL L L.length=L.map Prod.fst:=by unfold ksL;rw[Gb]
theorem u0f {L:List (ByteArray×ByteArray)}{j:Nat}{p:ByteArray×ByteArray}(h:L[j]?=some p):ksL L (j+1)=ksL L j ++ [p.1]:=by
 unfold ksL;rw[Et,h];simp
def cmL (g:Int->Nat)(n i:Nat):List ByteArray:=(List.range (i+1)).map fun j=>dyB (cmS g j) n
@[simp] theorem cmL_length (g:Int->Nat) (n i:Nat):(cmL g n i).length=i+1:=by simp[cmL]
def u0L (g:Int->Nat)(n:Nat):cmL g n 0 = [⟨#[48]⟩]:=by
 show [dyB (cmS g 0) n]=_
 rw[show cmS g 0=0 from rfl,j0b]
def u0M (g:Int->Nat)(n i:Nat):cmL g n (i+1)=cmL g n i ++ [dyB (cmS g (i+1)) n]:=by
 unfold cmL;rw[Js,Bj];rfl
def m0b {g:Int->Nat}{n i j:Nat}(h:j<=i):(cmL g n i)[j]?=some (dyB (cmS g j) n):=by
 unfold cmL;rw[Ea,Es (by omega)];rfl
def n0u {x m:Nat}(hx:x<=2 ^ m)(h:m<=1000):(dyB x m).size<=10000:=by unfold dyB shB;exact d0o _
end
end Go.Proofs.YtfkpfpobmobnbaaGreatDoor
namespace Go.Proofs
open Go.Shelf
def Tryz.sortMW_ren:Go.Shelf.Ren:=⟨fun | 14=>167 | 20=>231 | 21=>232 | 22=>233 | 23=>234 | 24=>235 | 25=>236 | 26=>237 | 27=>238 | 46=>299 | 47=>300 | 48=>301 | 49=>302 | 50=>303 | 15=>168 | 57=>335 | 28=>239 | 29=>240 | n=>n,fun | 24=>42 | 22=>36 | 3=>3 | 25=>77 | 4=>4 | 0=>0 | 46=>217 | 45=>216 | 50=>221 | 66=>288 | 39=>174 | 55=>161 | 70=>292 | 76=>321 | 77=>95 | 53=>224 | 5=>5 | 9=>9 | n=>n,fun | n=>n⟩
theorem Tryz.sortMW:Go.Proofs.SlLaysF0.n14 Tryz.prog Tryz.sortMW_ren:={
 mixed:=by kernel_rfl
 f14:=⟨Tryz.f167.name,by decide,Tryz.func167.trans (congrArg some (by kernel_rfl))⟩
 f15:=Tryz.func168.trans (congrArg some (by kernel_rfl))
 f20:=⟨Tryz.f231.name,by decide,Tryz.func231.trans (congrArg some (by kernel_rfl))⟩
 f21:=⟨Tryz.f232.name,by decide,Tryz.func232.trans (congrArg some (by kernel_rfl))⟩
 f22:=⟨Tryz.f233.name,by decide,Tryz.func233.trans (congrArg some (by kernel_rfl))⟩
 f23:=⟨Tryz.f234.name,by decide,Tryz.func234.trans (congrArg some (by kernel_rfl))⟩
 f24:=⟨Tryz.f235.name,by decide,Tryz.func235.trans (congrArg some (by kernel_rfl))⟩
 f25:=⟨Tryz.f236.name,by decide,Tryz.func236.trans (congrArg some (by kernel_rfl))⟩
 f26:=⟨Tryz.f237.name,by decide,Tryz.func237.trans (congrArg some (by kernel_rfl))⟩
 f27:=⟨Tryz.f238.name,by decide,Tryz.func238.trans (congrArg some (by kernel_rfl))⟩
 f28:=Tryz.func239.trans (congrArg some (by kernel_rfl))
 f29:=Iw.trans (congrArg some (by kernel_rfl))
 f46:=⟨Tryz.f299.name,by decide,Tryz.func299.trans (congrArg some (by kernel_rfl))⟩
 f47:=Tryz.func300.trans (congrArg some (by kernel_rfl))
 f48:=Tryz.func301.trans (congrArg some (by kernel_rfl))
 f49:=⟨Tryz.f302.name,by decide,Tryz.func302.trans (congrArg some (by kernel_rfl))⟩
 f50:=⟨Tryz.f303.name,by decide,Tryz.func303.trans (congrArg some (by kernel_rfl))⟩
 f57:=⟨Tryz.f335.name,by decide,Tryz.func335.trans (congrArg some (by kernel_rfl))⟩
 t0:=Dq
 a0:=Gz
 z0:=Ge
 v0:=Eg
 t3:=Z7
 a3:=Eo
 z3:=Dt
 v3:=Br
 t4:=Aw
 a4:=Fg
 z4:=Ek
 v4:=Ck
 t5:=Bb
 a5:=Fx
 z5:=Ey
 v5:=Cx
 t9:=Al
 a9:=Ep
 z9:=Du
 v9:=Bu
 t22:=Tryz.underlying36
 a22:=Tryz.isAgg36
 z22:=Tryz.sizeOf36
 v22:=Tryz.zeroValue36
 t25:=Tryz.underlying77
 a25:=Tryz.isAgg77
 z25:=Tryz.sizeOf77
 v25:=Tryz.zeroValue77
 t39:=Cu
 a39:=Fl
 z39:=Eu
 v39:=Db
 t45:=Tryz.underlying216
 a45:=Tryz.isAgg216
 z45:=Tryz.sizeOf216
 v45:=Tryz.zeroValue216
 t46:=Tryz.underlying217
 a46:=Tryz.isAgg217
 z46:=Tryz.sizeOf217
 v46:=Tryz.zeroValue217
 t50:=Tryz.underlying221
 a50:=Tryz.isAgg221
 z50:=Tryz.sizeOf221
 v50:=Tryz.zeroValue221
 t53:=Dg
 a53:=Gi
 z53:=Fq
 v53:=Dx
 t55:=Cv
 a55:=Gf
 z55:=Fp
 v55:=Dv
 t66:=Tryz.underlying288
 a66:=Tryz.isAgg288
 z66:=Tryz.sizeOf288
 v66:=Tryz.zeroValue288
 t70:=Tryz.underlying292
 a70:=Tryz.isAgg292
 z70:=Tryz.sizeOf292
 v70:=Tryz.zeroValue292
 t76:=Tryz.underlying321
 a76:=Tryz.isAgg321
 z76:=Tryz.sizeOf321
 v76:=Tryz.zeroValue321
 t77:=Tryz.underlying95
 a77:=Tryz.isAgg95
 z77:=Tryz.sizeOf95
 v77:=Tryz.zeroValue95 }
def Tryz.lenW_ren:Go.Shelf.Ren:=⟨fun | 125=>168 | 128=>239 | 129=>240 | n=>n,fun | 46=>174 | 3=>3 | 51=>224 | 53=>161 | 4=>4 | 5=>5 | 9=>9 | n=>n,fun | n=>n⟩
theorem Tryz.lenW:Go.Proofs.Lays.n125 Tryz.prog Tryz.lenW_ren:={
 mixed:=by kernel_rfl
 f125:=Tryz.func168.trans (congrArg some (by kernel_rfl))
 f128:=Tryz.func239.trans (congrArg some (by kernel_rfl))
 f129:=Iw.trans (congrArg some (by kernel_rfl))
 t3:=Z7
 a3:=Eo
 z3:=Dt
 v3:=Br
 t4:=Aw
 a4:=Fg
 z4:=Ek
 v4:=Ck
 t5:=Bb
 a5:=Fx
 z5:=Ey
 v5:=Cx
 t9:=Al
 a9:=Ep
 z9:=Du
 v9:=Bu
 t46:=Cu
 a46:=Fl
 z46:=Eu
 v46:=Db
 t51:=Dg
 a51:=Gi
 z51:=Fq
 v51:=Dx
 t53:=Cv
 a53:=Gf
 z53:=Fp
 v53:=Dv }
end Go.Proofs
namespace Go.Proofs.YtfkpfpobmobnbaaGreatDoor
section
open Go.RowKit Go.Sort Go.Shelf Go.Lib
def o0Z (p q:ByteArray×ByteArray):Int:=if b0B p<b0B q then -1 else if b0B q<b0B p then 1 else 0
def g0j (p q:ByteArray×ByteArray):o0Z p q<0↔b0B p<b0B q:=by
 unfold o0Z
 split
 .rename_i h;simp[h]
 .rename_i h
  split<;>simp[h]
def r0M (p:ByteArray×ByteArray):List Value:=[.string p.1,.string p.2]
def b1Z:SWO (ltOf o0Z) where
 irrefl x:=by
  simp only[ltOf,D9,g0j];exact List.lt_irrefl _
 trans x y z h1 h2:=by
  simp only[ltOf,K6,g0j]at *;exact List.lt_trans h1 h2
 ntrans x y z h1 h2:=by
  simp only[ltOf,D9,g0j,List.not_lt]at *;exact List.le_trans h2 h1
def Mg:=@Option.map_some
def e0K {L:List (ByteArray×ByteArray)}(i:Nat):(a0O L)[i]? = (L[i / 2]?).map (fun p=>if i%2=0 then Value.string p.1 else Value.string p.2):=by
 cases h:L[i / 2]? with
 | none=>
  rw[Ie]at h;rw[Option.map_none,Ie,a0Y];omega
 | some p=>
  obtain⟨h1,h2⟩:=c0M h;rw[Mg];by_cases hm:i%2=0
  .rw[J2 hm,show i=2*(i / 2) by omega];exact h1
  .rw[U0 hm,show i=2*(i / 2)+1 by omega];exact h2
def Mz:=@getElem!_pos
def h0R (d:Array (ByteArray×ByteArray)):(flatK r0M 2 d).toList=a0O d.toList:=by
 apply At
 intro i;rw[e0K];by_cases hi:i<d.size*2
 .have e1:=get_flatK r0M 2 d i (by omega);rw[Mz _ _ (by simp;omega)]at e1;have hi2:i / 2<d.size:=by omega
  rw[Dz,E8 (by simp;omega),e1,Dz,E8 hi2,Mg,Mz d (i / 2) hi2];by_cases hm:i%2=0
  .rw[J2 hm,hm];rfl
  .rw[U0 hm,show i%2=1 by omega];rfl
 .rw[I7 (by simp;omega),Dz,Hf (by omega)];rfl
def k0w {w:World}{g n:Nat}{os:Array Obj}{cur:Array Value}{e:TypeId}{fr:Nat×Nat}(d:Array Value)(hb:w.heap[g]?=some (.cells cur e fr)):
 (grow (putRow id (Sort.ahead w n) g 0 d) os).heap[g]?=some (.cells (putCells id 0 d cur) e fr):=by
 have hg:g<w.heap.size:=(J6.1 hb).1;rw[Go.Sort.heap_grow_old _ _ (by simpa using hg)];simp[putRow,mapBlock,Sort.ahead,Cd,hb,onCells]
def j0m {w:World}{g n base:Nat}{os:Array Obj}(d:Array Value)(hb:base<=g)(hw:base<=w.heap.size):Below base w (grow (putRow id (Sort.ahead w n) g 0 d) os):=by
 refine⟨rfl,rfl,rfl,by simp,fun k hk=>?_⟩;rw[Go.Sort.heap_grow_old _ _ (by simp;omega)];have:g≠k:=by omega
 simp[putRow,mapBlock,Sort.ahead,Cd,this]
def Gw:=@List.getElem?_take_of_lt
def Hz:=@List.getElem?_take_eq_none
def h0k (cur F:Array Value)(h:F.size<=cur.size):(putCells id 0 F cur).toList.take F.size=F.toList:=by
 apply At
 intro j;by_cases hj:j<F.size
 .rw[Gw hj,Dz];simp[putCells,hj,show j<cur.size by omega]
 .rw[Hz (by omega),I7 (by simp;omega)]
def o0p {d d':Array (ByteArray×ByteArray)}(h:PermIn 0 d.size d d'):d'.size=d.size/\d'.toList.Perm d.toList:=by
 obtain⟨h1,_,h3⟩:=h;refine⟨h1,?_⟩;have e1:d'.extract 0 d.size=d':=by rw[<- h1];simp
 have e2:d.extract 0 d.size=d:=by simp
 rwa[e1,e2]at h3
def j0M {d':Array (ByteArray×ByteArray)}(h:SortedIn (ltOf o0Z) 0 d'.size d'):d'.toList.Pairwise (fun p q=>leB (b0B p) (b0B q)=true):=by
 rw[Ik];intro i j hi hj hij;have:=h i j (S4 _) hij (by simpa using hj);simp only[ltOf,D9,g0j,List.not_lt]at this;rw[Mz _ _ (by simpa using hi),Mz _ _ (by simpa using hj)]at this;simp only[leB,K6];simpa using this
def p0I {L M:List (ByteArray×ByteArray)}(hp:L.Perm M)(hs:L.Pairwise (fun p q=>leB (b0B p) (b0B q)=true))(nd:(M.map b0B).Nodup):L=a0y M:=by
 have nd2:(L.map b0B).Nodup:=((hp.map b0B).nodup_iff).2 nd;rw[<- e0Z nd2 nd (fun p=>hp.mem_iff)];exact (List.mergeSort_of_pairwise hs).symm
def p0T (F:Nat)(g cap base:Nat)(d:Array (ByteArray×ByteArray))(w:World)(cur:Array Value)(hb:base<=g)(hg:w.heap[g]?=some (.cells cur 42 (0,0)))(h1:d.size<=cap)(h2:cap<=maxLen)(h3:cur.size=cap*2)(h4:cur.toList.take (d.size*2)=a0O d.toList)(hs:d.size<=1000)(hnd:(d.toList.map b0B).Nodup)
 (eg:∀ args w,(callFunc F args).run Tryz.prog w=.ok (.enter F args) w) (hF:∀ (x y:ByteArray×ByteArray) (W:World),Calls Tryz.prog F #[.agg #[.string x.1,.string x.2],.agg #[.string y.1,.string y.2]] W fun e w'=>e=.returned (.int .i64 (o0Z x y))/\∃ n os',w'=grow (W.drewN n) os'):
 Calls Tryz.prog 65 #[.slice (some ⟨g,0,none⟩) d.size cap,.func (.func F) #[] #[]] w fun e w'=>e=.returned (.tuple #[])/\w'.ownsRow base 42 2 (.slice (some ⟨g,0,none⟩) d.size cap) d.size (a0O (a0y d.toList))/\Below base w w':=by
 have hblk:g<w.heap.size:=(J6.1 hg).1;have hH:HoldsK r0M 2 w g 0 d:=by
  intro j hj;have hj':j<d.size*2:=by simpa using hj
  refine⟨?_,by simp[World.frozen?,hg]⟩;have e:(cur.toList.take (d.size*2))[j]? = (flatK r0M 2 d).toList[j]? := by rw[h4,h0R]
  rw[Gw hj']at e;simp only[World.cell?,hg,J8];simp only[Option.isSome_none,Bi,Ew];rw[<- Dz,e,Dz,E8 hj,Mz (flatK r0M 2 d) j hj]
  rfl
 have hcmp:CmpLays Tryz.prog F #[] r0M 2 o0Z g 0 d.size w:=fun _ _ _ _ x y=>hF x y _
 have hd:∀ x:ByteArray×ByteArray,(r0M x).length=2:=fun _=>rfl
 have h1c:∀ x:ByteArray×ByteArray,∀ v∈r0M x,v.oneCell'=true:=fun x v hv=>by simp[r0M]at hv;rcases hv with rfl | rfl<;>rfl
 have hlim:Lib.bitLen d.size<4611686018427387904:=Df (Lib.bitLen_le d.size 62 (by omega) (by omega)) (by omega);have hpd:=AnyQ.pdqsortCmpFunc_all Tryz.sortMW 2 Tryz.isAgg42 Tryz.sizeOf42 r0M o0Z F #[] b1Z g 0 cap d w eg hcmp ⟨hd,h1c,hH,hblk⟩ (d.size+1) 0 d.size (Lib.bitLen d.size) d w (by omega) rfl (SWK.start hH) (S4 _) nr0 (by omega) hlim (Or.inl rfl)
 change Calls Tryz.prog 167 _ _ _ at hpd
 have hbl:Calls Tryz.prog 168 #[.int .u64 (d.size:Int)] w fun e w'=>e=.returned (.int .i64 (Lib.bitLen d.size:Nat))/\w'=w:=by
  have h:=Any.bits_Len Tryz.lenW (d.size:Int) w (by omega) (by omega);rwa[Be]at h
 have wr:IntKind.u64.wrap (d.size:Int)=d.size:=by simp[IntKind.wrap,IntKind.bits,IntKind.signed];omega
 have hz:=pdq_sorts (ltOf o0Z) b1Z d 0 d.size (Lib.bitLen d.size) true true (S4 _) nr0 (Or.inl rfl);have P:=o0p hz.1;have hz2:=hz.2;generalize pdq (ltOf o0Z) d 0 d.size (Lib.bitLen d.size) true true=d' at *
 have S:=j0M (P.1 ▸ hz2);have hd':d'.toList=a0y d.toList:=p0I P.2 S hnd;clear hH hcmp hz hz2 hF;have h2h:=hid h2;clear h2;clear h4;clear hnd;go_enter Tryz.func65,Tryz.ntmps65;go_wp2_with fail;refine hbl.mono ?_;rintro e w' ⟨rfl,rfl⟩;go_wp2_with fail;refine hpd.mono ?_;rintro e w' ⟨rfl,n,os,rfl⟩;go_wp2_with fail
 go_end0
 refine⟨rfl,⟨?_,.inr ⟨g,cap,_,rfl,hb,k0w _ hg,h1,h2h.out,by simp[putCells,h3],?_⟩⟩,j0m _ hb (by omega)⟩
 .rw[a0Y,<- hd'];simp[P.1]
 .rw[<- hd',<- h0R];have:=h0k cur (flatK r0M 2 d') (by rw[size_flatK,P.1,h3];omega);rwa[size_flatK,P.1]at this
end
section
open Go.RowKit Go.Sort Go.Shelf Go.Maps
open Go.Lib (decDigits nDigits)
def w0k (w:World)(v:Int)(h1 : -100000<=v)(h2:v<=100000)(hL:Lay w):
 Calls Tryz.prog 64 #[.int .i64 v] w fun e w'=>e=.returned (.string (zB v))/\Below w.heap.size w w':=by
 refine (Tryz.strconv_Itoa v (by omega) (by omega) w hL.tab).mono ?_;rintro e w' ⟨rfl,k,os,rfl⟩;exact⟨rfl,f0o w k os⟩
def l0f (v x:Int):(Lit.int .i64 v).sameKey (.int .i64 x)=decide (v=x):=by
 by_cases h:v=x
 .subst h;rw[WideAt.sameKey_self (show WideAt.IsKeyLit (.int .i64 v) from trivial)];simp
 .rw[Maps.sameKey_ne (fun e=>h (by injection e))];simp[h]
def h0O (x z:ByteArray):Op.bytesLess x.toList z.toList=decide (x.data.toList<z.data.toList):=by
 rw[bytesLess_eq,Cl,Cl]
def p0S (w:World)(x:ByteArray):Calls Tryz.prog 169 #[.string x] w fun e w'=>e=.returned (.bool false)/\w=w':=by
 go_enter Tryz.func169,Tryz.ntmps169;go_wp2_with fail;go_ret
 exact⟨rfl,rfl⟩
theorem j0S (w:World)(x z:ByteArray):Calls Tryz.prog 67 #[.string x,.string z] w fun e w'=>e=.returned (.int .i64 (if x.data.toList<z.data.toList then -1 else if z.data.toList<x.data.toList then 1 else 0))/\w=w':=by
 have h1:=h0O x z;have h2:=h0O z x;have N1:=fun V=>hid (p0S V x)
 have N2:=fun V=>hid (p0S V z)
 by_cases c1:x.data.toList<z.data.toList
 focus
  rw[J2 c1];rw[E7 c1]at h1;clear h2 c1
 rotate_left
 focus
  rw[U0 c1];rw[M6 c1]at h1;by_cases c2:z.data.toList<x.data.toList
  focus
   rw[J2 c2];rw[E7 c2]at h2;have h3:(x.toList==z.toList)=false:=by
    rw[U4];intro e;rw[Cl,Cl]at e;rw[e]at c2;exact List.lt_irrefl _ c2
   clear c1 c2
  rotate_left
  focus
   rw[U0 c2];rw[M6 c2]at h2;have h3:(x.toList==z.toList)=true:=by
    rw[Dk,Cl,Cl];exact Nv (List.not_lt.1 c2) (List.not_lt.1 c1)
   clear c1 c2
 all_goals
  go_enter Tryz.func67,Tryz.ntmps67;go_wp2_with fail;refine (N1 _).out.mono ?_;rintro e w1 ⟨rfl,rfl⟩;go_wp2_with fail;refine (N2 _).out.mono ?_;rintro e w1 ⟨rfl,rfl⟩;go_wp2_with fail;go_ret
  exact⟨rfl,rfl⟩
def x0u (p q:ByteArray×ByteArray)(w:World):Calls Tryz.prog 226 #[.agg #[.string p.1,.string p.2],.agg #[.string q.1,.string q.2]] w fun e w'=>e=.returned (.int .i64 (o0Z p q))/\∃ n os',w'=grow (w.drewN n) os':=by
 obtain⟨p1,p2⟩:=p;obtain⟨q1,q2⟩:=q;dsimp only;have HC:=fun V=>hid (j0S V p1 q1)
 unfold o0Z b0B;dsimp only;obtain⟨r,hr⟩:∃ r:Int,(if p1.data.toList<q1.data.toList then (-1:Int) else if q1.data.toList<p1.data.toList then 1 else 0)=r:=⟨_,rfl⟩;rw[hr]at HC |-;clear hr;go_enter Tryz.func226,Tryz.ntmps226;go_wp2_with fail;refine (HC _).out.mono ?_;rintro e w1 ⟨rfl,rfl⟩;go_wp2_with fail;go_ret
 exact⟨rfl,0,_,by rw[Lj,Lj,grow_grow];rfl⟩
end
section
open Go.RowKit Go.Maps
open Go.Lib (decDigits nDigits)
structure ReadsI {H:Type}(D:DataW H)(c:Int->Nat):Prop where
 map:IsMap D
 has:∀ v:Int,Maps.has D (.int .i64 v)=decide (c v≠0)
 look:∀ v:Int,c v≠0->∀ z,D.atKey (.int .i64 v) z=.lit (.string (a0f (c v)).data.toList)
theorem ReadsI.nil {H:Type}:ReadsI (.map []:DataW H) (fun _=>0):=
 ⟨isMap_empty,fun v=>by simp[Maps.has_eq],fun v h=>absurd rfl h⟩
theorem ReadsI.put {H:Type}{D:DataW H}{c:Int->Nat}(h:ReadsI D c)(v:Int){x:Nat}(hx:0<x):
 ReadsI (D.put (.int .i64 v) (.lit (.string (a0f (c v+x)).data.toList))) (j0t c v x):=by
 refine⟨h.map.put _ _,fun y=>?_,fun y hy z=>?_⟩
 .by_cases e:y=v
  .subst e;rw[has_put_same h.map (show WideAt.IsKeyLit (.int .i64 y) from trivial)];unfold j0t;rw[J2 rfl];simp;omega
  .rw[has_put_other (fun e'=>e (by injection e')),h.has];unfold j0t;rw[U0 e]
 .by_cases e:y=v
  .subst e;rw[atKey_put_same h.map (show WideAt.IsKeyLit (.int .i64 y) from trivial)];unfold j0t;rw[J2 rfl]
  .unfold j0t at hy |-;rw[U0 e]at hy |-;rw[atKey_put_other (fun e'=>e (by injection e'))];exact h.look y hy z
def j0j (x:Nat):ByteArray:=if x=0 then ⟨#[]⟩ else a0f x
def Mh:=@Go.Maps.int_keyed
def Jt:=@Go.Proofs.Tryz.underlying211
def Ft:=@Go.Proofs.Tryz.underlying23
def Kv:=@Go.Maps.keyOf_int_mk
def Mi:=@Go.DataW.lit.injEq
def v0q {H:Type}{w:World}{B nn:Nat}{D:DataW H}{c:Int->Nat}(hown:w.ownsMap Tryz.prog 3 (plainElem Tryz.prog 23) B nn D)(hR:ReadsI D c){v:Int}(hw:(Lit.int .i64 v).wf=true):
 (Instr.lookup 211 (.map (some B)) (.int .i64 v) false).run Tryz.prog w=.ok (.string (j0j (c v))) w:=by
 obtain⟨x,ps,h1,h2⟩:=hown.lookup (Mh Z7) Jt (s0L w) (plainElem_string Ft (s:=⟨#[]⟩) (S4 _)) (Kv Z7 hw);rw[h1];unfold j0j;by_cases h0:c v=0
 .rw[J2 h0];rw[atKey_of_not_has (by rw[hR.has,h0];rfl)]at h2;obtain⟨s,rfl,h3,-⟩:=plainElem_string_inv Ft h2;simp only[Ha,Mi,Lit.string.injEq]at h3;have e:s=(⟨#[]⟩:ByteArray):=b0c (by simpa using h3.1.symm);rw[e]
 .rw[U0 h0];rw[hR.look v h0]at h2;obtain⟨s,rfl,h3,-⟩:=plainElem_string_inv Ft h2;simp only[Ha,Mi,Lit.string.injEq]at h3;rw[b0c h3.1]
end
section
open Go.RowKit Go.Shelf
open Go.Lib (decDigits nDigits)
def k0R (n g:Nat):Value:=.slice (some ⟨g,0,none⟩) (n+1) (n+1)
structure TabR (W:World)(gt n:Nat)(f:Nat->List Nat):Prop where
 len:∀ i,i<=n->(f i).length=n+1
 ex:∃ g c,n+1<=c/\c<=9223372036854775807/\W.cell? ⟨gt,0,none⟩=some (.slice (some ⟨g,0,none⟩) (n+1) c)/\W.cell? ⟨gt,1,none⟩=some (.string ⟨#[48]⟩)/\∀ i,i<=n->∃ gr,W.cell? ⟨g,i,none⟩=some (k0R n gr)/\NRowT W gr (f i)
theorem TabR.call {W W':World}{gt n:Nat}{f:Nat->List Nat}(h:TabR W gt n f)(hb:Below W.heap.size W W'):TabR W' gt n f:=by
 obtain⟨h0,g,c,h1,h2,h3,h4,h5⟩:=h;refine⟨h0,g,c,h1,h2,(hb.cell (a0e h3)).trans h3,(hb.cell (a0e h4)).trans h4,fun i hi=>?_⟩;obtain⟨gr,k1,k2⟩:=h5 i hi;exact⟨gr,(hb.cell (a0e k1)).trans k1,k2.call hb⟩
def y0Y (w:World)(gt n i k:Nat)(f:Nat->List Nat)(h:TabR w gt n f)(hi:i<=n)(hk:k<=n)(hn:n<=100000):
 Calls Tryz.prog 288 #[.pointer (some ⟨gt,0,none⟩),.int .i64 (i:Nat),.int .i64 (k:Nat)] w fun e w'=>e=.returned (.string (a0f ((f i).getD k 0)))/\w=w':=by
 obtain⟨h0,g,c,h1,h2,r0,r1,h5⟩:=h;obtain⟨gr,r2,k2⟩:=h5 i hi;have r3:=k2.cell (i:=k) (by rw[h0 i hi];omega);unfold k0R at r2;obtain⟨X,hX⟩:=gn (a0f ((f i).getD k 0));rw[hX]at r3 |-;have b1:(0:Int)<=(i:Int):=by omega
 have b2:(i:Int)<((n+1:Nat):Int):=by omega
 have b3:(0:Int)<=(k:Int):=by omega
 have b4:(k:Int)<((n+1:Nat):Int):=by omega
 obtain⟨m,hm⟩:=gn (n+1);rw[hm]at r0 r2 b2 b4 h1;have t1:decide ((i:Int)<0)=false:=by simp
 have t2:decide (m<=i)=false:=by simp;omega
 have t3:decide ((k:Int)<0)=false:=by simp
 have t4:decide (m<=k)=false:=by simp;omega
 clear h0 h5 k2 hX hi hk hn hm;go_enter Tryz.func288,Tryz.ntmps288;go_wp2_with fail;go_ret
 exact⟨rfl,rfl⟩
structure TabO (W:World)(H gt:Nat)(rv:Value)(gs:List Nat)(n r:Nat)(f:Nat->List Nat):Prop where
 blk:Blk W gt #[rv,.string ⟨#[48]⟩] 275
 own:W.ownsRow H 106 1 rv gs.length (gs.map (k0R n))
 rows:∀ i g,i<r->gs[i]?=some g->NRowT W g (f i)
 ne:rv.ownBlock≠some gt
 sep:∀ i g,i<r->gs[i]?=some g->rv.ownBlock≠some g
 gne:∀ i g,i<r->gs[i]?=some g->g≠gt
theorem NRowT.lt' {w:World}{g:Nat}{l:List Nat}(h:NRowT w g l):g<w.heap.size:=Blk.lt h
def b0W {W:World}{H:Nat}{e:TypeId}{rv:Value}{n:Nat}{xs:List Value}(h:W.ownsRow H e 1 rv n xs){a:Addr}(h2:rv.ownBlock≠some a.block)(v:Value):(W.setCell a v).ownsRow H e 1 rv n xs:=by
 refine⟨h.1,?_⟩;rcases h.2 with h0 | ⟨g,cap,cur,rfl,k1,k2,k3⟩
 .exact .inl h0
 .refine .inr ⟨g,cap,cur,rfl,k1,?_,k3⟩;have hg:g≠a.block:=fun e=>h2 (by rw[<- e];rfl)
  rw[<- k2];unfold World.setCell;simp[Cd,Ne.symm hg]
theorem TabO.call {W W':World}{H gt:Nat}{rv:Value}{gs:List Nat}{n r:Nat}{f:Nat->List Nat}(h:TabO W H gt rv gs n r f)(hb:Below W.heap.size W W'):TabO W' H gt rv gs n r f:=
 ⟨h.blk.call hb,a0Q h.own hb,fun i g hi hg=>(h.rows i g hi hg).call hb,h.ne,h.sep,h.gne⟩
theorem TabO.other {W:World}{H gt:Nat}{rv:Value}{gs:List Nat}{n r:Nat}{f:Nat->List Nat}(h:TabO W H gt rv gs n r f){a:Addr}(h1:a.block≠gt)(h2:rv.ownBlock≠some a.block)(h3:∀ i g,i<r->gs[i]?=some g->a.block≠g)(v:Value):TabO (W.setCell a v) H gt rv gs n r f:=by
 exact⟨h.blk.other h1 v,b0W h.own h2 v,fun i g hi hg=>(h.rows i g hi hg).other (h3 i g hi hg) v,h.ne,h.sep,h.gne⟩
structure KpR (gt:Nat)(rb:Option Nat)(W W':World):Prop where
 os:W'.os=W.os
 tape:W'.tape=W.tape
 output:W'.output=W.output
 size:W.heap.size<=W'.heap.size
 block:∀ i,i<W.heap.size->i≠gt->some i≠rb->W'.heap[i]?=W.heap[i]?
theorem TabO.drew {W:World}{H gt:Nat}{rv:Value}{gs:List Nat}{n r:Nat}{f:Nat->List Nat}(h:TabO W H gt rv gs n r f):TabO W.drew H gt rv gs n r f:=⟨h.blk,h.own,h.rows,h.ne,h.sep,h.gne⟩
theorem KpR.drew {gt:Nat}{rb:Option Nat}{W W':World}(h:KpR gt rb W W'):KpR gt rb W W'.drew:=⟨h.os,h.tape,h.output,h.size,h.block⟩
def r0e:(Tryz.prog.info? 106).map (fun i=>(i.zero,i.size,i.bytes))=some (some (.slice none 0 0),1,24):=by kernel_rfl
def Fj:=@Go.wpList_append_own_at
def y0X (w:World)(H gt:Nat)(rv:Value)(gs:List Nat)(n r:Nat)(f:Nat->List Nat)(h:TabO w H gt rv gs n r f)(hr:r<=gs.length)(hgs:gs.length<=1000)(hn:n<=1000)(hH:H<=w.heap.size):
 Calls Tryz.prog 327 #[.pointer (some ⟨gt,0,none⟩),.int .i64 ((n+1:Nat):Int)] w fun e w'=>∃ g rv',e=.returned (k0R n g)/\w.heap.size<=g/\NRowT w' g (List.replicate (n+1) 0)/\TabO w' H gt rv' (gs ++ [g]) n r f/\rv'.ownBlock≠some g/\(rv'.ownBlock=rv.ownBlock\/∃ b,rv'.ownBlock=some b/\w.heap.size<=b)/\KpR gt rv.ownBlock w w':=by
 obtain⟨i0,hi,hz0,hz1,hz2⟩:=Dj r0e;have HR:=fun V g h=>hid (e0z V g (n+1) ⟨#[48]⟩ (by omega) (by omega) h)
 have hgt:gt<w.heap.size:=h.blk.lt;have r0:=h.blk.cell 0;have r1:=h.blk.cell 1;simp at r0 r1;have T0:=hid h;have HGT:=hid hgt;have HHS:=hid hH;have HGS:=hid hgs;have HRL:=hid hr;obtain⟨ar,cr,hrv⟩:=b0i h.own;obtain⟨L,hL⟩:=gn (gs.length);obtain⟨m,hm⟩:=gn (n+1);have HM:=hid hm;have KK:Hid (∀ W,Below w.heap.size w W->W.cell? ⟨gt,0,none⟩=some rv/\W.cell? ⟨gt,1,none⟩=some (.string ⟨#[48]⟩)):=fun W hW=>⟨(hW.cell (a0e r0)).trans r0,(hW.cell (a0e r1)).trans r1⟩
 rw[hm]at HR |-;clear h hgt hH hgs hr hL hm hrv hn;go_enter Tryz.func327,Tryz.ntmps327;go_wp2_with fail;refine b0a 14 3 [0,1,2,3,4,5,6,7,8,10] 4 (fun W'=>W'.cell? ⟨gt,0,none⟩=some rv/\W'.cell? ⟨gt,1,none⟩=some (.string ⟨#[48]⟩)) (by kernel_rfl) rfl (by kernel_rfl) (by kernel_rfl) (by kernel_rfl) (by kernel_rfl) (KK.out _ br0.drew) ?_
 iterate 10
  refine⟨_,rfl,?_⟩;apply Exists.intro
  refine⟨.inl ⟨by rfl,?_⟩,?_⟩
  .rintro W' ⟨q1,q2⟩;go_simp;try with_reducible rfl
  go_frame
 refine a0c (i:=9) (by kernel_rfl) (by rfl) (by rfl) ?_;go_wp2_with fail;have A1:=hid (show Below w.heap.size w (w.alloc (.cells #[.string ⟨#[48]⟩] 23)).drew from (br0.alloc nr0 _).drew);have C1:(w.alloc (.cells #[.string ⟨#[48]⟩] 23)).drew.cell? ⟨w.heap.size,0,none⟩=some (.string ⟨#[48]⟩):=(Blk.new w #[.string ⟨#[48]⟩] 23).cell 0;refine⟨KK.out _ A1.out,?_⟩;refine a0c (i:=11) (by kernel_rfl) (by rfl) (by rfl) ?_;go_wp2_with fail;refine (HR _ _ C1).out.mono ?_;rintro e w2 ⟨rfl,hg,hb⟩;obtain⟨g,hgg⟩:=gn ((w.alloc (.cells #[.string ⟨#[48]⟩] 23)).drew.heap.size);have B2:=hid (a0a A1.out hb);rw[hgg]at hg |-;have HG:Hid (w.heap.size<g):=by rw[<- hgg];show _<_;simp
 have R2:=hid (NRowT.zeros hg);have L2:=hid (show g<w2.heap.size from hg.lt);clear hg hb hgg C1;go_wp2_with fail;refine⟨KK.out _ B2.out,?_⟩;refine a0c (i:=12) (by kernel_rfl) (by rfl) (by rfl) ?_;go_wp2_with fail;have A3:=hid (show Below w.heap.size w (w2.alloc (.cells #[.slice (some ⟨g,0,none⟩) m m] 106)) from B2.out.alloc B2.out.size _);refine⟨KK.out _ A3.out,?_⟩;refine a0c (i:=13) (by kernel_rfl) (by rfl) (by rfl) ?_;have O3:=hid (((T0.out.call B2.out).own).alloc (.cells #[.slice (some ⟨g,0,none⟩) m m] 106));refine Fj _ rfl _ _ 273 rfl H 106 i0 (.slice none 0 0) 1 24 Tryz.underlying273 hi hz0 hz1 hz2 rfl (by decide) rv gs.length (gs.map (k0R n)) rfl O3.out ⟨w2.heap.size,0,none⟩ 1 1 [.slice (some ⟨g,0,none⟩) m m] rfl rfl (Dh w2 (.slice (some ⟨g,0,none⟩) m m) 106) (by simp[Value.oneCell']) (by have:=HGS.out;unfold maxLen;omega) (by have:=HGS.out;omega) (by have:=HHS.out;have:=B2.out.size;simp;omega) ?_;intro rv' w3 hown3 hgrow3 _ hat3;have hat4:rv'.ownBlock=rv.ownBlock\/rv'.ownBlock=some (w2.heap.size+1):=by simpa using hat3
 have OW:=hid hown3;have GR:=hid hgrow3;have AT:=hid hat4;clear hown3 hgrow3 hat3 hat4;have c30:w3.cell? ⟨gt,0,none⟩=some rv:=by
  have:=GR.out.cell (KK.out _ A3.out).1 (fun e=>T0.out.ne e.symm);exact this
 have c31:w3.cell? ⟨gt,1,none⟩=some (.string ⟨#[48]⟩):=GR.out.cell (KK.out _ A3.out).2 (fun e=>T0.out.ne e.symm);have X3:Hid (Blk w3 gt #[rv,.string ⟨#[48]⟩] 275):=((T0.out.blk.call B2.out).alloc _).grown GR.out (fun e=>T0.out.ne e);go_wp2_with fail;refine⟨⟨c30,c31⟩,?_⟩;refine H8 (by kernel_rfl) ?_ _;simp only[b0h,c0w,Ab,A9];have f3:=X3.out.free 0;have NE3:Hid (rv'.ownBlock≠some gt):=by
  rcases AT.out with e | e
  .show rv'.ownBlock≠some gt
   rw[e];exact T0.out.ne
  .show rv'.ownBlock≠some gt
   rw[e];intro hh;have:=J9 hh;have:=HGT.out;have:=B2.out.size;omega
 have NEG:Hid (rv'.ownBlock≠some g):=by
  rcases AT.out with e | e
  .show rv'.ownBlock≠some g
   rw[e];intro hh;have:=(T0.out.own.lt g hh).2;have:=HG.out;omega
  .show rv'.ownBlock≠some g
   rw[e];intro hh;have:=J9 hh;have:=L2.out;omega
 have AT2:Hid (rv'.ownBlock=rv.ownBlock\/∃ b,rv'.ownBlock=some b/\w.heap.size<=b):=AT.out.imp id fun e=>⟨_,e,Nat.le_succ_of_le B2.out.size⟩
 have KP:Hid (KpR gt rv.ownBlock w w3):=⟨GR.out.os.trans A3.out.os,GR.out.tape.trans A3.out.tape,GR.out.output.trans A3.out.output,O0 A3.out.size GR.out.size,fun i hi _ h2=>(GR.out.block i (by have:=A3.out.size;omega) h2).trans (A3.out.block i hi)⟩;have N3:Hid (NRowT w3 g (List.replicate m 0)):=Blk.grown (Blk.alloc R2.out _) GR.out (fun e=>by have:=(T0.out.own.lt g e).2;have:=HG.out;omega);have RO:Hid (∀ i g',i<r->gs[i]?=some g'->NRowT w3 g' (f i)):=fun i g' hi2 hg'=>Blk.grown (Blk.alloc ((T0.out.rows i g' hi2 hg').call B2.out) _) GR.out (T0.out.sep i g' hi2 hg')
 have GSR:Hid (∀ i g',i<r->gs[i]?=some g'->g'≠gt):=fun i g' hi2 hg'=>T0.out.gne i g' hi2 hg'
 obtain⟨gr,cap,rfl⟩:=Mw OW.out;have HGR:Hid (gr≠gt):=fun e=>NE3.out (by rw[e];rfl)
 go_wp2_with fail
 try simp only[b0h]
 obtain⟨w4,hw4⟩:=gn (w3.setCell ⟨gt,0,none⟩ (.slice (some ⟨gr,0,none⟩) (gs.length+1) cap));have T4:Hid (TabO w4 H gt (.slice (some ⟨gr,0,none⟩) (gs.length+1) cap) (gs ++ [g]) n r f):=by
  refine⟨?_,?_,fun i g' hi2 hg'=>?_,NE3.out,?_,?_⟩
  .rw[<- hw4];exact X3.out.set 0 _
  .rw[<- hw4,Z4,Bj];have hl:(gs.map (k0R n) ++ [Value.slice (some ⟨g,0,none⟩) m m])=gs.map (k0R n) ++ [g].map (k0R n):=by rw[<- HM.out];rfl
   rw[<- hl];exact b0W OW.out (fun e=>HGR.out (by simpa[Value.ownBlock]using e)) _
  .have hlt:i<gs.length:=U6 hi2 HRL.out;rw[I9 hlt]at hg';rw[<- hw4];exact (RO.out i g' hi2 hg').other (GSR.out i g' hi2 hg').symm _
  .intro i g' hi2 hg';have hlt:i<gs.length:=U6 hi2 HRL.out;rw[I9 hlt]at hg';rcases AT.out with e | e
   .rw[e];exact T0.out.sep i g' hi2 hg'
   .rw[e];intro hh;have:=J9 hh;have:=(T0.out.rows i g' hi2 hg').lt';have:=B2.out.size;omega
  .intro i g' hi2 hg';have hlt:i<gs.length:=U6 hi2 HRL.out;rw[I9 hlt]at hg';exact T0.out.gne i g' hi2 hg'
 have N4:Hid (NRowT w4 g (List.replicate m 0)):=by rw[<- hw4];exact N3.out.other (by have:=HG.out;have:=HGT.out;show gt≠g;omega) _
 have K4:Hid (KpR gt rv.ownBlock w w4):=by
  rw[<- hw4];refine⟨KP.out.os,KP.out.tape,KP.out.output,by simpa[World.setCell]using KP.out.size,fun i hi h1 h2=>?_⟩;rw[<- KP.out.block i hi h1 h2];unfold World.setCell;simp[Cd,Ne.symm h1]
 rw[hw4];have s0:=T4.out.blk.cell 0;simp at s0;have s1:w4.cell? ⟨gr,gs.length,none⟩=some (.slice (some ⟨g,0,none⟩) m m):=by
  obtain⟨g',o',e1,-,e2⟩:=(Row.of_owns T4.out.own).at (i:=gs.length) (x:=k0R n g) (by rw[Bj,G8 (by simp)];simp);simp only[Ad,Hc]at e1;obtain⟨rfl,rfl,-⟩:=e1;rw[J8]at e2;rw[e2,k0R,HM.out]
 have wl2:IntKind.i64.wrap ((gs.length:Int)+1-1)=(gs.length:Int):=by rw[Q0 _ ⟨by omega,by have:=HGS.out;omega⟩];omega
 have b1:(0:Int)<=(gs.length:Int):=by omega
 have wl3:IntKind.i64.wrap (gs.length:Int)=(gs.length:Int):=by rw[Q0 _ ⟨by omega,by have:=HGS.out;omega⟩]
 have b3:(gs.length:Int)<(gs.length:Int)+1:=by omega
 clear hw4 c30 c31 f3;refine a0m [0,1,2,3,4,5,6,7,8,9,10,11,12] 0 (fun W'=>W'.cell? ⟨gt,0,none⟩=some (.slice (some ⟨gr,0,none⟩) (gs.length+1) cap)/\W'.cell? ⟨gr,gs.length,none⟩=some (.slice (some ⟨g,0,none⟩) m m)) (by kernel_rfl) (by kernel_rfl) (by kernel_rfl) (by kernel_rfl) ⟨s0,s1⟩ ?_
 iterate 13
  refine⟨_,rfl,?_⟩;apply Exists.intro
  refine⟨.inl ⟨by rfl,?_⟩,?_⟩
  .rintro W' ⟨q3,q4⟩;go_simp;try with_reducible rfl
  go_frame
 refine H8 (by kernel_rfl) ?_ _;simp only[b0h];go_wp2_with fail;go_ret
 refine⟨g,_,by rw[k0R,HM.out];rfl,Di HG.out,N4.out,T4.out.drew,NEG.out,AT2.out,K4.out.drew⟩
end
end Go.Proofs.YtfkpfpobmobnbaaGreatDoor
