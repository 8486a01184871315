/- Texts that the proof rests on, merged: Fw, Fd2, Fd9, Fd10, Fd12, Fd7, Fd5, Ol, Pn6, Fr1b, QC, LtP, Gnp, RtW, Rt2, Rt3, Fr2, Fr4, Rt4, Rt5, Rt6, Rt7, Fac0, Gn1, Cr0, Bg, Rp1, Rp3. -/
import Derived.Test.YtfkpfpobmobnbaaGreatDoorPa7
import Derived.WalkLawsBesides
import Derived.IntWalk
import Derived.RangeFuncBox
import Derived.Deep.AppendLies
set_option linter.defProp false
set_option linter.unusedVariables false
set_option linter.unusedSimpArgs false
set_option linter.unusedSectionVars false
set_option maxRecDepth 100000
set_option maxHeartbeats 8000000
namespace Go.Proofs.YtfkpfpobmobnbaaGreatDoor
section
open Go.RowKit
open Go.Lib (decDigits nDigits)
def Af:=@Classical.byContradiction
def u0p (a:ByteArray):gE a ⟨#[]⟩=gPE a:=by
 unfold gE
 split
 .rfl
 .rename_i h
  have:gPE a=0:=Af h;rw[this];decide
def u0N (s:ByteArray):c0u s=if j0s s≠0 then j0s s else if 256<s.size then 4 else 0:=by
 unfold c0u j0s
 split<;>rfl
def bsE:List ByteArray->Int
 | []=>0
 | s::r=>if c0u s≠0 then c0u s else bsE r
def wdE (l:List ByteArray)(m:Int):Int:=if (l.length:Int)=m then bsE l else 16
theorem i0b:∀ {l:List ByteArray} {i:Nat},(∀ (j:Nat) (b:ByteArray),j<i->l[j]?=some b->c0u b=0)->bsE l=bsE (l.drop i)
 | [],i,_=>by simp[bsE]
 | b::r,0,_=>rfl
 | b::r,i+1,h=>by
  have h1:=h 0 b (by omega) rfl;have h3:=i0b (l:=r) (i:=i) (fun j c hj hc=>h (j+1) c (by omega) (by simpa using hc));rw[bsE,U0 (by simp[h1]),h3]
  rfl
theorem n0G:∀ {l:List ByteArray},bsE l=0 ↔ ∀ b∈l,c0u b=0
 | []=>by simp[bsE]
 | b::r=>by
  rw[bsE];by_cases h:c0u b=0
  .rw[U0 (by simp[h]),n0G];simp[h]
  .rw[J2 h];simp[h]
def zE (c:List Int):Int:=if 256<c.length then 4 else if c.any e0s=true then 2 else 0
def ctE (c:List Int):Int:=if c.length=0 then 2 else zE c
def qnE (c:List Int)(a:ByteArray):Int:=if ctE c≠0 then ctE c else gPE a
def nz1 (two:Bool)(a:ByteArray)(n:Int)(b:ByteArray):Option Int:=let t:=if two=true then wT a b else oT a b;if t.1=true then some (n+t.2.1) else none
def nzO (two:Bool)(a:ByteArray):List Int->List ByteArray->Option (List Int)
 | c::cs,b::bs=>(nz1 two a c b).bind fun x=>(nzO two a cs bs).map (x :: ·)
 | _,_=>some []
def m0T (a b:ByteArray)(hb:b.size<=256) : -256<=(oT a b).2.1/\(oT a b).2.1<=256:=by
 unfold oT
 split
 .rename_i h
  have he:gPE a=0:=by
   unfold gE at h
   split at h
   .rename_i h2;exact absurd h h2
   .rename_i h2;exact Af h2
  have hl:b.data.toList.length=b.size:=a0D b;obtain⟨u,_,h2⟩:=a1D (c0h he).2 false b.data.toList;have e:y0D (bN (cW a)) (bN (qD a)) b.data.toList=drT (bN (cW a)) (bN (qD a)) false b.data.toList:=rfl;rw[e];rcases h2 with ⟨-,h2⟩ | ⟨v,h3,h4,-,h2⟩
  .rw[h2];simp
  .rw[h2];simp;omega
 .simp
def pkE (c:List Int)(a:ByteArray)(b:List ByteArray):Int:=if qnE c a≠0 then qnE c a else wdE b c.length
def pkA (c:List Int)(a:ByteArray)(b:List ByteArray):Int×Bool:=if pkE c a b=0 then (match nzO false a c b with | none=>(0,false) | some l=>((amx l:Nat),true)) else (0,false)
theorem i0E {two:Bool}{a:ByteArray}:∀ {c:List Int} {b:List ByteArray} (k:Nat) (x:Int) (y:ByteArray),c[k]?=some x->b[k]?=some y->nz1 two a x y=none->nzO two a c b=none
 | c::cs,b::bs,0,x,y,h1,h2,h3=>by
  cases h1;cases h2
  rw[nzO,h3];rfl
 | c::cs,b::bs,k+1,x,y,h1,h2,h3=>by
  rw[nzO,i0E k x y (by simpa using h1) (by simpa using h2) h3];cases nz1 two a c b<;>rfl
theorem l0x {two:Bool}{a:ByteArray}:∀ {c:List Int} {b:List ByteArray} {l:List Int},c.length=b.length->l.length=c.length->(∀ (k:Nat) (x:Int) (y:ByteArray),c[k]?=some x->b[k]?=some y->nz1 two a x y=l[k]?)->nzO two a c b=some l
 | [],[],l,_,hl,_=>by rw[Ei.1 hl];rfl
 | c::cs,b::bs,[],_,hl,_=>by simp at hl
 | c::cs,b::bs,z::r,h1,hl,h=>by
  have h0:=h 0 c b rfl rfl;rw[nzO,h0,l0x (l:=r) (by simpa using h1) (by simpa using hl) (fun k x y hx hy=>by have:=h (k+1) x y (by simpa using hx) (by simpa using hy);simpa using this)]
  rfl
open Go.Shelf
def i0Y (w:World)(a:ByteArray)(ha:a.size<=100000)(hL:Lay w):
 Calls Tryz.prog 87 #[.string a] w fun e w'=>e=.returned (.int .i64 (gPE a))/\Below w.heap.size w w':=by
 have HG:=hid (a1d w a ⟨#[]⟩ ha (by decide) hL);rw[u0p]at HG;obtain⟨t,ht⟩:=gn (oT a ⟨#[]⟩);obtain⟨x,hx⟩:=gn (gPE a);rw[ht,hx]at HG;rw[hx];obtain⟨d,v,u⟩:=t;simp only[d3]at HG;clear ha hL ht hx;go_enter Tryz.func87,Tryz.ntmps87;go_wp2_with fail;refine HG.out.mono ?_;rintro e w1 ⟨rfl,hb1⟩;go_wp2_with fail;go_ret
 exact⟨rfl,hb1.alloc hb1.size _⟩
def x0H (w:World)(u:Int):Calls Tryz.prog 178 #[.int .i64 u] w fun e w'=>e=.returned (.bool (e0s u))/\w=w':=by
 unfold e0s;obtain⟨a,ha⟩:=gn (decide (u < -1125899906842624));obtain⟨b,hb⟩:=gn (decide (1125899906842624<u));rw[ha,hb];cases a
 .go_enter Tryz.func178,Tryz.ntmps178;go_wp2_with fail;go_ret
  exact⟨rfl,rfl⟩
 .clear hb;go_enter Tryz.func178,Tryz.ntmps178;go_wp2_with fail;go_ret
  exact⟨rfl,rfl⟩
def e0m (w:World)(v:Value)(c:List Int)(a:ByteArray)(hv:Row w v (zs c))(ha:a.size<=100000)(hL:Lay w):
 Calls Tryz.prog 78 #[v,.string a] w fun e w'=>e=.returned (.int .i64 (qnE c a))/\Below w.heap.size w w':=by
 have HR:=hid (i0Y w a ha hL);obtain⟨s,cp,rfl,q1,q2,q3⟩:=hv.openZ;have HC:=hid (g0w w _ c 178 e0s hv (by omega) (Ch Tryz.func178 (by kernel_rfl) rfl) (fun W x=>x0H W x));obtain⟨n,hn⟩:=gn (c.length);obtain⟨g,hg⟩:=gn (gPE a);obtain⟨b,hb⟩:=gn (c.any e0s);unfold qnE ctE zE;rw[hg]at HR |-;rw[hb]at HC |-;rw[hn]at HC |-;clear hv ha hL q1 q2 q3 hn hg hb;by_cases h0:n=0
 .subst h0;rw[J2 rfl,J2 (by decide)];go_enter Tryz.func78,Tryz.ntmps78;go_wp2_with fail;go_ret
  exact⟨rfl,Z3 _ _⟩
 .have t0:((n:Int)==0)=false:=by rw[U4];omega
  by_cases h1:256<n
  .have t1:decide ((256:Int)<(n:Int))=true:=by simp;omega
   rw[U0 h0,J2 h1,J2 (by decide)];clear h0 h1;go_enter Tryz.func78,Tryz.ntmps78;go_wp2_with fail;go_ret
   exact⟨rfl,Z3 _ _⟩
  .have t1:decide ((256:Int)<(n:Int))=false:=by simp;omega
   rw[U0 h0,U0 h1];clear h0 h1;cases b
   .simp only[Bi,Ew,ne_eq,not_true_eq_false];go_enter Tryz.func78,Tryz.ntmps78;go_wp2_with fail;refine HC.out.mono ?_;rintro e w1 ⟨rfl,rfl⟩;go_wp2_with fail;refine HR.out.mono ?_;rintro e w2 ⟨rfl,hb2⟩;go_wp2_with fail;go_ret
    exact⟨rfl,hb2⟩
   .rw[J2 rfl,J2 (by decide)];clear HR;go_enter Tryz.func78,Tryz.ntmps78;go_wp2_with fail;refine HC.out.mono ?_;rintro e w1 ⟨rfl,rfl⟩;go_wp2_with fail;go_ret
    exact⟨rfl,Z3 _ _⟩
def orZ:List Int->Int
 | []=>0
 | x::r=>if x≠0 then x else orZ r
theorem k0j:∀ {l:List Int} {i:Nat},(∀ (j:Nat) (x:Int),j<i->l[j]?=some x->x=0)->orZ l=orZ (l.drop i)
 | [],i,_=>by simp[orZ]
 | b::r,0,_=>rfl
 | b::r,i+1,h=>by
  have h1:=h 0 b (by omega) rfl;have h3:=k0j (l:=r) (i:=i) (fun j c hj hc=>h (j+1) c (by omega) (by simpa using hc));rw[orZ,U0 (by simp[h1]),h3]
  rfl
def Ga:=@List.drop_eq_nil_of_le
def b1p (w:World)(v:Value)(l:List Int)(hv:Row w v (zs l)):
 Calls Tryz.prog 77 #[v] w fun e w'=>e=.returned (.int .i64 (orZ l))/\w=w':=by
 obtain⟨a,c,rfl,q1,q2,q3⟩:=hv.openZ;obtain⟨n,hn⟩:=gn (l.length);obtain⟨X,hX⟩:=gn (orZ l);rw[hn]at q1 |-;rw[hX];have HN:=hid hn;have Q3:=hid q3;have HX:=hid hX;clear hv q3 hn hX;go_enter Tryz.func77,Tryz.ntmps77;go_wp2_with fail
 go_loop [8] (fun ii=>∃ i:Nat,ii=.int .i64 i/\i<=n/\Hid (∀ (j:Nat) (x:Int),j<i->l[j]?=some x->x=0)) (fun ii=>n-(intOf ii).toNat)
 case atStart=>exact⟨0,rfl,S4 _,fun j x hj=>absurd hj (by omega)⟩
 case round=>
  obtain⟨i,rfl,hi,hI⟩:=hrel;by_cases hlt:i<n
  .obtain⟨x,hx⟩:∃ x,l[i]?=some x:=⟨_,J0 (by rw[HN.out];exact hlt)⟩;obtain⟨g,o,rfl,hg,hc⟩:=Q3.out i x hx;have hdrop:l.drop i=x::l.drop (i+1):=by
    have hil:i<l.length:=by rw[HN.out];exact hlt
    rw[H9 hil];have:=J0 hil;rw[hx]at this;rw[J9 this]
   have HXX:=hid hx;have HD:=hid hdrop;have b1:(0:Int)<=(i:Int):=by omega
   have b2:(i:Int)<(n:Int):=by omega
   have wi:IntKind.i64.wrap ((i:Int)+1)=((i+1:Nat):Int):=by rw[Q0 _ ⟨by omega,by omega⟩];omega
   clear hx hdrop;by_cases hx0:x=0
   .have HZ:=hid hx0;have q0:(x==0)=true:=by rw[Dk];exact hx0
    clear hx0;go_wp2_with fail;go_round
    case rel=>exact⟨i+1,by go_num,by omega,fun j y hj hy=>by
     rcases Cc j i with h | h
     .exact hI.out j y h hy
     .obtain rfl:j=i:=by omega
      rw[HXX.out]at hy;cases hy;exact HZ.out⟩
    case measure=>simp[intOf]<;>omega
   .have q0:(x==0)=false:=by rw[U4];exact hx0
    have HE:Hid (X=x):=by
     show X=x
     rw[<- HX.out,k0j hI.out,HD.out,orZ,J2 hx0]
    clear hx0;go_wp2_with fail;go_ret
    exact⟨by rw[HE.out];rfl,rfl⟩
  .obtain rfl:i=n:=by omega
   have HE:Hid (X=0):=by
    show X=0
    have hd:l.drop i = []:=Ga (by rw[HN.out];exact J4 _);rw[<- HX.out,k0j hI.out,hd];rfl
   have q0:decide ((i:Int)<(i:Int))=false:=by simp
   clear hlt;go_wp2_with fail;go_ret
   exact⟨by rw[HE.out];rfl,rfl⟩
def b1o (w:World)(v:Value)(l:List Int)(hv:Row w v (zs l)):
 Calls Tryz.prog 83 #[v] w fun e w'=>e=.returned (.int .i64 (orZ l))/\w=w':=by
 obtain⟨a,c,rfl,q1,q2,q3⟩:=hv.openZ;obtain⟨n,hn⟩:=gn (l.length);obtain⟨X,hX⟩:=gn (orZ l);rw[hn]at q1 |-;rw[hX];have HN:=hid hn;have Q3:=hid q3;have HX:=hid hX;clear hv q3 hn hX;go_enter Tryz.func83,Tryz.ntmps83;go_wp2_with fail
 go_loop [8] (fun ii=>∃ i:Nat,ii=.int .i64 i/\i<=n/\Hid (∀ (j:Nat) (x:Int),j<i->l[j]?=some x->x=0)) (fun ii=>n-(intOf ii).toNat)
 case atStart=>exact⟨0,rfl,S4 _,fun j x hj=>absurd hj (by omega)⟩
 case round=>
  obtain⟨i,rfl,hi,hI⟩:=hrel;by_cases hlt:i<n
  .obtain⟨x,hx⟩:∃ x,l[i]?=some x:=⟨_,J0 (by rw[HN.out];exact hlt)⟩;obtain⟨g,o,rfl,hg,hc⟩:=Q3.out i x hx;have hdrop:l.drop i=x::l.drop (i+1):=by
    have hil:i<l.length:=by rw[HN.out];exact hlt
    rw[H9 hil];have:=J0 hil;rw[hx]at this;rw[J9 this]
   have HXX:=hid hx;have HD:=hid hdrop;have b1:(0:Int)<=(i:Int):=by omega
   have b2:(i:Int)<(n:Int):=by omega
   have wi:IntKind.i64.wrap ((i:Int)+1)=((i+1:Nat):Int):=by rw[Q0 _ ⟨by omega,by omega⟩];omega
   clear hx hdrop;by_cases hx0:x=0
   .have HZ:=hid hx0;have q0:(x==0)=true:=by rw[Dk];exact hx0
    clear hx0;go_wp2_with fail;go_round
    case rel=>exact⟨i+1,by go_num,by omega,fun j y hj hy=>by
     rcases Cc j i with h | h
     .exact hI.out j y h hy
     .obtain rfl:j=i:=by omega
      rw[HXX.out]at hy;cases hy;exact HZ.out⟩
    case measure=>simp[intOf]<;>omega
   .have q0:(x==0)=false:=by rw[U4];exact hx0
    have HE:Hid (X=x):=by
     show X=x
     rw[<- HX.out,k0j hI.out,HD.out,orZ,J2 hx0]
    clear hx0;go_wp2_with fail;go_ret
    exact⟨by rw[HE.out];rfl,rfl⟩
  .obtain rfl:i=n:=by omega
   have HE:Hid (X=0):=by
    show X=0
    have hd:l.drop i = []:=Ga (by rw[HN.out];exact J4 _);rw[<- HX.out,k0j hI.out,hd];rfl
   have q0:decide ((i:Int)<(i:Int))=false:=by simp
   clear hlt;go_wp2_with fail;go_ret
   exact⟨by rw[HE.out];rfl,rfl⟩
def s0f (x y:Int):Int:=if x<y then -1 else if y<x then 1 else 0
def h0E (w:World)(x y:Int):Calls Tryz.prog 84 #[.int .i64 x,.int .i64 y] w fun e w'=>e=.returned (.int .i64 (s0f x y))/\w=w':=by
 rcases Int.lt_trichotomy x y with h | h | h
 .have q1:decide (x<y)=true:=by simpa using h
  have HO:=hid (show s0f x y = -1 from J2 h);clear h;go_enter Ly,Ko;go_wp2
  go_ret
  exact⟨a0G HO.out.symm,rfl⟩
 .subst h;have q1:decide (x<x)=false:=by simp
  have HO:=hid (show s0f x x=0 from by unfold s0f;rw[U0 (by omega),U0 (by omega)]);go_enter Ly,Ko;go_wp2
  go_ret
  exact⟨a0G HO.out.symm,rfl⟩
 .have q1:decide (x<y)=false:=by simp;omega
  have q2:decide (y<x)=true:=by simpa using h
  have HO:=hid (show s0f x y=1 from by unfold s0f;rw[U0 (by omega),J2 h]);clear h;go_enter Ly,Ko;go_wp2
  go_ret
  exact⟨a0G HO.out.symm,rfl⟩
end
section
open Go.RowKit Go.Shelf
def btB (k old v was:Int):Bool:=decide (0<orZ [s0f v was,s0f old k])
def a1S {k old v was:Int}(h:old<k):btB k old v was=decide (was<v):=by
 unfold btB orZ orZ orZ s0f;rw[J2 h];by_cases h1:v<was
 .simp[h1];omega
 .by_cases h2:was<v
  .simp[h1,h2]
  .simp[h1,h2]
def l0h (w:World)(p q:Int)(t:TypeId):Row (w.alloc (.cells #[.int .i64 p,.int .i64 q] t)) (.slice (some ⟨w.heap.size,0,none⟩) 2 2) (zs [p,q]):=by
 refine Row.of_blk (n:=2) (xs:=zs [p,q]) (Blk.new w #[.int .i64 p,.int .i64 q] t) rfl (by decide) (fun i x hx=>?_) nr0 (by decide)
 match i,hx with
 | 0,hx=>exact hx
 | 1,hx=>exact hx
 | i+2,hx=>simp[zs]at hx
def r0A (w:World)(k old v was:Int):Calls Tryz.prog 82 #[.int .i64 k,.int .i64 old,.int .i64 v,.int .i64 was] w fun e w'=>e=.returned (.bool (btB k old v was))/\Below w.heap.size w w':=by
 have C1:=fun V=>hid (h0E V v was)
 have C2:=fun V=>hid (h0E V old k)
 unfold btB;obtain⟨p,hp⟩:=gn (s0f v was);obtain⟨q,hq⟩:=gn (s0f old k);rw[hp]at C1 |-;rw[hq]at C2 |-;have CO:=fun V v hv=>hid (b1o V v [p,q] hv)
 obtain⟨z,hz⟩:=gn (orZ [p,q]);rw[hz]at CO |-;clear hp hq hz;go_enter Tryz.func82,Tryz.ntmps82;go_wp2_with fail;refine (C1 _).out.mono ?_;rintro e w1 ⟨rfl,rfl⟩;go_wp2_with fail;refine (C2 _).out.mono ?_;rintro e w1 ⟨rfl,rfl⟩;go_wp2_with fail;refine (CO _ _ (l0h _ _ _ _)).out.mono ?_;rintro e w2 ⟨rfl,rfl⟩;go_wp2_with fail;go_ret
 exact⟨rfl,br0.alloc nr0 _⟩
attribute [local go_sem] Oper.semAt_some
structure KpC (n0:Nat)(W W':World):Prop where
 size:W.heap.size<=W'.heap.size
 rest:n0<=W.heap.size->Below n0 W W'
theorem KpC.refl (n0:Nat)(W:World):KpC n0 W W:=⟨J4 _,fun _=>Z3 _ _⟩
theorem KpC.trans {n0:Nat}{A B C:World}(h:KpC n0 A B)(k:KpC n0 B C):KpC n0 A C:=⟨O0 h.size k.size,fun h1=>(h.rest h1).trans (k.rest (O0 h1 h.size))⟩
theorem KpC.of_below {n0:Nat}{W W':World}(h:Below W.heap.size W W'):KpC n0 W W':=⟨h.size,fun h1=>h.mono h1⟩
theorem KpC.put {n0:Nat}{w:World}(h1:n0<=w.heap.size)(W:World)(l:Nat)(o o':Obj)(hl:w.heap.size<=l)(h:W.heap[l]?=some o)(hc:o.isCells=false)(hw:o.isWalk=false):KpC n0 W (W.putObj l o'):=by
 have hs:W.heap.size<=(W.putObj l o').heap.size:=by simp[World.putObj]
 exact⟨hs,fun _=>⟨rfl,rfl,rfl,hs,fun k hk=>Dc (by omega)⟩⟩
def f0x {B:Nat}{W W':World}(h:Below W.heap.size W W'):KeepsFrom B W W':=⟨h.size,fun k o hk ho hc=>(h.block k (J6.1 ho).1).trans ho⟩
def b1S (l:List Int):(amS l).2.1<=l.length:=by
 by_cases h:l = []
 .subst h;exact J4 _
 .have:=(O4.1 (s0u _ l rfl h).at_).1;omega
def a1V {l:List Int}(h:l ≠ []):(amS l).2.1<l.length:=(O4.1 (s0u _ l rfl h).at_).1
structure FoldI (T:Nat)(l:List Int)(W:World):Prop where
 f:Blk W T #[.func (.func 82) #[] #[]] 102
 best:Blk W (T+1) #[.int .i64 ((amS l).2.1:Nat)] 3
 many:Blk W (T+1+1) #[.int .i64 (l.length:Nat)] 3
 top:Blk W (T+1+1+1) #[.int .i64 (amS l).2.2] 3
theorem FoldI.keptX {T:Nat}{l:List Int}{X Y:World}{row:Option Nat}(h:FoldI T l X)(hg:X.grownBy Y row)(hrow:∀ r,row=some r->∃ o:Obj,X.heap[r]?=some o/\o.isCells=false):FoldI T l Y:=
 ⟨h.f.kept hg hrow,h.best.kept hg hrow,h.many.kept hg hrow,h.top.kept hg hrow⟩
def x0J (w:World)(gf:Nat)(lb:Array Value)(Ok:List (Int×Int)->(Int×Int)->Prop)(S:List (Int×Int)->Prop)(hOk:∀ pre x,Ok pre x->x.1=(pre.length:Nat)/\pre.length<=1000)
 (hseq:y0A 8 Tryz.prog gf lb (fun x:Int×Int=>#[.int .i64 x.1,.int .i64 x.2]) (KpC w.heap.size) Ok S (fun _=>True) w)
 (eg:∀ args w,(callFunc gf args).run Tryz.prog w=.ok (.enter gf args) w):
 Calls Tryz.prog 80 #[.func (.func gf) #[] lb,.func (.func 82) #[] #[]] w fun e w'=>(∃ xs,S xs/\e=.returned (.tuple #[.int .i64 ((amS (xs.map Prod.snd)).2.1:Nat),.int .i64 (xs.length:Nat)]))/\Below w.heap.size w w':=by
 have HSEQ:=hid hseq;have HOK:=hid hOk;clear hseq hOk;refine (Aj (n:=9)).1 ?_;refine Er Tryz.func80 rfl trivial ?_ rfl;simp only[Tryz.ntmps80,Ae,U7,Bx,Nat.reduceAdd,Nat.reduceSub,Az,Bo,Cn,Cj,Do,Bp]
 gi_wp2_with fail
 obtain⟨W0,hW0⟩:=gn (((((w.alloc (.cells #[.func (.func 82) #[] #[]] 102)).alloc (.cells #[.int .i64 0] 3)).alloc (.cells #[.int .i64 0] 3)).alloc (.cells #[.int .i64 0] 3)));have F0:Hid (FoldI w.heap.size [] W0):=by
  rw[<- hW0];exact⟨(((Blk.new w _ _).alloc _).alloc _).alloc _,((Blk.made _ _ _ (by simp)).alloc _).alloc _,(Blk.made _ _ _ (by simp)).alloc _,Blk.made _ _ _ (by simp)⟩
 have b0:Hid (Below w.heap.size w W0):=by rw[<- hW0];exact (((br0.alloc nr0 _).alloc (by simp<;>omega) _).alloc (by simp<;>omega) _).alloc (by simp<;>omega) _
 have z0:Hid (W0.heap.size=w.heap.size+1+1+1+1):=by show _=_;rw[<- hW0];simp
 rw[hW0];clear hW0;obtain⟨T,hT⟩:=gn (w.heap.size);have HT:=hid hT;rw[hT]at F0 z0 |-;have HSEQ2:=HSEQ.out;refine c0J (hM:=fun _ _ _=>trivial) (by omega) (gf:=gf) (lb:=lb) rfl eg HSEQ2 KpC.trans (KpC.put (by have:=z0.out;have:=HT.out;omega)) b0.out (fun _=>rfl)
  (fun p W=>FoldI T (p.map Prod.snd) W/\Below w.heap.size w W)
  (fun c p W=>False)
  (Ke (fun s X Y row hs hg hr=>hs.keptX hg (fun r e=>(hr r e).2)) (Ht nr0 (by have:=z0.out;have:=HT.out;omega)))
  (fun c s X Y row hs hg hr=>hs)
  ⟨F0.out,b0.out⟩ ?act ?assign ?body ?done ?stop
 case assign=>
  intro l x W K hK
  gi_wp2
  exact hK
 case body=>
  rintro l p ⟨k,v⟩ W hOk ⟨hF,hB⟩;obtain⟨o1,o2⟩:=HOK.out _ _ hOk;dsimp only at o1;obtain⟨vs,hvs⟩:=gn (p.map Prod.snd);have hl:vs.length=p.length:=by rw[<- hvs,List.length_map]
  rw[hvs]at hF;have hsn:(p ++ [(k,v)]).map Prod.snd=vs ++ [v]:=by rw[Bj,hvs];rfl
  rw[<- hl]at o1 o2;obtain⟨n,hn⟩:=gn (vs.length);have hsn2:amS (vs ++ [v])=if n=0\/(amS vs).2.2<v then (n+1,n,v) else (n+1,(amS vs).2.1,(amS vs).2.2):=by
   rw[j0o];unfold amT;rw[m0m,hn]
  have hlt0:n≠0->(amS vs).2.1<n:=fun h=>by
   have:=a1V (l:=vs) (fun e=>h (by rw[<- hn,e];rfl));rwa[hn]at this
  have hl2:(vs ++ [v]).length=n+1:=by rw[Z4,H7,hn]
  have B1:=hF.f;have B2:=hF.best;have B3:=hF.many;have B4:=hF.top;obtain⟨b,hb⟩:=gn ((amS vs).2.1);obtain⟨tp,htp⟩:=gn ((amS vs).2.2);rw[hb]at B2 hsn2 hlt0;rw[htp]at B4 hsn2;rw[hn]at B3 o1 o2;subst o1;have r0:=B1.cell 0;have r1:=B2.cell 0;have r2:=B3.cell 0;have r3:=B4.cell 0;have f1:=B2.free 0;have f2:=B3.free 0;have f3:=B4.free 0;simp at r0 r1 r2 r3;have wn:IntKind.i64.wrap ((n:Int)+1)=((n+1:Nat):Int):=by rw[Q0 _ ⟨by omega,by omega⟩];omega
  have HB1:=hid B1;have HB2:=hid B2;have HB3:=hid B3;have HB4:=hid B4;have HBl:=hid hB;have HSN:=hid hsn;have HS2:=hid hsn2;have HL2:=hid hl2;have HLT0:=hid hlt0;clear B1 B2 B3 B4 hB hF hsn hsn2 hl2 hOk hvs hl hn hb htp hlt0 hT
  -- the world behind a better value,behind another one
  have new:∀ V,Below W.heap.size W V->amS (vs ++ [v])=(n+1,n,v)->∀ (X:World),X=(((V.setCell ⟨T+1,0,none⟩ (.int .i64 (n:Nat))).setCell ⟨T+1+1+1,0,none⟩ (.int .i64 v)).setCell ⟨T+1+1,0,none⟩ (.int .i64 ((n+1:Nat):Int)))->KeepsFrom W0.heap.size W X/\KpC w.heap.size W X/\FoldI T ((p ++ [(((n:Nat):Int),v)]).map Prod.snd) X/\Below w.heap.size w X:=fun V hV hs X hX=>by
   subst hX;have ht:=HT.out;have kb:Below w.heap.size W (((V.setCell ⟨T+1,0,none⟩ (.int .i64 (n:Nat))).setCell ⟨T+1+1+1,0,none⟩ (.int .i64 v)).setCell ⟨T+1+1,0,none⟩ (.int .i64 ((n+1:Nat):Int))):=
    (((hV.mono HBl.out.size).setCell (by simp<;>omega) _).setCell (by simp<;>omega) _).setCell (by simp<;>omega) _
   refine⟨(f0x hV).trans ((((U9 _ _ _).trans (U9 _ _ _)).trans (U9 _ _ _)).from _),⟨kb.size,fun _=>kb⟩,?_,HBl.out.trans kb⟩;rw[HSN.out];have a1:=HB1.out.call hV;have a2:=HB2.out.call hV;have a3:=HB3.out.call hV;have a4:=HB4.out.call hV;refine⟨((a1.other (by simp<;>omega) _).other (by simp<;>omega) _).other (by simp<;>omega) _,?_,?_,?_⟩
   .rw[hs];exact ((a2.set 0 _).other (by simp<;>omega) _).other (by simp<;>omega) _
   .rw[HL2.out];exact ((a3.other (by simp<;>omega) _).other (by simp<;>omega) _).set 0 _
   .rw[hs];exact ((a4.other (by simp<;>omega) _).set 0 _).other (by simp<;>omega) _
  have old:∀ V,Below W.heap.size W V->amS (vs ++ [v])=(n+1,b,tp)->∀ (X:World),X=(V.setCell ⟨T+1+1,0,none⟩ (.int .i64 ((n+1:Nat):Int)))->KeepsFrom W0.heap.size W X/\KpC w.heap.size W X/\FoldI T ((p ++ [(((n:Nat):Int),v)]).map Prod.snd) X/\Below w.heap.size w X:=fun V hV hs X hX=>by
   subst hX;have ht:=HT.out;have kb:Below w.heap.size W (V.setCell ⟨T+1+1,0,none⟩ (.int .i64 ((n+1:Nat):Int))):=(hV.mono HBl.out.size).setCell (by simp<;>omega) _;refine⟨(f0x hV).trans ((U9 _ _ _).from _),⟨kb.size,fun _=>kb⟩,?_,HBl.out.trans kb⟩;rw[HSN.out];have a1:=HB1.out.call hV;have a2:=HB2.out.call hV;have a3:=HB3.out.call hV;have a4:=HB4.out.call hV;refine⟨a1.other (by simp<;>omega) _,?_,?_,?_⟩
   .rw[hs];exact a2.other (by simp<;>omega) _
   .rw[HL2.out];exact a3.set 0 _
   .rw[hs];exact a4.other (by simp<;>omega) _
  have NEW:=hid new;have OLD:=hid old;clear new old;by_cases hn0:n=0
  .have hs:=HS2.out;rw[J2 (.inl hn0)]at hs;have HS3:=hid hs;have q0:((n:Int)==0)=true:=by rw[Dk];omega
   clear hs hn0
   gi_wp2_with fail
   refine⟨fun f hf=>(by cases hf),?_⟩
   gi_wp2_with fail
   exact NEW.out W br0 HS3.out _ rfl
  .have q0:((n:Int)==0)=false:=by rw[U4];omega
   have hbt:btB (n:Int) (b:Int) v tp=decide (tp<v):=a1S (by have:=HLT0.out hn0;omega);have PB:=fun V=>hid (r0A V (n:Int) (b:Int) v tp)
   rw[hbt]at PB;by_cases hlt:tp<v
   .have hs:=HS2.out;rw[J2 (.inr hlt)]at hs;rw[E7 hlt]at PB;have HS3:=hid hs;clear hs hn0 hlt hbt
    gi_wp2_with fail
    clear r1 r2 r3 f1 f2 f3;refine⟨trivial,?_⟩;refine (CallsIn.inRound _ (Aj.2 (PB _).out)).mono ?_;rintro e w1 ⟨rfl,hb1⟩;have y1:=hid hb1;have r1:=(HB2.out.call hb1).cell 0;have r2:=(HB3.out.call hb1).cell 0;have r3:=(HB4.out.call hb1).cell 0;have f1:=(HB2.out.call hb1).free 0;have f2:=(HB3.out.call hb1).free 0;have f3:=(HB4.out.call hb1).free 0;simp at r1 r2 r3;clear hb1
    gi_wp2_with fail
    exact NEW.out w1 y1.out HS3.out _ rfl
   .have hs:=HS2.out;rw[U0 (by omega)]at hs;rw[M6 hlt]at PB;have HS3:=hid hs;clear hs hn0 hlt hbt
    gi_wp2_with fail
    clear r1 r2 r3 f1 f2 f3;refine⟨trivial,?_⟩;refine (CallsIn.inRound _ (Aj.2 (PB _).out)).mono ?_;rintro e w1 ⟨rfl,hb1⟩;have y1:=hid hb1;have r1:=(HB2.out.call hb1).cell 0;have r2:=(HB3.out.call hb1).cell 0;have r3:=(HB4.out.call hb1).cell 0;have f1:=(HB2.out.call hb1).free 0;have f2:=(HB3.out.call hb1).free 0;have f3:=(HB4.out.call hb1).free 0;simp at r1 r2 r3;clear hb1
    gi_wp2_with fail
    exact OLD.out w1 y1.out HS3.out _ rfl
 case done=>
  rintro D' xs W hD hS ⟨hF,hB⟩ hK;have B2:=hF.best;have B3:=hF.many;obtain⟨vs,hvs⟩:=gn (xs.map Prod.snd);have hl:vs.length=xs.length:=by rw[<- hvs,Dl]
  rw[hvs]at B2 B3;rw[hl]at B3;have r1:=B2.cell 0;have r2:=B3.cell 0;have f1:=B2.free 0;have f2:=B3.free 0;simp at r1 r2;have HB2:=hid B2;have HB3:=hid B3;have HBl:=hid hB;have HK:=hid hK;have HDD:=hid hD;have HS:=hid hS;have HV:=hid hvs;clear B2 B3 hF hB hK hD hS hvs hl hT
  gi_wp2_with fail
  gi_region
  gi_wp2_with fail
  have q1:=((HB2.out.set 0 (.int .i64 ((amS vs).2.1:Nat))).other (a:=⟨T+1+1,0,none⟩) (by simp) (.int .i64 (xs.length:Nat))).call (br0.drew);have q2:=((HB3.out.other (a:=⟨T+1,0,none⟩) (by simp) (.int .i64 ((amS vs).2.1:Nat))).set 0 (.int .i64 (xs.length:Nat))).call (br0.drew);have hk3:=((((U9 W ⟨T+1,0,none⟩ (.int .i64 ((amS vs).2.1:Nat))).trans (U9 _ ⟨T+1+1,0,none⟩ (.int .i64 (xs.length:Nat)))).trans (KeepsOthers.drew _))).same D' _ HK.out rfl;have p1:=(q1.put hk3 (.deferred none)).cell 0;have p2:=(q2.put hk3 (.deferred none)).cell 0;simp at p1 p2;have h9:=HDD.out;have hz:=z0.out;have ht:=HT.out;refine c0c hk3 (v:=.tuple #[.int .i64 ((amS vs).2.1:Nat),.int .i64 (xs.length:Nat)]) (by simp[results,Tryz.results80,go_sem,p1,p2]) ⟨⟨xs,HS.out,by rw[HV.out]⟩,?_⟩;exact (((HBl.out.setCell (by simp<;>omega) _).setCell (by simp<;>omega) _).drew).trans (Lm (w:=w) nr0 _ D' _ _ (by omega) hk3 rfl rfl)
 case stop=>exact fun D' c p W hD _ hF _=>hF.elim
open Go.Lib (decDigits nDigits)
attribute [local go_sem] Oper.semAt_some
def NzOk (c:List Int)(a:ByteArray)(bs:List ByteArray)(pre:List (Int×Int)):Prop:=∀ (k:Nat) (x:Int×Int),pre[k]?=some x->∃ n b,c[k]?=some n/\bs[k]?=some b/\x.1=(k:Nat)/\nz1 false a n b=some x.2
def m0U (c:List Int)(a:ByteArray)(bs:List ByteArray)(pre:List (Int×Int))(x:Int×Int):Prop:=∃ n b,c[pre.length]?=some n/\bs[pre.length]?=some b/\x.1=(pre.length:Nat)/\nz1 false a n b=some x.2
def v0m (c:List Int)(a:ByteArray)(bs:List ByteArray)(pre:List (Int×Int)):Prop:=pre.length=c.length\/∃ n b,c[pre.length]?=some n/\bs[pre.length]?=some b/\nz1 false a n b=none
theorem NzOk.snoc {c:List Int}{a:ByteArray}{bs:List ByteArray}{pre:List (Int×Int)}{x:Int×Int}(h:NzOk c a bs pre)(hx:m0U c a bs pre x):NzOk c a bs (pre ++ [x]):=fun k y hy=>by
 rw[Le]at hy
 split at hy
 .exact h k y hy
 .by_cases h0:k-pre.length=0
  .rw[h0]at hy;cases hy
   obtain rfl:k=pre.length:=by omega
   exact hx
  .obtain⟨q,hq⟩:∃ q,k-pre.length=q+1:=⟨k-pre.length-1,by omega⟩;rw[hq]at hy;simp at hy
def u0y (w:World)(s:Option Addr)(n k:Nat)(a:ByteArray)(t:Option Addr)(n2 k2:Nat):
 Calls Tryz.prog 81 #[.slice s n k,.string a,.slice t n2 k2] w fun e w'=>e=.returned (.func (.func 179) #[] #[.pointer (some ⟨w.heap.size,0,none⟩),.pointer (some ⟨w.heap.size+1,0,none⟩),.pointer (some ⟨w.heap.size+1+1,0,none⟩)])/\w'=((w.alloc (.cells #[.slice s n k] 22)).alloc (.cells #[.string a] 23)).alloc (.cells #[.slice t n2 k2] 24):=by
 go_enter Tryz.func81,Tryz.ntmps81;go_wp2_with fail;go_ret
 exact⟨rfl,rfl⟩
def Hv:=@Go.Value.slice.injEq
def l0y {Kp:World->World->Prop}(n:Nat)(hn:1<=n)(w:World)(bc ba bb:Nat)(vc vb:Value)(c:List Int)(a:ByteArray)(bs:List ByteArray)(ha:a.size<=100000)(hbs:∀ b∈bs,b.size<=256)(hlen:c.length=bs.length)(hcl:c.length<=256)(hcr:∀ x∈c,-1125899906842624<=x/\x<=1125899906842624)
 (hKr:∀ W,Kp W W) (hKt:∀ {A B C:World},Kp A B->Kp B C->Kp A C)
 (hread:∀ W1 W2,Below w.heap.size w W1->Kp W1 W2->W2.cell? ⟨bc,0,none⟩=some vc/\W2.cell? ⟨ba,0,none⟩=some (.string a)/\W2.cell? ⟨bb,0,none⟩=some vb/\Row W2 vc (zs c)/\Row W2 vb (d0k bs)/\Lay W2) (hKb:∀ W1 W2,Below W1.heap.size W1 W2->Kp W1 W2):
 y0A n Tryz.prog 179 #[.pointer (some ⟨bc,0,none⟩),.pointer (some ⟨ba,0,none⟩),.pointer (some ⟨bb,0,none⟩)] (fun x:Int×Int=>#[.int .i64 x.1,.int .i64 x.2]) Kp (m0U c a bs) (fun xs=>NzOk c a bs xs/\v0m c a bs xs) (fun _=>True) w:=by
 intro l J Jx W hW hJ hJx hY _ h0;have HR:=hid hread;have HY:=hid hY;have HW:=hid hW;have HJ:=hid hJ;have HKr:=hid hKr;have HKt:Hid (∀ A B C:World,Kp A B->Kp B C->Kp A C):=fun A B C h k=>hKt h k
 have HKb:=hid hKb;have HA:=hid ha;have HBS:=hid hbs;have HCR:=hid hcr;have HLN:=hid hlen;obtain⟨c0,-,-,r0,-,-⟩:=hread W W hW (hKr W);obtain⟨s,cp,rfl,q1,q2,-⟩:=r0.openZ;obtain⟨N,hN⟩:=gn (c.length);have HN:=hid hN;rw[hN]at HR c0 q1 hcl;clear hread hY hW hJ hJx hKr hKt hKb ha hbs hcr hlen r0 hN;refine callsIn_of_wp Tryz.func179 rfl trivial ?_ rfl;simp only[Tryz.ntmps179,Ae,U7,Bx,Nat.reduceAdd,Nat.reduceSub,Az,Bo,Cn,Cj,Do,Bp]
 gi_wp2
 gi_loopw [11] (fun ii wr=>∃ p:List (Int×Int),ii=.int .i64 (p.length:Nat)/\p.length<=N/\Hid (NzOk c a bs p)/\Hid (J p wr)/\Hid (Kp W wr)) (fun ii wr=>N-(intOf ii).toNat)
 case atStart=>exact⟨[],rfl,S4 _,fun k x hx=>by simp at hx,h0,HKr.out W⟩
 case round=>
  obtain⟨pre,rfl,hp,hO,hJ,hK⟩:=hrel;obtain⟨i,hi⟩:=gn (pre.length);have HI:=hid hi;rw[hi]at hp |-;clear hi;by_cases hlt:i<N
  .obtain⟨x,hx⟩:∃ x,c[i]?=some x:=⟨_,J0 (by rw[HN.out];exact hlt)⟩;obtain⟨b,hb⟩:∃ b,bs[i]?=some b:=⟨_,J0 (by have:=HLN.out;have:=HN.out;omega)⟩;obtain⟨-,c1,c2,hrow,hrowb,hLay⟩:=HR.out W wr HW.out hK.out;obtain⟨a',c',e,-,-,hcell⟩:=hrow.openZ;simp only[Hv]at e;obtain⟨rfl,-,rfl⟩:=e;obtain⟨g,o,rfl,hg,hc⟩:=hcell i x hx;obtain⟨a2,k2,rfl,-,-,hcell2⟩:=hrowb.openS;obtain⟨g2,o2,rfl,hg2,hc2⟩:=hcell2 i b hb;obtain⟨N2,hN2⟩:=gn (bs.length);have hi2:i<N2:=by have:=HLN.out;have:=HN.out;omega
   rw[hN2]at c2;have q4:=fun V hV=>hid (a1d V a b HA.out (by have:=HBS.out b (C7 hb);omega) hV)
   obtain⟨t,ht⟩:=gn (oT a b);obtain⟨ge,hge⟩:=gn (gE a b);rw[ht,hge]at q4;have hvb:=m0T a b (by have:=HBS.out b (C7 hb);omega);rw[ht]at hvb;have hz1:nz1 false a x b=if t.1=true then some (x+t.2.1) else none:=by rw[<- ht];unfold nz1;simp only[Bi,Ew]
   have hxr:=HCR.out x (C7 hx);have HX:=hid hx;have HB:=hid hb;have HZ1:=hid hz1;have HLay:=hid hLay;have HVB:=hid hvb;have HXR:=hid hxr;have b1:(0:Int)<=(i:Int):=by omega
   have b2:(i:Int)<(N:Int):=by omega
   have b3:(i:Int)<(N2:Int):=by omega
   have wi:IntKind.i64.wrap ((i:Int)+1)=(i:Int)+1:=by rw[Q0 _ ⟨by omega,by omega⟩]
   clear hx hb hrow hrowb hLay hcell hcell2 ht hge hvb hz1 hxr hN2 hi2;obtain⟨d,v,u⟩:=t;simp only[d3]at q4
   gi_wp2_with fail
   refine Nz.2 ?_;refine a0m [0,1,2,3,4] 7 (fun W'=>W'.cell? ⟨ba,0,none⟩=some (.string a)/\W'.cell? ⟨bb,0,none⟩=some (.slice (some ⟨g2,o2,none⟩) N2 k2)/\W'.cell? ⟨g2,o2+i,none⟩=some (.string b)) (by kernel_rfl) (by kernel_rfl) (by kernel_rfl) (by kernel_rfl) ⟨c1,c2,hc2⟩ ?_
   iterate 5
    refine⟨_,rfl,?_⟩;apply Exists.intro
    refine⟨.inl ⟨by rfl,?_⟩,?_⟩
    .rintro W' ⟨q1,q2,q3⟩;go_simp;try with_reducible rfl
    go_frame
   refine c0D (i:=5) (j:=9) (by kernel_rfl) (by rfl) (by rfl) (by rfl) (by rfl) ?_ ?_
   focus
    go_wp2_with fail;refine (q4 _ (HLay.out.call br0.drew)).out.mono ?_;rintro e w1 ⟨rfl,hb1⟩;have y1:=hid (show Below wr.heap.size wr w1 from br0.drew.trans hb1);have s0:=(y1.out.cell (a0e c1)).trans c1;have s1:=(y1.out.cell (a0e c2)).trans c2;have s2:=(y1.out.cell (a0e hc2)).trans hc2;clear hb1;go_wp2_with fail;refine⟨⟨s0,s1,s2⟩,?_⟩;refine b0e (is:=[6,7,8]) (g:=3) (by kernel_rfl) rfl ⟨s0,s1,s2⟩ (by kernel_rfl) ?_
    iterate 3
     refine⟨_,rfl,?_⟩;apply Exists.intro
     refine⟨.inl ⟨by rfl,?_⟩,?_⟩
     .rintro W' ⟨q1,q2,q3⟩;go_simp;try with_reducible rfl
     go_frame
    refine a0c (i:=9) (by kernel_rfl) (by rfl) (by rfl) ?_;go_wp2_with fail;have a1:=((Z3 w1.heap.size w1).alloc nr0 (.cells #[.bool false,.int .i64 0,.int .i64 0] 62));have bk:=Blk.new w1 #[.bool false,.int .i64 0,.int .i64 0] 62;obtain⟨dB,hdB⟩:=gn (w1.heap.size);have HDB:Hid (wr.heap.size<=dB):=by show wr.heap.size<=dB;rw[<- hdB];exact y1.out.size
    obtain⟨w2,hw2⟩:=gn (w1.alloc (.cells #[.bool false,.int .i64 0,.int .i64 0] 62));rw[hw2]at a1 bk |-;rw[hdB]at a1 bk |-;have BK:=hid bk;have y2:=hid (y1.out.trans (a1.mono HDB.out));clear s0 s1 s2 a1 bk hdB hw2;have s0:=(y2.out.cell (a0e c1)).trans c1;have s1:=(y2.out.cell (a0e c2)).trans c2;have s2:=(y2.out.cell (a0e hc2)).trans hc2;refine⟨⟨s0,s1,s2⟩,?_⟩;refine a0c (i:=10) (by kernel_rfl) (by rfl) (by rfl) ?_;have r0:w2.cell? ⟨dB,0,none⟩=some (.bool false):=BK.out.cell 0;have r1:w2.cell? ⟨dB,1,none⟩=some (.int .i64 0):=BK.out.cell 1;have r2:w2.cell? ⟨dB,2,none⟩=some (.int .i64 0):=BK.out.cell 2;have f0:=BK.out.free 0;have f1:=BK.out.free 1;have f2:=BK.out.free 2
   rotate_left
   focus
    go_wp2_with fail;have b0:Blk (wr.alloc (.cells #[.bool false,.int .i64 0,.int .i64 0] 62)).drew wr.heap.size #[.bool false,.int .i64 0,.int .i64 0] 62:=Blk.new wr #[.bool false,.int .i64 0,.int .i64 0] 62;have a0:Below wr.heap.size wr (wr.alloc (.cells #[.bool false,.int .i64 0,.int .i64 0] 62)).drew:=(br0.alloc nr0 _).drew;obtain⟨dB,hdB⟩:=gn (wr.heap.size);have HDB:Hid (wr.heap.size<=dB):=by show wr.heap.size<=dB;rw[<- hdB];exact J4 _
    obtain⟨w1,hw1⟩:=gn ((wr.alloc (.cells #[.bool false,.int .i64 0,.int .i64 0] 62)).drew);rw[hw1]at b0 a0 |-;rw[hdB]at b0 |-;have A0:=hid a0;have BB0:=hid b0;have s0:=(a0.cell (a0e c1)).trans c1;have s1:=(a0.cell (a0e c2)).trans c2;have s2:=(a0.cell (a0e hc2)).trans hc2;clear hw1 hdB a0 b0;refine⟨⟨s0,s1,s2⟩,?_⟩;refine a0c (i:=5) (by kernel_rfl) (by rfl) (by rfl) ?_;go_wp2_with fail;refine (q4 _ (HLay.out.call A0.out)).out.mono ?_;rintro e w2 ⟨rfl,hb2⟩;have y2:=hid (A0.out.trans (hb2.mono A0.out.size));have BK:=hid (BB0.out.call hb2);clear hb2 s0 s1 s2;have s0:=(y2.out.cell (a0e c1)).trans c1;have s1:=(y2.out.cell (a0e c2)).trans c2;have s2:=(y2.out.cell (a0e hc2)).trans hc2;go_wp2_with fail;refine⟨⟨s0,s1,s2⟩,?_⟩;refine b0e (is:=[6,7,8]) (g:=2) (by kernel_rfl) rfl ⟨s0,s1,s2⟩ (by kernel_rfl) ?_
    iterate 3
     refine⟨_,rfl,?_⟩;apply Exists.intro
     refine⟨.inl ⟨by rfl,?_⟩,?_⟩
     .rintro W' ⟨q1,q2,q3⟩;go_simp;try with_reducible rfl
     go_frame
    have r0:w2.cell? ⟨dB,0,none⟩=some (.bool false):=BK.out.cell 0;have r1:w2.cell? ⟨dB,1,none⟩=some (.int .i64 0):=BK.out.cell 1;have r2:w2.cell? ⟨dB,2,none⟩=some (.int .i64 0):=BK.out.cell 2;have f0:=BK.out.free 0;have f1:=BK.out.free 1;have f2:=BK.out.free 2;refine a0c (i:=10) (by kernel_rfl) (by rfl) (by rfl) ?_
   all_goals
    clear s0 s1 s2;go_wp2_with fail;have bk3:Blk (((w2.setCell ⟨dB,0,none⟩ (.bool d)).setCell ⟨dB,1,none⟩ (.int .i64 v)).setCell ⟨dB,2,none⟩ (.int .i64 u)) dB #[.bool d,.int .i64 v,.int .i64 u] 62:=by
     have:=((BK.out.set 0 (.bool d)).set 1 (.int .i64 v)).set 2 (.int .i64 u);simpa using this
    have y3:Below wr.heap.size wr (((w2.setCell ⟨dB,0,none⟩ (.bool d)).setCell ⟨dB,1,none⟩ (.int .i64 v)).setCell ⟨dB,2,none⟩ (.int .i64 u)):=
     have hge:wr.heap.size<=dB:=HDB.out
     ((y2.out.setCell hge _).setCell hge _).setCell hge _
    obtain⟨V,hV⟩:=gn (((w2.setCell ⟨dB,0,none⟩ (.bool d)).setCell ⟨dB,1,none⟩ (.int .i64 v)).setCell ⟨dB,2,none⟩ (.int .i64 u));rw[hV]at bk3 y3 |-;have s0:=(y3.cell (a0e c1)).trans c1;have s1:=(y3.cell (a0e c2)).trans c2;have s2:=(y3.cell (a0e hc2)).trans hc2;have BV:=hid bk3;have YV:=hid y3;clear hV bk3 y3 r0 r1 r2 f0 f1 f2;refine⟨⟨s0,s1,s2⟩,?_⟩;refine a0c (i:=11) (by kernel_rfl) (by rfl) (by rfl) ?_;go_wp2_with fail;refine⟨⟨s0,s1,s2⟩,?_⟩;refine H8 (by kernel_rfl) ?_ _;simp only[b0h];have e0:V.cell? ⟨dB,0,none⟩=some (.bool d):=BV.out.cell 0;have e1:V.cell? ⟨dB,1,none⟩=some (.int .i64 v):=BV.out.cell 1;have ew:IntKind.i64.wrap (x+v)=x+v:=by
     have h1:=HVB.out;have h2:=HXR.out;rw[Q0 _ ⟨by omega,by omega⟩]
    clear s0 s1 s2;have hJV:J pre V:=HJ.out pre wr V none hJ.out ⟨YV.out.os,YV.out.tape,YV.out.output,YV.out.size,fun k hk _=>YV.out.block k hk⟩ (fun r e=>by cases e);have hKV:Kp W V:=HKt.out _ _ _ hK.out (HKb.out _ _ YV.out);have HJV:=hid hJV;have HKV:=hid hKV;clear hJV hKV;cases d
    .gi_wp2_with fail
     refine⟨fun f hf=>(by cases hf),?_⟩
     gi_wp2_with fail
     refine Z6 (Kl rfl _ _ _) rfl ?_;exact⟨⟨_,rfl⟩,.inl ⟨pre,⟨hO.out,.inr ⟨x,b,by rw[HI.out];exact HX.out,by rw[HI.out];exact HB.out,HZ1.out⟩⟩,HJV.out⟩⟩
    .have hnx:m0U c a bs pre (((i:Nat):Int),x+v):=⟨x,b,by rw[HI.out];exact HX.out,by rw[HI.out];exact HB.out,by rw[HI.out],HZ1.out⟩;have HNX:=hid hnx;obtain⟨fn,tmps,assign,body,hy,hR⟩:=HY.out pre (((i:Nat):Int),x+v) V hnx HJV.out;dsimp only at hy;have HYR:=hid hR;clear hnx hR
     gi_wp2_with fail
     refine HYR.out.mono ?_;rintro e W3 (⟨rfl,hJ3,hk3⟩ | ⟨rfl,hJx3⟩)
     .have HJ3:=hid hJ3;have HK3:=hid (HKt.out _ _ _ HKV.out hk3);clear hJ3 hk3 hy
      gi_wp2_with fail
      go_roundw
      case rel=>exact⟨pre ++ [(((i:Nat):Int),x+v)],by rw[Z4,H7,HI.out];rfl,by rw[Z4,H7,HI.out];omega,hO.out.snoc HNX.out,HJ3,HK3⟩
      case measure=>simp[intOf]<;>omega
     .clear hy
      gi_wp2_with fail
      refine Z6 (Kl rfl _ _ _) rfl ?_;exact⟨⟨_,rfl⟩,.inr ⟨_,trivial,hJx3⟩⟩
  .obtain rfl:i=N:=by omega
   gi_wp2_with fail
   refine bodyPost_end (Kl rfl _ _ _) rfl ?_;exact⟨⟨_,rfl⟩,.inl ⟨pre,⟨hO.out,.inl (by rw[HI.out,HN.out])⟩,hJ.out⟩⟩
def u0w (w:World)(v:Value)(l:List ByteArray)(m:Int)(h:Row w v (d0k l))(hsz:∀ b∈l,b.size<=100000000):
 Calls Tryz.prog 79 #[v,.int .i64 m] w fun e w'=>e=.returned (.int .i64 (wdE l m))/\Below w.heap.size w w':=by
 obtain⟨a,c,rfl,h1,h2,h3⟩:=h.openS;obtain⟨n,hn⟩:=gn (l.length);unfold wdE;rw[hn]at h1 |-;by_cases hm:(n:Int)=m
 .rw[J2 hm];have H3:=hid h3;have HN:=hid hn;have HSZ:=hid hsz;have q0:((n:Int)==m)=true:=by rw[Dk];exact hm
  obtain⟨X,hX⟩:∃ X:Int,bsE l=X:=⟨_,rfl⟩;have HX:=hid hX;rw[hX];subst hm;clear h h3 hn hX hsz q0;go_enter Tryz.func79,Tryz.ntmps79;go_wp2_with fail
  go_loopw [14] (fun ii wr=>∃ i:Nat,ii=.int .i64 i/\i<=n/\Hid (∀ (j:Nat) (b:ByteArray),j<i->l[j]?=some b->c0u b=0)/\Hid (Below w.heap.size w wr)) (fun ii wr=>n-(intOf ii).toNat)
  case atStart=>exact⟨0,rfl,S4 _,fun j b hj=>absurd hj (by omega),Z3 _ _⟩
  case round=>
   obtain⟨i,rfl,hi,hI,hB⟩:=hrel;by_cases hlt:i<n
   .obtain⟨x,hx⟩:∃ x,l[i]?=some x:=⟨_,J0 (by rw[HN.out];exact hlt)⟩;obtain⟨g,o,rfl,hg,hc⟩:=H3.out i x hx;have d0:=(hB.out.cell (p:=⟨g,o+i,none⟩) hg).trans hc;have b1:(0:Int)<=(i:Int):=by omega
    have b2:(i:Int)<(n:Int):=by omega
    have wi:IntKind.i64.wrap ((i:Int)+1)=(i:Int)+1:=by rw[Q0 _ ⟨by omega,by omega⟩]
    have PN:=fun W=>hid (m0k W x (HSZ.out x (C7 hx)))
    have hce:=u0N x;obtain⟨y,hy⟩:=gn (j0s x);rw[hy]at PN hce;have HXX:=hid hx;have HC:=hid hce;have hdrop:l.drop i=x::l.drop (i+1):=by
     have hil:i<l.length:=by rw[HN.out];exact hlt
     rw[H9 hil];have:=J0 hil;rw[hx]at this;rw[J9 this]
    have HD:=hid hdrop;clear hx hy hc hdrop hce;by_cases hy0:y=0
    focus
     subst hy0;by_cases hl:256<x.size
     focus
      have q2:decide ((256:Int)<(x.size:Int))=true:=by simp;omega
      have HE:Hid (X=4):=by
       show X=4
       have e:c0u x=4:=by rw[HC.out,U0 (by simp),J2 hl]
       rw[<- HX.out,i0b hI.out,HD.out,bsE,e,J2 (by decide)]
      clear hl
     rotate_left
     .have q2:decide ((256:Int)<(x.size:Int))=false:=by simp;omega
      have HE:Hid (c0u x=0):=by
       show c0u x=0
       rw[HC.out,U0 (by simp),U0 hl]
      clear hl;go_wp2_with fail;refine (PN _).out.mono ?_;rintro e w1 ⟨rfl,hb1⟩;have y1:=hid (a0a hB.out hb1);clear hb1;go_wp2_with fail;go_roundw
      case rel=>exact⟨i+1,rfl,by omega,fun j b hj hjb=>by
       by_cases e:j=i
       .subst e;rw[HXX.out]at hjb;cases hjb;exact HE.out
       .exact hI.out j b (by omega) hjb,y1.out⟩
      case measure=>simp[intOf]<;>omega
    rotate_left
    focus
     have q3:(y==0)=false:=by rw[U4];exact hy0
     have HE:Hid (X=y):=by
      show X=y
      have e:c0u x=y:=by rw[HC.out,J2 hy0]
      rw[<- HX.out,i0b hI.out,HD.out,bsE,e,J2 hy0]
     clear hy0
    all_goals
     go_wp2_with fail;refine (PN _).out.mono ?_;rintro e w1 ⟨rfl,hb1⟩;have y1:=hid (a0a hB.out hb1);clear hb1;go_wp2_with fail;go_ret
     exact⟨by rw[HE.out];rfl,y1.out⟩
   .obtain rfl:i=n:=by omega
    have HE:Hid (X=0):=by
     show X=0
     have hd:l.drop i = []:=Ga (by rw[HN.out];exact J4 _);rw[<- HX.out,i0b hI.out,hd];rfl
    go_wp2_with fail;go_ret
    exact⟨by rw[HE.out];rfl,hB.out⟩
 .rw[U0 hm];have q0:((n:Int)==m)=false:=by rw[U4];exact hm
  clear h h3 hn hsz hm;go_enter Tryz.func79,Tryz.ntmps79;go_wp2_with fail;go_ret
  exact⟨rfl,Z3 _ _⟩
end
section
open Go.RowKit
open Go.Lib (decDigits nDigits)
def glE (a:ByteArray)(n:Int)(m:Int):Int:=if gPE a≠0 then gPE a else if n<0\/m<n then 2 else 0
def glB (a:ByteArray)(n:Int)(two:Bool):ByteArray:=if glE a n 256=0 then shB (gL (bN (cW a)) (bN (qD a)) two n.toNat) (2 ^ n.toNat) else ⟨#[]⟩
def x0v (w:World)(a:ByteArray)(n:Int)(two:Bool)(ha:a.size<=100000)(hL:Lay w):
 Calls Tryz.prog 142 #[.string a,.int .i64 n,.bool two] w fun e w'=>e=.returned (.tuple #[.string (glB a n two),.int .i64 (glE a n 256)])/\Below w.heap.size w w':=by
 by_cases he:gPE a=0
 focus
  by_cases hn:n<0\/256<n
  focus
   have e1:glE a n 256=2:=by unfold glE;rw[U0 (by rw[he];simp),J2 hn]
   have e2:glB a n two=⟨#[]⟩:=by unfold glB;rw[U0 (by rw[e1];decide)]
   rw[e1,e2];have HA:=hid (d0u w a ha hL);rw[J2 he,J2 he,he]at HA;obtain⟨b1,k1⟩:=gn (decide (n<0));obtain⟨b2,k2⟩:=gn (decide (256<n));have k3:(b1 || b2)=true:=by rw[<- k1,<- k2];simpa using hn
   clear ha hL he hn e1 e2;cases b1
   focus
    obtain rfl:b2=true:=by simpa using k3
    clear k3
   rotate_left
   focus
    clear k2 k3
  rotate_left 2
  .obtain⟨m,rfl⟩:∃ m:Nat,n=(m:Nat):=⟨n.toNat,by omega⟩;have e1:glE a (m:Nat) 256=0:=by unfold glE;rw[U0 (by rw[he];simp),U0 hn]
   have hND:=(c0h he).2;obtain⟨l1,l2⟩:=x0h hND two m;have:=a1c w a m _ _ two ha he (by omega) rfl rfl hND hL l2;rw[l1]at this;unfold glB;rw[J2 e1,e1];exact this
 rotate_left 2
 focus
  have e1:glE a n 256=gPE a:=by unfold glE;rw[J2 he]
  have e2:glB a n two=⟨#[]⟩:=by unfold glB;rw[U0 (by rw[e1];exact he)]
  rw[e1,e2];have HA:=hid (d0u w a ha hL);rw[U0 he,U0 he]at HA;obtain⟨x,hx⟩:=gn (gPE a);rw[hx]at HA he |-;have x0:(x != 0)=true:=by simpa using he
  clear ha hL he hx e1 e2
 all_goals
  go_enter Tryz.func142,Tryz.ntmps142;go_wp2_with fail;refine HA.out.mono ?_;rintro e w1 ⟨rfl,hb1⟩;have B1:=hid hb1;clear hb1 HA;go_wp2_with fail;go_ret2
  exact⟨rfl,B1.out⟩
def o0J (w:World)(a:ByteArray)(n:Int)(ha:a.size<=100000)(hL:Lay w):
 Calls Tryz.prog 88 #[.string a,.int .i64 n] w fun e w'=>e=.returned (.tuple #[.string (glB a n false),.int .i64 (glE a n 256)])/\Below w.heap.size w w':=by
 have H:=hid (x0v w a n false ha hL);obtain⟨o,ho⟩:=gn (glB a n false);obtain⟨x,hx⟩:=gn (glE a n 256);rw[ho,hx]at H |-;clear ha hL ho hx;go_enter Tryz.func88,Tryz.ntmps88;go_wp2_with fail;refine H.out.mono ?_;rintro e w1 ⟨rfl,hb1⟩;have B1:=hid hb1;clear hb1;go_wp2_with fail;go_ret2
 exact⟨rfl,B1.out⟩
structure Few (ws:List Nat):Prop where
 len:ws.length<=64
 dig:∀ x∈ws,nDigits x<=300
 pos:0<ws.sum
section
variable {ws : List Nat} {m : Nat} (h : Few ws) (hm : m <= 256)
include h
include hm
omit hm
end
def b1L (w:World)(v:Value)(q:Rat)(h:IsQ .u64 w v q)(h0:q≠0):
 Calls Tryz.prog 158 #[v] w fun e w'=>k0T .u64 q⁻¹ e w'/\Below w.heap.size w w':=by
 obtain⟨N,D,rfl,hn,hd⟩:=h.ex;obtain⟨m,hm⟩:=gn (decide (q.num<0));have HN:=hid hn;have HD:=hid hd;have HM:=hid hm;have H0:=hid h0;rw[hm];obtain⟨a1,c1,rfl,_⟩:=hn.openI;obtain⟨a2,c2,rfl,_⟩:=hd.openI;clear hn hd hm h0 h;go_enter Tryz.func158,Tryz.ntmps158;go_wp2_with fail;obtain⟨p1,p2,p3⟩:=g0U H0.out;have B:=((Z3 w.heap.size w).alloc nr0 (.cells #[.bool m,.slice a1 (limbs q.num.natAbs).length c1,.slice a2 (limbs q.den).length c2] 126)).alloc (by simp) (.cells #[.bool m,.slice a2 (limbs q.den).length c2,.slice a1 (limbs q.num.natAbs).length c1] 126);refine Z6 (v:=.agg #[.bool m,.slice a2 (limbs q.den).length c2,.slice a1 (limbs q.num.natAbs).length c1]) (by simp[results,Tryz.results158,go_sem]) rfl ⟨⟨_,rfl,⟨_,_,rfl.trans ?_,by rw[p2];exact HD.out.call B,by rw[p3];exact HN.out.call B⟩⟩,B⟩;rw[p1,HM.out]
def sgQ (q:Rat):Int:=if q.num=0 then 0 else if q.num<0 then -1 else 1
def t0b {q:Rat}(h:q.num=0):sgQ q=0:=J2 h
def w0j {q:Rat}(h:¬ q.num=0)(h2:q.num<0):sgQ q = -1:=by rw[sgQ,U0 h,J2 h2]
def w0i {q:Rat}(h:¬ q.num=0)(h2:¬ q.num<0):sgQ q=1:=by rw[sgQ,U0 h,U0 h2]
def r0E (w:World)(v:Value)(q:Rat)(h:IsQ .u64 w v q):
 Calls Tryz.prog 157 #[v] w fun e w'=>e=.returned (.int .i64 (sgQ q))/\Below w.heap.size w w':=by
 obtain⟨N,D,rfl,hn,hd⟩:=h.ex;obtain⟨m,hm⟩:=gn (decide (q.num<0));have HN:=hid hn;have HM:=hid hm;rw[hm];obtain⟨a1,c1,rfl,_⟩:=hn.openI;obtain⟨a2,c2,rfl,_⟩:=hd.openI;obtain⟨k1,hk1⟩:=gn ((limbs q.num.natAbs).length);obtain⟨k2,hk2⟩:=gn ((limbs q.den).length);rw[hk1]at HN |-;rw[hk2];have b0:=hid ((Z3 w.heap.size w).alloc nr0 (.cells #[.bool m,.slice a1 k1 c1,.slice a2 k2 c2] 126));have N0:=hid (HN.out.call b0.out);clear hn hd hm h hk1 hk2;go_enter Tryz.func157,Tryz.ntmps157;go_wp2_with fail;refine (f0w _ _ _ N0.out).mono ?_;rintro e w1 ⟨rfl,rfl⟩;by_cases hz:q.num=0
 .have h1:isZ q.num.natAbs=true:=r0c.2 (by omega);rw[h1];have HZ:=hid hz;clear h1 hz;go_wp2_with fail;go_ret
  exact⟨a0G (t0b HZ.out).symm,b0.out⟩
 .have h1:isZ q.num.natAbs=false:=M6 (by omega);rw[h1];have HZ:=hid hz;clear h1 hz;cases m
  .go_wp2_with fail;go_ret
   exact⟨a0G (w0i HZ.out (Gk HM.out)).symm,b0.out⟩
  .go_wp2_with fail;go_ret
   exact⟨a0G (w0j HZ.out (M9 HM.out)).symm,b0.out⟩
def o0u {q:Rat}{m:Bool}(hm:decide (q.num<0)=m):decide ((-q).num<0)=(!m && !isZ q.num.natAbs)/\(-q).num.natAbs=q.num.natAbs/\(-q).den=q.den:=by
 refine⟨?_,by rw[Ir,Ij],Md q⟩;rw[Ir,<- hm,Ay];unfold isZ;simp only[F9,Bv,K6,D9];omega
def b1J (w:World)(v:Value)(q:Rat)(h:IsQ .u64 w v q):
 Calls Tryz.prog 229 #[v] w fun e w'=>k0T .u64 (-q) e w'/\Below w.heap.size w w':=by
 obtain⟨N,D,rfl,hn,hd⟩:=h.ex;obtain⟨m,hm⟩:=gn (decide (q.num<0));have HN:=hid hn;have HD:=hid hd;have HP:=hid (o0u hm);rw[hm];obtain⟨a1,c1,rfl,_⟩:=hn.openI;obtain⟨a2,c2,rfl,_⟩:=hd.openI;obtain⟨k1,hk1⟩:=gn ((limbs q.num.natAbs).length);obtain⟨k2,hk2⟩:=gn ((limbs q.den).length);rw[hk1]at HN |-;rw[hk2]at HD |-;have HZ:=fun W h=>hid (f0w W (.slice a1 k1 c1) q.num.natAbs h)
 obtain⟨z,hz⟩:=gn (isZ q.num.natAbs);rw[hz]at HP HZ;clear hn hd hm h hk1 hk2 hz;have b1:=hid (((Z3 w.heap.size w).alloc nr0 (.cells #[.bool m,.slice a1 k1 c1,.slice a2 k2 c2] 126)).alloc (by simp) (.cells #[.bool false,.slice none 0 0,.slice none 0 0] 126));cases m
 .go_enter Tryz.func229,Tryz.ntmps229;go_wp2_with fail;refine g0z 14 (by kernel_rfl) (by kernel_rfl) ?_;simp only[Fy,Gq,Ab,A9]
  iterate 6 still_step
  still_call ((HZ _ (HN.out.call b1.out.drew)).out.mono fun _ _ h=>⟨h.1,h.2.symm⟩)
  iterate 7 still_step
  refine wpStill_nil ?_;go_wp2_with fail;have b2:=(((Z3 w.heap.size w).alloc nr0 (.cells #[.bool false,.slice a1 k1 c1,.slice a2 k2 c2] 126)).alloc (by simp) (.cells #[.bool (!z),.slice a1 k1 c1,.slice a2 k2 c2] 126)).drew;obtain⟨p1,p2,p3⟩:=HP.out;refine Z6 (v:=.agg #[.bool (!z),.slice a1 k1 c1,.slice a2 k2 c2]) (by simp[results,Tryz.results229,go_sem]) rfl ⟨⟨_,rfl,⟨.slice a1 k1 c1,.slice a2 k2 c2,?_,?_,?_⟩⟩,b2⟩
  .rw[p1];rfl
  .rw[p2];exact HN.out.call b2
  .rw[p3];exact HD.out.call b2
 .go_enter Tryz.func229,Tryz.ntmps229;go_wp2_with fail;refine g0z 14 (by kernel_rfl) (by kernel_rfl) ?_;simp only[Fy,Gq,Ab,A9]
  iterate 14 still_step
  refine wpStill_nil ?_;go_wp2_with fail;have b2:=(((Z3 w.heap.size w).alloc nr0 (.cells #[.bool true,.slice a1 k1 c1,.slice a2 k2 c2] 126)).alloc (by simp) (.cells #[.bool false,.slice a1 k1 c1,.slice a2 k2 c2] 126)).drew;obtain⟨p1,p2,p3⟩:=HP.out;refine Z6 (v:=.agg #[.bool false,.slice a1 k1 c1,.slice a2 k2 c2]) (by simp[results,Tryz.results229,go_sem]) rfl ⟨⟨_,rfl,⟨.slice a1 k1 c1,.slice a2 k2 c2,?_,?_,?_⟩⟩,b2⟩
  .rw[p1];rfl
  .rw[p2];exact HN.out.call b2
  .rw[p3];exact HD.out.call b2
end
section
open Go.RowKit
def cmF (p q:Rat):Int:=if sgQ p≠sgQ q then sgQ p-sgQ q else if p.num<0 then -b0d (p.num.natAbs*q.den) (q.num.natAbs*p.den) else b0d (p.num.natAbs*q.den) (q.num.natAbs*p.den)
def j0O {q:Rat}{d:Nat}(hd:0<d):sgQ q=p0g (q.num*(d:Int)):=by
 have hd':(0:Int)<(d:Int):=by omega
 unfold sgQ p0g;by_cases h0:q.num=0
 .rw[J2 h0,h0,Int.zero_mul,J2 rfl]
 .rw[U0 h0];have hne:q.num*(d:Int)≠0:=Int.mul_ne_zero h0 (by omega);rw[U0 hne];by_cases h1:q.num<0
  .rw[J2 h1,J2 (Int.mul_neg_of_neg_of_pos h1 hd')]
  .rw[U0 h1,U0 (by have:=Int.mul_pos (a:=q.num) (b:=(d:Int)) (by omega) hd';omega)]
def s0h {P Q:Int}{a b:Nat}(ha:P.natAbs=a)(hb:Q.natAbs=b):
 max (-1) (min 1 (if p0g P≠p0g Q then p0g P-p0g Q else if P<0 then -b0d a b else b0d a b))=p0g (P-Q):=by
 unfold p0g b0d
 split<;>(repeat' split)<;>omega
def Jq:=@Int.natAbs_natCast
def s0g (p q:Rat):max (-1) (min 1 (cmF p q))=m0Q p q:=by
 have e1:m0Q p q=p0g (p.num*q.den-q.num*p.den):=by
  have h:=w0O (a:=p.num) (b:=p.den) (c:=q.num) (d:=q.den) p.den_nz q.den_nz;rw[Kj,Kj]at h;exact h
 have h1:=j0O (q:=p) (d:=q.den) q.den_pos;have h2:=j0O (q:=q) (d:=p.den) p.den_pos;have hP:(p.num*(q.den:Int)).natAbs=p.num.natAbs*q.den:=by rw[Int.natAbs_mul,Jq]
 have hQ:(q.num*(p.den:Int)).natAbs=q.num.natAbs*p.den:=by rw[Int.natAbs_mul,Jq]
 have hs:p.num<0↔p.num*(q.den:Int)<0:=by
  have hd:(0:Int)<(q.den:Int):=by have:=q.den_pos;omega
  constructor
  .intro h;exact Int.mul_neg_of_neg_of_pos h hd
  .intro h;rcases Fa p.num 0 with h' | h'
   .exact h'
   .exact absurd (Int.mul_nonneg h' (Int.le_of_lt hd)) (by omega)
 rw[e1,<- s0h hP hQ,<- h1,<- h2];unfold cmF;simp only[hs]
open Go.Lib (decDigits nDigits)
def mnB (s t:ByteArray):ByteArray:=if cmE s t=0 then (if 0<cmB s t then t else s) else ⟨#[]⟩
def k0K (s t:ByteArray):cmB s t = -1\/cmB s t=0\/cmB s t=1:=by
 unfold cmB m0Q s0G
 split
 .split
  .simp
  .split<;>simp
 .simp
section
variable {N D : Nat} (h : N < D)
include h
omit h in
omit h in
omit h in
omit h in
end
def f0i {N D:Nat}(n:Nat){v:Int}(hv:v<0):gV N D false n v=0:=by rw[r0q,U0 (by omega)]
open Go.Shelf
def wB (R:ByteArray)(s:ByteArray):ByteArray:=if qE s=0 then R else ⟨#[]⟩
def wE (x:Int)(s:ByteArray):Int:=if qE s=0 then x else qE s
def v0t {w:World}{v:Value}{s:ByteArray}(hq:qE s=0)(h:IsF w v (iM (cW s)) (bN (iD (cW s))) (bN (qD s))):IsQ .u64 w v (vQ s):=by
 obtain⟨N,D,rfl,h1,h2⟩:=h;obtain⟨e1,e2,e3⟩:=i0e hq;exact⟨N,D,by rw[e1],by rw[e2];exact h1,by rw[e3];exact h2⟩
def m0M (w:World)(s:ByteArray)(F:Nat)(cs:Array Value)(R:ByteArray)(x:Int)(hs:s.size<=1000000)(hL:Lay w)
 (hen:∀ args w,(callFunc F args).run Tryz.prog w=.ok (.enter F args) w)
 (hF:∀ W v,qE s=0->Below w.heap.size w W->IsQ .u64 W v (vQ s)->Lay W->Calls Tryz.prog F (#[v]++cs) W fun e w'=>e=.returned (.tuple #[.string R,.int .i64 x])/\Below W.heap.size W w'):
 Calls Tryz.prog 155 #[.string s,.func (.func F) #[] cs] w fun e w'=>e=.returned (.tuple #[.string (wB R s),.int .i64 (wE x s)])/\Below w.heap.size w w':=by
 have HP:=hid (l0P w s hs hL);have HL:=hid hL;have HF:=hid hF;clear hF hs hL;by_cases h1:qE s=0
 .have e1:wB R s=R:=J2 h1;have e2:wE x s=x:=J2 h1;rw[e1,e2];have HQ:=hid h1;rw[h1]at HP;clear h1 e1 e2;go_enter Tryz.func155,Tryz.ntmps155;go_wp2_with fail;refine HP.out.mono ?_;rintro e w1 ⟨⟨v,rfl,hv,-⟩,hb1⟩;have hq:=v0t HQ.out (hv rfl);have y1:=hid hb1;obtain⟨N,D,hvv,hN,hD⟩:=hv rfl;subst hvv;obtain⟨a,c,rfl,_⟩:=hN.openI;obtain⟨a',c',rfl,_⟩:=hD.openI;obtain⟨k,hk⟩:=gn ((limbs (bN (iD (cW s)))).length);obtain⟨k',hk'⟩:=gn ((limbs (bN (qD s))).length);obtain⟨m,hm⟩:=gn (iM (cW s));rw[hk,hk',hm]at hq;rw[hk,hk',hm];have X2:=hid (Blk.new w1 #[.bool m,.slice a k c,.slice a' k' c'] 126);have b2:=hid ((Z3 w1.heap.size w1).alloc nr0 (.cells #[.bool m,.slice a k c,.slice a' k' c'] 126));have y2:=hid (a0a y1.out b2.out);have Q2:=hid (hq.call b2.out);have r0:=X2.out.cell 0;have r1:=X2.out.cell 1;have r2:=X2.out.cell 2;simp at r0 r1 r2;clear hb1 hv hN hD hk hk' hm hq b2;go_wp2_with fail;refine (HF.out _ _ HQ.out y2.out Q2.out (HL.out.call y2.out)).mono ?_;rintro e w3 ⟨rfl,hb3⟩;have y3:=hid (a0a y2.out hb3);clear hb3;go_wp2_with fail;go_ret2
  exact⟨rfl,y3.out⟩
 .have e1:wB R s=⟨#[]⟩:=U0 h1;have e2:wE x s=qE s:=U0 h1;rw[e1,e2];obtain⟨y,hy⟩:=gn (qE s);rw[hy]at HP h1 |-;have q1:(y != 0)=true:=by simpa using h1
  have H1:=hid h1;clear e1 e2 hy h1;go_enter Tryz.func155,Tryz.ntmps155;go_wp2_with fail;refine HP.out.mono ?_;rintro e w1 ⟨⟨v,rfl,-,hv⟩,hb1⟩;have hv':=hv H1.out;subst hv';have y1:=hid hb1;have y2:=hid (y1.out.alloc y1.out.size (.cells #[.bool false,.slice none 0 0,.slice none 0 0] 126));clear hb1 hv;go_wp2_with fail;go_ret2
  exact⟨rfl,y2.out⟩
def tB (R:ByteArray)(s t:ByteArray):ByteArray:=wB (wB R t) s
def tE (x:Int)(s t:ByteArray):Int:=wE (wE x t) s
def t0A (w:World)(v u:Value)(p q:Rat)(F g1 g2:Nat)(R:ByteArray)(x:Int)(hv:IsQ .u64 w v p)(hu:IsQ .u64 w u q)(hL:Lay w)
 (hen:∀ args w,(callFunc F args).run Tryz.prog w=.ok (.enter F args) w)
 (c1:w.cell? ⟨g1,0,none⟩=some (.func (.func F) #[] #[])) (m:Bool) (a a':Option Addr) (k c k' c':Nat) (hv0:v=.agg #[.bool m,.slice a k c,.slice a' k' c'])
 (c2:Blk w g2 #[.bool m,.slice a k c,.slice a' k' c'] 126)
 (hF:∀ W v u,IsQ .u64 W v p->IsQ .u64 W u q->Lay W->Calls Tryz.prog F #[v,u] W fun e w'=>e=.returned (.tuple #[.string R,.int .i64 x])/\Below W.heap.size W w'):
 Calls Tryz.prog 217 #[u,.pointer (some ⟨g1,0,none⟩),.pointer (some ⟨g2,0,none⟩)] w fun e w'=>e=.returned (.tuple #[.string R,.int .i64 x])/\Below w.heap.size w w':=by
 have HF:=hid hF;have HL:=hid hL;obtain⟨N,D,rfl,hN,hD⟩:=hu.ex;obtain⟨a1,d1,rfl,_⟩:=hN.openI;obtain⟨a2,d2,rfl,_⟩:=hD.openI;obtain⟨k1,hk1⟩:=gn ((limbs q.num.natAbs).length);obtain⟨k2,hk2⟩:=gn ((limbs q.den).length);obtain⟨mu,hmu⟩:=gn (decide (q.num<0));rw[hk1,hk2,hmu]at hu;rw[hk1,hk2,hmu];subst hv0;have X2:=hid (Blk.new w #[.bool mu,.slice a1 k1 d1,.slice a2 k2 d2] 126);have b2:=hid ((Z3 w.heap.size w).alloc nr0 (.cells #[.bool mu,.slice a1 k1 d1,.slice a2 k2 d2] 126));have V2:=hid (hv.call b2.out);have U2:=hid (hu.call b2.out);have C1:=(b2.out.cell (a0e c1)).trans c1;have C2:=hid (c2.call b2.out);have r0:=X2.out.cell 0;have r1:=X2.out.cell 1;have r2:=X2.out.cell 2;have s0:=C2.out.cell 0;have s1:=C2.out.cell 1;have s2:=C2.out.cell 2;simp at r0 r1 r2 s0 s1 s2;clear hk1 hk2 hmu hN hD hv hu c1 c2 hF hL;go_enter Tryz.func217,Tryz.ntmps217;go_wp2_with fail;refine (HF.out _ _ _ V2.out U2.out (HL.out.call b2.out)).mono ?_;rintro e w3 ⟨rfl,hb3⟩;have y3:=hid (a0a b2.out hb3);clear hb3;go_wp2_with fail;go_ret2
 exact⟨rfl,y3.out⟩
def w0E (w:World)(v:Value)(t:ByteArray)(p:Rat)(F g1 g2:Nat)(R:ByteArray)(x:Int)(ht:t.size<=1000000)(hv:IsQ .u64 w v p)(hL:Lay w)
 (hen:∀ args w,(callFunc F args).run Tryz.prog w=.ok (.enter F args) w)
 (c1:w.cell? ⟨g1,0,none⟩=some (.string t)) (c2:w.cell? ⟨g2,0,none⟩=some (.func (.func F) #[] #[]))
 (hF:∀ W v u,qE t=0->IsQ .u64 W v p->IsQ .u64 W u (vQ t)->Lay W->Calls Tryz.prog F #[v,u] W fun e w'=>e=.returned (.tuple #[.string R,.int .i64 x])/\Below W.heap.size W w'):
 Calls Tryz.prog 216 #[v,.pointer (some ⟨g1,0,none⟩),.pointer (some ⟨g2,0,none⟩)] w fun e w'=>e=.returned (.tuple #[.string (wB R t),.int .i64 (wE x t)])/\Below w.heap.size w w':=by
 have HF:=hid hF;have HL:=hid hL;have HEN:=hid hen;obtain⟨N,D,rfl,hN,hD⟩:=hv.ex;obtain⟨a1,d1,rfl,_⟩:=hN.openI;obtain⟨a2,d2,rfl,_⟩:=hD.openI;obtain⟨k1,hk1⟩:=gn ((limbs p.num.natAbs).length);obtain⟨k2,hk2⟩:=gn ((limbs p.den).length);obtain⟨mu,hmu⟩:=gn (decide (p.num<0));rw[hk1,hk2,hmu]at hv;rw[hk1,hk2,hmu];have X2:=hid (Blk.new w #[.bool mu,.slice a1 k1 d1,.slice a2 k2 d2] 126);have b2:=hid ((Z3 w.heap.size w).alloc nr0 (.cells #[.bool mu,.slice a1 k1 d1,.slice a2 k2 d2] 126));have V2:=hid (hv.call b2.out);have C1:=(b2.out.cell (a0e c1)).trans c1;have C2:=hid ((b2.out.cell (a0e c2)).trans c2);have L2:=hid (HL.out.call b2.out);obtain⟨w2,hw2⟩:=gn (w.alloc (.cells #[.bool mu,.slice a1 k1 d1,.slice a2 k2 d2] 126));obtain⟨g3,hg3⟩:=gn (w.heap.size)
 have W2:=hid (m0M w2 t 217 #[.pointer (some ⟨g2,0,none⟩),.pointer (some ⟨g3,0,none⟩)] R x ht (hw2 ▸ L2.out) (Ch Tryz.func217 (by kernel_rfl) rfl)
  (fun W u hq hb hu hLW=>by
   subst hw2;subst hg3;have hVW:=V2.out.call hb;have hX:=X2.out.call hb;have hC:=(hb.cell (a0e C2.out)).trans C2.out;exact t0A W _ u p (vQ t) F g2 w.heap.size R x hVW hu hLW HEN.out hC mu a1 a2 k1 d1 k2 d2 rfl hX (fun W v u h1 h2 h3=>HF.out W v u hq h1 h2 h3)))
 rw[hw2]at C1;clear hk1 hk2 hmu hN hD hv c1 c2 hF hL hen;go_enter Tryz.func216,Tryz.ntmps216;go_wp2_with fail;refine W2.out.mono ?_;rintro e w3 ⟨rfl,hb3⟩;have y3:=hid (a0a b2.out (hw2 ▸ hb3));clear hb3;go_wp2_with fail;go_ret2
 exact⟨rfl,y3.out⟩
end
section
open Go.RowKit
def y0C (b:Nat)(m1 m2:Bool)(n1 d1 n2 d2:Value)(w:World):Prop:=
 w.cell? ⟨b,0,none⟩=some (.bool m1)/\w.cell? ⟨b,1,none⟩=some n1/\w.cell? ⟨b,2,none⟩=some d1/\w.cell? ⟨b+1,0,none⟩=some (.bool m2)/\w.cell? ⟨b+1,1,none⟩=some n2/\w.cell? ⟨b+1,2,none⟩=some d2
structure Three (w W:World)(m1 m2:Bool)(n1 d1 n2 d2:Value):Prop where
 below:Below w.heap.size w W
 size:W.heap.size=w.heap.size+3
 b0:Blk W w.heap.size #[.bool m1,n1,d1] 126
 b1:Blk W (w.heap.size+1) #[.bool m2,n2,d2] 126
 b2:Blk W (w.heap.size+1+1) #[.bool false,.slice none 0 0,.slice none 0 0] 126
theorem Three.mk' {w W:World}{m1 m2:Bool}{n1 d1 n2 d2:Value}(h:((w.alloc (.cells #[.bool m1,n1,d1] 126)).alloc (.cells #[.bool m2,n2,d2] 126)).alloc (.cells #[.bool false,.slice none 0 0,.slice none 0 0] 126)=W):Three w W m1 m2 n1 d1 n2 d2:=by
 subst h;exact⟨((br0.alloc nr0 _).alloc (by simp) _).alloc (by simp;omega) _,by simp,((Blk.new w _ _).alloc _).alloc _,(Blk.made (w.alloc _) _ _ (by simp)).alloc _,Blk.made ((w.alloc _).alloc _) _ _ (by simp)⟩
theorem Three.cells {w W V:World}{m1 m2:Bool}{n1 d1 n2 d2:Value}(h:Three w W m1 m2 n1 d1 n2 d2)(hb:Below W.heap.size W V):y0C w.heap.size m1 m2 n1 d1 n2 d2 V:=
 have y0:=h.b0.call hb;have y1:=h.b1.call hb
 ⟨y0.cell 0,y0.cell 1,y0.cell 2,y1.cell 0,y1.cell 1,y1.cell 2⟩
theorem Three.stored {w W V:World}{m1 m2:Bool}{n1 d1 n2 d2:Value}(h:Three w W m1 m2 n1 d1 n2 d2)(hb:Below W.heap.size W V)(x y z:Value):y0C w.heap.size m1 m2 n1 d1 n2 d2 (((V.setCell ⟨w.heap.size+1+1,0,none⟩ x).setCell ⟨w.heap.size+1+1,1,none⟩ y).setCell ⟨w.heap.size+1+1,2,none⟩ z):=
 have y0:=((((h.b0.call hb).other (a:=⟨w.heap.size+1+1,0,none⟩) (by simp;omega) x).other (a:=⟨w.heap.size+1+1,1,none⟩) (by simp;omega) y).other (a:=⟨w.heap.size+1+1,2,none⟩) (by simp;omega) z);have y1:=((((h.b1.call hb).other (a:=⟨w.heap.size+1+1,0,none⟩) (by simp) x).other (a:=⟨w.heap.size+1+1,1,none⟩) (by simp) y).other (a:=⟨w.heap.size+1+1,2,none⟩) (by simp) z)
 ⟨y0.cell 0,y0.cell 1,y0.cell 2,y1.cell 0,y1.cell 1,y1.cell 2⟩
def b1K (w:World)(v u:Value)(p q:Rat)(hp:IsQ .u64 w v p)(hq:IsQ .u64 w u q)
 (h1:(limbs p.num.natAbs).length<=100000) (h2:(limbs p.den).length<=100000) (h3:(limbs q.num.natAbs).length<=100000) (h4:(limbs q.den).length<=100000):
 Calls Tryz.prog 145 #[v,u] w fun e w'=>k0T .u64 (p*q) e w'/\Below w.heap.size w w':=by
 have hq0:=i0w p q;obtain⟨Q,hQ⟩:=gn (p*q);rw[hQ]at hq0 |-;have hD:=hid (Dr p.den_pos q.den_pos);obtain⟨N1,D1,rfl,hn1,hd1⟩:=hp.ex;obtain⟨N2,D2,rfl,hn2,hd2⟩:=hq.ex;clear hp hq hQ;generalize decide (p.num<0)=m1 at *
 generalize decide (q.num<0)=m2 at *
 generalize p.num.natAbs=n1 at *
 generalize q.num.natAbs=n2 at *
 generalize p.den=d1 at *
 generalize q.den=d2 at *
 have HQ:=hid hq0;clear hq0;have HN1:=hid hn1;have HD1:=hid hd1;have HN2:=hid hn2;have HD2:=hid hd2;have L1:=hid (O0 (d0q h1 h3) (show 100000+100000<=1000000 by omega));have L2:=hid (O0 (d0q h2 h4) (show 100000+100000<=1000000 by omega));have H1:=hid (O0 h1 (show 100000<=1000000 by omega));have H2:=hid (O0 h2 (show 100000<=1000000 by omega));have H3:=hid (O0 h3 (show 100000<=1000000 by omega));have H4:=hid (O0 h4 (show 100000<=1000000 by omega));clear h1 h2 h3 h4;obtain⟨a1,c1,rfl,_⟩:=hn1.openI;obtain⟨a2,c2,rfl,_⟩:=hd1.openI;obtain⟨a3,c3,rfl,_⟩:=hn2.openI;obtain⟨a4,c4,rfl,_⟩:=hd2.openI;clear hn1 hd1 hn2 hd2;go_enter Tryz.func145,Tryz.ntmps145;go_wp2_with fail;obtain⟨W,hW⟩:=gn (((w.alloc (.cells #[.bool m1,.slice a1 (limbs n1).length c1,.slice a2 (limbs d1).length c2] 126)).alloc (.cells #[.bool m2,.slice a3 (limbs n2).length c3,.slice a4 (limbs d2).length c4] 126)).alloc (.cells #[.bool false,.slice none 0 0,.slice none 0 0] 126));have T:=hid (Three.mk' hW);rw[hW];clear hW;have hS:=T.out.cells br0.drew;have B0:=hid (T.out.below.drew);have C0:=hid ((Z3 W.heap.size W).drew);refine a0m [0,1,2,3,4,5,6,7,8,10,11,12,13] 4 (y0C w.heap.size m1 m2 (.slice a1 (limbs n1).length c1) (.slice a2 (limbs d1).length c2) (.slice a3 (limbs n2).length c3) (.slice a4 (limbs d2).length c4)) (by kernel_rfl) (by kernel_rfl) (by kernel_rfl) (by kernel_rfl) hS ?_
 iterate 13
  refine⟨_,rfl,?_⟩;apply Exists.intro
  refine⟨.inl ⟨by rfl,?_⟩,?_⟩
  .rintro W' ⟨q1,q2,q3,q4,q5,q6⟩;go_simp;try with_reducible rfl
  go_frame
 clear hS;refine a0c (i:=9) (by kernel_rfl) (by rfl) (by rfl) ?_;go_wp2_with fail;refine (h0s _ _ _ n1 n2 (HN1.out.call B0.out) (HN2.out.call B0.out) H1.out H3.out).mono ?_;rintro e w1 ⟨⟨v1,rfl,hv1⟩,hb1⟩;have B1:=hid (B0.out.trans (hb1.mono B0.out.size));have C1:=hid (a0a C0.out hb1);have V1:=hid hv1;clear hb1 hv1;go_wp2_with fail;refine⟨T.out.cells C1.out,?_⟩;refine a0c (i:=14) (by kernel_rfl) (by rfl) (by rfl) ?_;go_wp2_with fail;refine (h0s _ _ _ d1 d2 (HD1.out.call B1.out) (HD2.out.call B1.out) H2.out H4.out).mono ?_;rintro e w2 ⟨⟨v2,rfl,hv2⟩,hb2⟩;have B2:=hid (B1.out.trans (hb2.mono B1.out.size));have C2:=hid (a0a C1.out hb2);have V2:=hid hv2;have W1:=hid (V1.out.call hb2);clear hb2 hv2;go_wp2_with fail;refine⟨T.out.cells C2.out,?_⟩;refine a0c (i:=15) (by kernel_rfl) (by rfl) (by rfl) ?_;go_wp2_with fail;refine (r0F _ _ _ _ (n1*n2) (d1*d2) W1.out V2.out hD.out L1.out L2.out).mono ?_;rintro e w3 ⟨⟨v3,rfl,hv3⟩,hb3⟩;have hbn:(!(m1==m2))=(m1 != m2):=rfl;rw[hbn,HQ.out]at hv3;clear hbn;have B3:=hid (B2.out.trans (hb3.mono B2.out.size));have C3:=hid (a0a C2.out hb3);clear hb3;obtain⟨N3,D3,rfl,hN3,hD3⟩:=hv3.ex;obtain⟨a5,c5,rfl,_⟩:=hN3.openI;obtain⟨a6,c6,rfl,_⟩:=hD3.openI;obtain⟨k5,hk5⟩:=gn ((limbs Q.num.natAbs).length);obtain⟨k6,hk6⟩:=gn ((limbs Q.den).length);obtain⟨mq,hmq⟩:=gn (decide (Q.num<0));rw[hk5]at hN3 |-;rw[hk6]at hD3 |-;rw[hmq];have HN3:=hid hN3;have HD3:=hid hD3;have HMQ:=hid hmq;have Z:=hid (T.out.b2.call C3.out);have t0:=Z.out.cell 0;have t1:=Z.out.cell 1;have t2:=Z.out.cell 2;have t3:=Z.out.free 0;have t4:=Z.out.free 1;have t5:=Z.out.free 2;simp at t0 t1 t2;clear hv3 hN3 hD3 hk5 hk6 hmq;go_wp2_with fail;refine⟨T.out.cells C3.out,?_⟩;refine a0c (i:=16) (by kernel_rfl) (by rfl) (by rfl) ?_;go_wp2_with fail;refine⟨T.out.stored C3.out _ _ _,?_⟩;refine H8 (by kernel_rfl) ?_ _;simp only[b0h];obtain⟨s1,s2⟩:=c0W Z.out mq a5 a6 k5 c5 k6 c6;have f0:=s2.cell 0;have f1:=s2.cell 1;have f2:=s2.cell 2;simp at f0 f1 f2;clear t0 t1 t2 t3 t4 t5;go_wp2_with fail;refine Z6 (v:=.agg #[.bool mq,.slice a5 k5 c5,.slice a6 k6 c6]) (by simp[results,Tryz.results145,go_sem,f0,f1,f2]) rfl ⟨⟨_,rfl,⟨.slice a5 k5 c5,.slice a6 k6 c6,by rw[HMQ.out],s1 _ _ _ HN3.out,s1 _ _ _ HD3.out⟩⟩,?_⟩;exact ((B3.out.setCell (by simp;omega) _).setCell (by simp;omega) _).setCell (by simp;omega) _
def o0k {p q:Rat}{m:Bool}(h1:decide (p.num<0)=m)(h2:decide (q.num<0)=m):qmk m (p.num.natAbs*q.den+q.num.natAbs*p.den) (p.den*q.den)=p+q:=by
 rw[q0m,h1,h2,m0A];rfl
def o0m {p q:Rat}{m1 m2:Bool}(h1:decide (p.num<0)=m1)(h2:decide (q.num<0)=m2)(h:m1≠m2)(hl:p.num.natAbs*q.den<q.num.natAbs*p.den):qmk m2 (q.num.natAbs*p.den-p.num.natAbs*q.den) (p.den*q.den)=p+q:=by
 rw[q0m,h1,h2,m0D h hl];rfl
def o0l {p q:Rat}{m1 m2:Bool}(h1:decide (p.num<0)=m1)(h2:decide (q.num<0)=m2)(h:m1≠m2)(hl:q.num.natAbs*p.den<=p.num.natAbs*q.den):qmk m1 (p.num.natAbs*q.den-q.num.natAbs*p.den) (p.den*q.den)=p+q:=by
 rw[q0m,h1,h2,m0C h hl];rfl
def a1v (w:World)(v u:Value)(p q:Rat)(hp:IsQ .u64 w v p)(hq:IsQ .u64 w u q)
 (h1:(limbs p.num.natAbs).length<=100000) (h2:(limbs p.den).length<=100000) (h3:(limbs q.num.natAbs).length<=100000) (h4:(limbs q.den).length<=100000):
 Calls Tryz.prog 114 #[v,u] w fun e w'=>k0T .u64 (p+q) e w'/\Below w.heap.size w w':=by
 obtain⟨m1,hm1⟩:=gn (decide (p.num<0));obtain⟨m2,hm2⟩:=gn (decide (q.num<0));have s1:=fun (e:m1=m2)=>o0k (m:=m1) hm1 (hm2.trans e.symm)
 have s2:=o0m hm1 hm2;have s3:=o0l hm1 hm2;obtain⟨Q,hQ⟩:=gn (p+q);rw[hQ]at s1 s2 s3 |-;have hD:=hid (Dr p.den_pos q.den_pos);obtain⟨N1,D1,rfl,hn1,hd1⟩:=hp.ex;obtain⟨N2,D2,rfl,hn2,hd2⟩:=hq.ex;rw[hm1,hm2];clear hp hq hQ hm1 hm2;generalize p.num.natAbs=n1 at *
 generalize q.num.natAbs=n2 at *
 generalize p.den=d1 at *
 generalize q.den=d2 at *
 have S1:=hid s1;have S2:=hid s2;have S3:=hid s3;have HN1:=hid hn1;have HD1:=hid hd1;have HN2:=hid hn2;have HD2:=hid hd2;have lx:=d0q h1 h4;have ly:=d0q h3 h2;have ld:=d0q h2 h4;have LX:=hid (O0 lx (show 100000+100000<=200000 by omega));have LY:=hid (O0 ly (show 100000+100000<=200000 by omega));have LD:=hid (O0 ld (show 100000+100000<=1000000 by omega));have LXY:=hid (O0 (l0D lx ly) (show 100000+100000+(100000+100000)+1<=1000000 by omega));have H1:=hid (O0 h1 (show 100000<=1000000 by omega));have H2:=hid (O0 h2 (show 100000<=1000000 by omega));have H3:=hid (O0 h3 (show 100000<=1000000 by omega));have H4:=hid (O0 h4 (show 100000<=1000000 by omega));clear h1 h2 h3 h4 lx ly ld s1 s2 s3;obtain⟨a1,c1,rfl,_⟩:=hn1.openI;obtain⟨a2,c2,rfl,_⟩:=hd1.openI;obtain⟨a3,c3,rfl,_⟩:=hn2.openI;obtain⟨a4,c4,rfl,_⟩:=hd2.openI;clear hn1 hd1 hn2 hd2;go_enter Tryz.func114,Tryz.ntmps114;go_wp2_with fail;obtain⟨W,hW⟩:=gn (((w.alloc (.cells #[.bool m1,.slice a1 (limbs n1).length c1,.slice a2 (limbs d1).length c2] 126)).alloc (.cells #[.bool m2,.slice a3 (limbs n2).length c3,.slice a4 (limbs d2).length c4] 126)).alloc (.cells #[.bool false,.slice none 0 0,.slice none 0 0] 126));have T:=hid (Three.mk' hW);rw[hW];clear hW;have hS:=T.out.cells br0.drew;have B0:=hid (T.out.below.drew);have C0:=hid ((Z3 W.heap.size W).drew);refine a0m [0,1,2,3,5,6,7,8] 4 (y0C w.heap.size m1 m2 (.slice a1 (limbs n1).length c1) (.slice a2 (limbs d1).length c2) (.slice a3 (limbs n2).length c3) (.slice a4 (limbs d2).length c4)) (by kernel_rfl) (by kernel_rfl) (by kernel_rfl) (by kernel_rfl) hS ?_
 iterate 8
  refine⟨_,rfl,?_⟩;apply Exists.intro
  refine⟨.inl ⟨by rfl,?_⟩,?_⟩
  .rintro W' ⟨q1,q2,q3,q4,q5,q6⟩;go_simp;try with_reducible rfl
  go_frame
 clear hS;refine a0c (i:=4) (by kernel_rfl) (by rfl) (by rfl) ?_;go_wp2_with fail;refine (h0s _ _ _ n1 d2 (HN1.out.call B0.out) (HD2.out.call B0.out) H1.out H4.out).mono ?_;rintro e w1 ⟨⟨v1,rfl,hv1⟩,hb1⟩;have B1:=hid (B0.out.trans (hb1.mono B0.out.size));have C1:=hid (a0a C0.out hb1);have V1:=hid hv1;clear hb1 hv1;go_wp2_with fail;refine⟨T.out.cells C1.out,?_⟩;refine a0c (i:=9) (by kernel_rfl) (by rfl) (by rfl) ?_;go_wp2_with fail;refine (h0s _ _ _ n2 d1 (HN2.out.call B1.out) (HD1.out.call B1.out) H3.out H2.out).mono ?_;rintro e w2 ⟨⟨v2,rfl,hv2⟩,hb2⟩;have B2:=hid (B1.out.trans (hb2.mono B1.out.size));have C2:=hid (a0a C1.out hb2);have V2:=hid hv2;have W1:=hid (V1.out.call hb2);clear hb2 hv2;go_wp2_with fail;refine⟨T.out.cells C2.out,?_⟩;refine b0e (is:=[10,11]) (g:=0) (by kernel_rfl) rfl (T.out.cells C2.out) (by kernel_rfl) ?_
 iterate 2
  refine⟨_,rfl,?_⟩;apply Exists.intro
  refine⟨.inl ⟨by rfl,?_⟩,?_⟩
  ·(intro W' hW';clear hW';go_simp;try (with_reducible rfl))
  go_frame
 refine H8 (by kernel_rfl) ?_ _;simp only[b0h];obtain⟨k0,k1,k2,k3,k4,k5⟩:=T.out.cells C2.out;go_wp2_with fail;refine (h0s _ _ _ d1 d2 (HD1.out.call B2.out) (HD2.out.call B2.out) H2.out H4.out).mono ?_;rintro e w3 ⟨⟨v3,rfl,hv3⟩,hb3⟩;have B3:=hid (B2.out.trans (hb3.mono B2.out.size));have C3:=hid (a0a C2.out hb3);have V3:=hid hv3;have X1:=hid (W1.out.call hb3);have X2:=hid (V2.out.call hb3);clear hb3 hv3 k0 k1 k2 k3 k4 k5;go_wp2_with fail;refine (l0G _ _ _ (n1*d2) (n2*d1) X1.out X2.out (O0 LX.out (by omega))).mono ?_;rintro e w4 ⟨rfl,hb4⟩;have B4:=hid (B3.out.trans (hb4.mono B3.out.size));have C4:=hid (a0a C3.out hb4);have V4:=hid (V3.out.call hb4);have Y1:=hid (X1.out.call hb4);have Y2:=hid (X2.out.call hb4);clear hb4;obtain⟨k0,k1,k2,k3,k4,k5⟩:=T.out.cells C4.out;clear B0 B1 B2 B3 C0 C1 C2 C3 V1 V2 V3 W1 X1 X2;obtain⟨X,hX⟩:=gn (n1*d2);obtain⟨Y,hY⟩:=gn (n2*d1);obtain⟨E,hE⟩:=gn (d1*d2);rw[hX]at S1 S2 S3 LX LXY Y1 |-;rw[hY]at S1 S2 S3 LY LXY Y2 |-;rw[hE]at S1 S2 S3 LD V4 hD;clear hX hY hE;by_cases em:m1=m2
 focus
  have q0:(m1==m2)=true:=by rw[em];exact beq_self_eq_true m2
  have LA:=fun W' (h:Below w4.heap.size w4 W')=>hid (z0U W' _ _ X Y (Y1.out.call h) (Y2.out.call h) (O0 LX.out (by omega)) (O0 LY.out (by omega)))
  have LR:=LXY;have SQ:=hid (S1.out em);clear em;obtain⟨R,hR⟩:=gn (X+Y);rw[hR]at LA LR SQ;clear hR
 rotate_left
 focus
  have q0:(m1==m2)=false:=by simpa using em
  have HE:=hid em;clear em;by_cases hc:X<Y
  focus
   have LA:=fun W' (h:Below w4.heap.size w4 W')=>hid (x0i W' _ _ Y X (Y2.out.call h) (Y1.out.call h) (Di hc) (O0 LY.out (by omega)))
   have LR:Hid ((limbs (Y-X)).length<=1000000):=O0 (a0h (Ls Y X)) (O0 LY.out (by omega));have SQ:=hid (S2.out HE.out hc);rw[b0H hc];clear hc;obtain⟨R,hR⟩:=gn (Y-X);rw[hR]at LA LR SQ;clear hR
  rotate_left
  focus
   have q1:decide (b0d X Y<0)=false:=by
    rcases Cc Y X with h | h
    .rw[c0f h];rfl
    .rw[show X=Y by omega,c0F];rfl
   have hle:Y<=X:=by omega
   have LA:=fun W' (h:Below w4.heap.size w4 W')=>hid (x0i W' _ _ X Y (Y1.out.call h) (Y2.out.call h) hle (O0 LX.out (by omega)))
   have LR:Hid ((limbs (X-Y)).length<=1000000):=O0 (a0h (Ls X Y)) (O0 LX.out (by omega));have SQ:=hid (S3.out HE.out hle);clear hc hle;obtain⟨R,hR⟩:=gn (X-Y);rw[hR]at LA LR SQ;clear hR
 all_goals
  go_wp2_with fail;have hS:=T.out.cells C4.out.drew;have B0:=hid B4.out.drew;have C0:=hid C4.out.drew;refine a0m [0,1,2,3,5] 3 (y0C w.heap.size m1 m2 (.slice a1 (limbs n1).length c1) (.slice a2 (limbs d1).length c2) (.slice a3 (limbs n2).length c3) (.slice a4 (limbs d2).length c4)) (by kernel_rfl) (by kernel_rfl) (by kernel_rfl) (by kernel_rfl) hS ?_
  iterate 5
   refine⟨_,rfl,?_⟩;apply Exists.intro
   refine⟨.inl ⟨by rfl,?_⟩,?_⟩
   .rintro W' ⟨q1,q2,q3,q4,q5,q6⟩;go_simp;try with_reducible rfl
   go_frame
  clear hS;refine a0c (i:=4) (by kernel_rfl) (by rfl) (by rfl) ?_;go_wp2_with fail;refine (LA _ br0.drew).out.mono ?_;rintro e w5 ⟨⟨v5,rfl,hv5⟩,hb5⟩;have B5:=hid (B0.out.trans (hb5.mono B0.out.size));have C5:=hid (C0.out.trans (hb5.mono C0.out.size));have V5:=hid hv5;have E5:=hid (V4.out.call (show Below w4.heap.size w4 w5 from br0.drew.trans hb5));clear hb5 hv5;go_wp2_with fail;refine⟨T.out.cells C5.out,?_⟩;refine a0c (i:=6) (by kernel_rfl) (by rfl) (by rfl) ?_;go_wp2_with fail;refine (r0F _ _ _ _ R E V5.out E5.out hD.out LR.out LD.out).mono ?_;rintro e w6 ⟨⟨v3,rfl,hv3⟩,hb6⟩;rw[SQ.out]at hv3;have B6:=hid (B5.out.trans (hb6.mono B5.out.size));have C6:=hid (C5.out.trans (hb6.mono C5.out.size));clear hb6;obtain⟨N3,D3,rfl,hN3,hD3⟩:=hv3.ex;obtain⟨a5,c5,rfl,_⟩:=hN3.openI;obtain⟨a6,c6,rfl,_⟩:=hD3.openI;obtain⟨k5,hk5⟩:=gn ((limbs Q.num.natAbs).length);obtain⟨k6,hk6⟩:=gn ((limbs Q.den).length);obtain⟨mq,hmq⟩:=gn (decide (Q.num<0));rw[hk5]at hN3 |-;rw[hk6]at hD3 |-;rw[hmq];have HN3:=hid hN3;have HD3:=hid hD3;have HMQ:=hid hmq;have Z:=hid (T.out.b2.call C6.out);have t0:=Z.out.cell 0;have t1:=Z.out.cell 1;have t2:=Z.out.cell 2;have t3:=Z.out.free 0;have t4:=Z.out.free 1;have t5:=Z.out.free 2;simp at t0 t1 t2;clear hv3 hN3 hD3 hk5 hk6 hmq;go_wp2_with fail;refine⟨T.out.cells C6.out,?_⟩;refine a0c (i:=7) (by kernel_rfl) (by rfl) (by rfl) ?_;go_wp2_with fail;refine⟨T.out.stored C6.out _ _ _,?_⟩;refine H8 (by kernel_rfl) ?_ _;simp only[b0h];obtain⟨s1,s2⟩:=c0W Z.out mq a5 a6 k5 c5 k6 c6;have f0:=s2.cell 0;have f1:=s2.cell 1;have f2:=s2.cell 2;simp at f0 f1 f2;clear t0 t1 t2 t3 t4 t5;go_wp2_with fail;refine Z6 (v:=.agg #[.bool mq,.slice a5 k5 c5,.slice a6 k6 c6]) (by simp[results,Tryz.results114,go_sem,f0,f1,f2]) rfl ⟨⟨_,rfl,⟨.slice a5 k5 c5,.slice a6 k6 c6,by rw[HMQ.out],s1 _ _ _ HN3.out,s1 _ _ _ HD3.out⟩⟩,?_⟩;exact ((B6.out.setCell (by simp;omega) _).setCell (by simp;omega) _).setCell (by simp;omega) _
def b1I (w:World)(v u:Value)(p q:Rat)(hp:IsQ .u64 w v p)(hq:IsQ .u64 w u q)
 (h1:(limbs p.num.natAbs).length<=100000) (h2:(limbs p.den).length<=100000) (h3:(limbs q.num.natAbs).length<=100000) (h4:(limbs q.den).length<=100000):
 Calls Tryz.prog 165 #[v,u] w fun e w'=>k0T .u64 (p-q) e w'/\Below w.heap.size w w':=by
 have e1:p + -q=p-q:=(Hi p q).symm;have F1:=fun V v h=>hid (b1J V v q h)
 have F2:=fun V v u hv hu=>hid (a1v V v u p (-q) hv hu h1 h2 (by rw[Ir,Ij];exact h3) (by rw[Md];exact h4))
 rw[e1]at F2;obtain⟨Q,hQ⟩:=gn (p-q);rw[hQ]at F2 |-;have HP:=hid hp;have HQ':=hid hq;obtain⟨N1,D1,rfl,hn1,hd1⟩:=hp.ex;obtain⟨N2,D2,rfl,hn2,hd2⟩:=hq.ex;obtain⟨a1,c1,rfl,_⟩:=hn1.openI;obtain⟨a2,c2,rfl,_⟩:=hd1.openI;obtain⟨a3,c3,rfl,_⟩:=hn2.openI;obtain⟨a4,c4,rfl,_⟩:=hd2.openI;clear hp hq hQ e1 hn1 hd1 hn2 hd2 h1 h2 h3 h4;obtain⟨m1,hm1⟩:=gn (decide (p.num<0));obtain⟨m2,hm2⟩:=gn (decide (q.num<0));obtain⟨l1,hl1⟩:=gn ((limbs p.num.natAbs).length);obtain⟨l2,hl2⟩:=gn ((limbs p.den).length);obtain⟨l3,hl3⟩:=gn ((limbs q.num.natAbs).length);obtain⟨l4,hl4⟩:=gn ((limbs q.den).length);rw[hm1,hl1,hl2]at HP;rw[hm2,hl3,hl4]at HQ';rw[hm1,hm2,hl1,hl2,hl3,hl4];clear hm1 hm2 hl1 hl2 hl3 hl4;go_enter Tryz.func165,Tryz.ntmps165;go_wp2_with fail;obtain⟨W,hW⟩:=gn (((w.alloc (.cells #[.bool m1,.slice a1 l1 c1,.slice a2 l2 c2] 126)).alloc (.cells #[.bool m2,.slice a3 l3 c3,.slice a4 l4 c4] 126)).alloc (.cells #[.bool false,.slice none 0 0,.slice none 0 0] 126));have T:=hid (Three.mk' hW);rw[hW];clear hW;have hS:=T.out.cells br0.drew;have B0:=hid (T.out.below.drew);have C0:=hid ((Z3 W.heap.size W).drew);refine a0m [0,1] 3 (y0C w.heap.size m1 m2 (.slice a1 l1 c1) (.slice a2 l2 c2) (.slice a3 l3 c3) (.slice a4 l4 c4)) (by kernel_rfl) (by kernel_rfl) (by kernel_rfl) (by kernel_rfl) hS ?_
 iterate 2
  refine⟨_,rfl,?_⟩;apply Exists.intro
  refine⟨.inl ⟨by rfl,?_⟩,?_⟩
  .rintro W' ⟨q1,q2,q3,q4,q5,q6⟩;go_simp;try with_reducible rfl
  go_frame
 clear hS;refine a0c (i:=2) (by kernel_rfl) (by rfl) (by rfl) ?_;go_wp2_with fail;refine (F1 _ _ (HQ'.out.call B0.out)).out.mono ?_;rintro e w1 ⟨⟨v1,rfl,hv1⟩,hb1⟩;have B1:=hid (B0.out.trans (hb1.mono B0.out.size));have C1:=hid (a0a C0.out hb1);have V1:=hid hv1;clear hb1 hv1;go_wp2_with fail;refine⟨T.out.cells C1.out,?_⟩;refine a0c (i:=3) (by kernel_rfl) (by rfl) (by rfl) ?_;go_wp2_with fail;refine (F2 _ _ _ (HP.out.call B1.out) V1.out).out.mono ?_;rintro e w3 ⟨⟨v3,rfl,hv3⟩,hb3⟩;have B3:=hid (B1.out.trans (hb3.mono B1.out.size));have C3:=hid (a0a C1.out hb3);clear hb3;obtain⟨N3,D3,rfl,hN3,hD3⟩:=hv3.ex;obtain⟨a5,c5,rfl,_⟩:=hN3.openI;obtain⟨a6,c6,rfl,_⟩:=hD3.openI;obtain⟨k5,hk5⟩:=gn ((limbs Q.num.natAbs).length);obtain⟨k6,hk6⟩:=gn ((limbs Q.den).length);obtain⟨mq,hmq⟩:=gn (decide (Q.num<0));rw[hk5]at hN3 |-;rw[hk6]at hD3 |-;rw[hmq];have HN3:=hid hN3;have HD3:=hid hD3;have HMQ:=hid hmq;have Z:=hid (T.out.b2.call C3.out);have t0:=Z.out.cell 0;have t1:=Z.out.cell 1;have t2:=Z.out.cell 2;have t3:=Z.out.free 0;have t4:=Z.out.free 1;have t5:=Z.out.free 2;simp at t0 t1 t2;clear hv3 hN3 hD3 hk5 hk6 hmq;go_wp2_with fail;refine⟨T.out.cells C3.out,?_⟩;refine a0c (i:=4) (by kernel_rfl) (by rfl) (by rfl) ?_;go_wp2_with fail;refine⟨T.out.stored C3.out _ _ _,?_⟩;refine H8 (by kernel_rfl) ?_ _;simp only[b0h];obtain⟨s1,s2⟩:=c0W Z.out mq a5 a6 k5 c5 k6 c6;have f0:=s2.cell 0;have f1:=s2.cell 1;have f2:=s2.cell 2;simp at f0 f1 f2;clear t0 t1 t2 t3 t4 t5;go_wp2_with fail;refine Z6 (v:=.agg #[.bool mq,.slice a5 k5 c5,.slice a6 k6 c6]) (by simp[results,Tryz.results165,go_sem,f0,f1,f2]) rfl ⟨⟨_,rfl,⟨.slice a5 k5 c5,.slice a6 k6 c6,by rw[HMQ.out],s1 _ _ _ HN3.out,s1 _ _ _ HD3.out⟩⟩,?_⟩;exact ((B3.out.setCell (by simp;omega) _).setCell (by simp;omega) _).setCell (by simp;omega) _
open Go.Shelf
open Go.Lib (decDigits nDigits)
def q0l (w:World)(s t:ByteArray)(F:Nat)(R:ByteArray)(x:Int)(hs:s.size<=1000000)(ht:t.size<=1000000)(hL:Lay w)
 (hen:∀ args w,(callFunc F args).run Tryz.prog w=.ok (.enter F args) w)
 (hF:∀ W v u,qE s=0->qE t=0->IsQ .u64 W v (vQ s)->IsQ .u64 W u (vQ t)->Lay W->Calls Tryz.prog F #[v,u] W fun e w'=>e=.returned (.tuple #[.string R,.int .i64 x])/\Below W.heap.size W w'):
 Calls Tryz.prog 143 #[.string s,.string t,.func (.func F) #[] #[]] w fun e w'=>e=.returned (.tuple #[.string (tB R s t),.int .i64 (tE x s t)])/\Below w.heap.size w w':=by
 have HF:=hid hF;have HL:=hid hL;have HEN:=hid hen;have HT:=hid ht;have b1:=hid ((Z3 w.heap.size w).alloc nr0 (.cells #[.string t] 23));obtain⟨w1,hw1⟩:=gn (w.alloc (.cells #[.string t] 23));obtain⟨g1,hg1⟩:=gn (w.heap.size);have X1:=hid (Blk.new w #[.string t] 23);rw[hw1]at b1;rw[hw1,hg1]at X1;have b2:=hid ((Z3 w1.heap.size w1).alloc nr0 (.cells #[.func (.func F) #[] #[]] 150));obtain⟨w2,hw2⟩:=gn (w1.alloc (.cells #[.func (.func F) #[] #[]] 150));have X2:=hid (Blk.new w1 #[.func (.func F) #[] #[]] 150);have X12:=hid (X1.out.call b2.out);have y2:=hid (a0a b1.out b2.out);have hg2:w1.heap.size=g1+1:=by rw[<- hw1,<- hg1];simp
 rw[hw2]at b2 X12 y2;rw[hw2,hg2]at X2;have L2:=hid (HL.out.call y2.out)
 have W2:=hid (m0M w2 s 216 #[.pointer (some ⟨g1,0,none⟩),.pointer (some ⟨g1+1,0,none⟩)] (wB R t) (wE x t) hs L2.out (Ch Tryz.func216 (by kernel_rfl) rfl)
  (fun W v hq hb hv hLW=>by
   have hX1:=(X12.out.call hb).cell 0;have hX2:=(X2.out.call hb).cell 0;exact w0E W v t (vQ s) F g1 (g1+1) R x HT.out hv hLW HEN.out hX1 hX2 (fun W v u h0 h1 h2 h3=>HF.out W v u hq h0 h1 h2 h3)))
 have HW1:=hid hw1;have HW2:=hid hw2;have HG1:=hid hg1;clear hF hL hen hs ht hw1 hw2 hg1 hg2 b1;go_enter Tryz.func143,Tryz.ntmps143;go_wp2_with fail;have hw1:=HW1.out;have hw2:=HW2.out;have hg1:=HG1.out;rw[hw1,hg1,hw2];refine W2.out.mono ?_;rintro e w3 ⟨rfl,hb3⟩;have y3:=hid (a0a y2.out hb3);clear hb3 hw1 hw2 hg1;go_wp2_with fail;go_ret2
 exact⟨rfl,by have:=y3.out;exact this⟩
structure Sml (K:Nat)(q:Rat):Prop where
 n:(limbs q.num.natAbs).length<=K
 d:(limbs q.den).length<=K
def d0U {s:ByteArray}(h:qE s=0):Sml 1000 (vQ s):=by
 obtain⟨-,e2,e3⟩:=i0e h;obtain⟨-,-,-,l1,l2,-⟩:=s0N h;exact⟨by rw[e2];exact O0 (a0n l1) (by omega),by rw[e3];exact O0 (a0n l2) (by omega)⟩
theorem Sml.up {K L:Nat}{q:Rat}(h:Sml K q)(hl:K<=L):Sml L q:=⟨O0 h.n hl,O0 h.d hl⟩
def w0c {K:Nat}{q:Rat}(h:Sml K q):Sml K (-q):=⟨by rw[Ir,Ij];exact h.n,by rw[Md];exact h.d⟩
def v0c {K:Nat}{z:Int}{d:Nat}(hd:0<d)(h1:(limbs z.natAbs).length<=K)(h2:(limbs d).length<=K):Sml K (mkRat z d):=by
 refine⟨?_,?_⟩
 .rw[Jm,U0 (by omega)];refine O0 (a0h ?_) h1;exact Ii _ _
 .rw[Nl,U0 (by omega)];exact O0 (a0h (Dp _ _)) h2
def s0Y {K L:Nat}{p q:Rat}(hp:Sml K p)(hq:Sml L q):Sml (K+L) (p*q):=by
 rw[<- i0w];unfold qmk;exact v0c (Dr p.den_pos q.den_pos) (by rw[b0s];exact a0H hp.n hq.n) (a0H hp.d hq.d)
def s0Z {K L:Nat}{p q:Rat}(hp:Sml K p)(hq:Sml L q):Sml (K+L+(K+L)+1) (p+q):=by
 rw[q0m];refine v0c (Dr p.den_pos q.den_pos) ?_ (O0 (a0H hp.d hq.d) (by omega));refine O0 (a0h (n0Y _ _ _ _)) ?_;exact O0 (l0D (a0H hp.n hq.d) (a0H hq.n hp.d)) (by omega)
def w0d {p q:Rat}(hp:Sml 1000 p)(hq:Sml 1000 q):Sml 10000 (p*q):=(s0Y hp hq).up (by omega)
def p0J {p q:Rat}(hp:Sml 1000 p)(hq:Sml 1000 q):Sml 10000 (p+q):=(s0Z hp hq).up (by omega)
def w0b {p q:Rat}(hp:Sml 1000 p)(hq:Sml 1000 q):Sml 10000 (p-q):=by rw[Hi];exact p0J hp (w0c hq)
def t2B {f:Rat->Rat->Rat}{s t:ByteArray}:tB (c0p (f (vQ s) (vQ t))) s t=d0j f s t:=by
 unfold tB wB d0j;by_cases h1:qE s=0<;>by_cases h2:qE t=0<;>simp[h1,h2]
def t2E {f:Rat->Rat->Rat}{s t:ByteArray}:tE (c0G (f (vQ s) (vQ t))) s t=h0o f s t:=by
 unfold tE wE h0o;by_cases h1:qE s=0<;>by_cases h2:qE t=0<;>simp[h1,h2]
def z0s (w:World)(v u:Value)(p q:Rat)(hp:IsQ .u64 w v p)(hq:IsQ .u64 w u q)(sp:Sml 1000 p)(sq:Sml 1000 q)(hL:Lay w):
 Calls Tryz.prog 144 #[v,u] w fun e w'=>e=.returned (.tuple #[.string (c0p (p*q)),.int .i64 (c0G (p*q))])/\Below w.heap.size w w':=by
 have F1:=fun V v u hv hu=>hid (b1K V v u p q hv hu (O0 sp.n (by omega)) (O0 sp.d (by omega)) (O0 sq.n (by omega)) (O0 sq.d (by omega)))
 have SQ:=w0d sp sq;have F2:=fun V v hv hV=>hid (o0M V v (p*q) hv (O0 SQ.n (by omega)) (O0 SQ.d (by omega)) hV)
 obtain⟨Q,hQ⟩:=gn (p*q);rw[hQ]at F1 F2 |-;have HL:=hid hL;obtain⟨N1,D1,rfl,hn1,hd1⟩:=hp.ex;obtain⟨N2,D2,rfl,hn2,hd2⟩:=hq.ex;obtain⟨a1,c1,rfl,_⟩:=hn1.openI;obtain⟨a2,c2,rfl,_⟩:=hd1.openI;obtain⟨a3,c3,rfl,_⟩:=hn2.openI;obtain⟨a4,c4,rfl,_⟩:=hd2.openI;obtain⟨k1,hk1⟩:=gn ((limbs p.num.natAbs).length);obtain⟨k2,hk2⟩:=gn ((limbs p.den).length);obtain⟨k3,hk3⟩:=gn ((limbs q.num.natAbs).length);obtain⟨k4,hk4⟩:=gn ((limbs q.den).length);obtain⟨m1,hm1⟩:=gn (decide (p.num<0));obtain⟨m2,hm2⟩:=gn (decide (q.num<0));rw[hk1,hk2,hm1]at hp |-;rw[hk3,hk4,hm2]at hq |-;have X1:=hid (Blk.new w #[.bool m1,.slice a1 k1 c1,.slice a2 k2 c2] 126);have b1:=hid ((Z3 w.heap.size w).alloc nr0 (.cells #[.bool m1,.slice a1 k1 c1,.slice a2 k2 c2] 126));have Y1:=hid (X1.out.alloc (.cells #[.bool m2,.slice a3 k3 c3,.slice a4 k4 c4] 126));have X2:=hid (Blk.new (w.alloc (.cells #[.bool m1,.slice a1 k1 c1,.slice a2 k2 c2] 126)) #[.bool m2,.slice a3 k3 c3,.slice a4 k4 c4] 126);have b2:=hid (b1.out.alloc b1.out.size (.cells #[.bool m2,.slice a3 k3 c3,.slice a4 k4 c4] 126));have P2:=hid (hp.call b2.out);have Q2:=hid (hq.call b2.out);have r0:=Y1.out.cell 0;have r1:=Y1.out.cell 1;have r2:=Y1.out.cell 2;have s0:=X2.out.cell 0;have s1:=X2.out.cell 1;have s2:=X2.out.cell 2;simp at r0 r1 r2 s0 s1 s2;clear hk1 hk2 hk3 hk4 hm1 hm2 hn1 hn2 hd1 hd2 hp hq hL sp sq SQ hQ;go_enter Tryz.func144,Tryz.ntmps144;go_wp2_with fail;refine (F1 _ _ _ P2.out Q2.out).out.mono ?_;rintro e w3 ⟨⟨v3,rfl,hv3⟩,hb3⟩;have y3:=hid (a0a b2.out hb3);obtain⟨N3,D3,rfl,hn3,hd3⟩:=hv3.ex;obtain⟨a5,c5,rfl,_⟩:=hn3.openI;obtain⟨a6,c6,rfl,_⟩:=hd3.openI;obtain⟨k5,hk5⟩:=gn ((limbs Q.num.natAbs).length);obtain⟨k6,hk6⟩:=gn ((limbs Q.den).length);obtain⟨m3,hm3⟩:=gn (decide (Q.num<0));rw[hk5,hk6,hm3]at hv3 |-;have V3:=hid hv3;clear hb3 hv3 hn3 hd3 hk5 hk6 hm3;go_wp2_with fail;refine (F2 _ _ V3.out (HL.out.call y3.out)).out.mono ?_;rintro e w4 ⟨rfl,hb4⟩;have y4:=hid (a0a y3.out hb4);clear hb4;go_wp2_with fail;go_ret2
 exact⟨rfl,y4.out⟩
def b1s (w:World)(s t:ByteArray)(hs:s.size<=1000000)(ht:t.size<=1000000)(hL:Lay w):
 Calls Tryz.prog 50 #[.string s,.string t] w fun e w'=>e=.returned (.tuple #[.string (d0j (· * ·) s t),.int .i64 (h0o (· * ·) s t)])/\Below w.heap.size w w':=by
 have H:=hid (q0l w s t 144 (c0p (vQ s*vQ t)) (c0G (vQ s*vQ t)) hs ht hL (Ch Tryz.func144 (by kernel_rfl) rfl)
  (fun W v u h1 h2 hv hu hLW=>z0s W v u _ _ hv hu (d0U h1) (d0U h2) hLW))
 rw[t2B,t2E (f:=(· * ·))]at H;obtain⟨B,hB⟩:=gn (d0j (· * ·) s t);obtain⟨E,hE⟩:=gn (h0o (· * ·) s t);rw[hB,hE]at H |-;clear hB hE hs ht hL;go_enter Tryz.func50,Tryz.ntmps50;go_wp2_with fail;refine H.out.mono ?_;rintro e w1 ⟨rfl,hb1⟩;have y1:=hid hb1;clear hb1;go_wp2_with fail;go_ret2
 exact⟨rfl,y1.out⟩
def z0u (w:World)(v u:Value)(p q:Rat)(hp:IsQ .u64 w v p)(hq:IsQ .u64 w u q)(sp:Sml 1000 p)(sq:Sml 1000 q)(hL:Lay w):
 Calls Tryz.prog 245 #[v,u] w fun e w'=>e=.returned (.tuple #[.string (c0p (p+q)),.int .i64 (c0G (p+q))])/\Below w.heap.size w w':=by
 have F1:=fun V v u hv hu=>hid (a1v V v u p q hv hu (O0 sp.n (by omega)) (O0 sp.d (by omega)) (O0 sq.n (by omega)) (O0 sq.d (by omega)))
 have SQ:=p0J sp sq;have F2:=fun V v hv hV=>hid (o0M V v (p+q) hv (O0 SQ.n (by omega)) (O0 SQ.d (by omega)) hV)
 obtain⟨Q,hQ⟩:=gn (p+q);rw[hQ]at F1 F2 |-;have HL:=hid hL;obtain⟨N1,D1,rfl,hn1,hd1⟩:=hp.ex;obtain⟨N2,D2,rfl,hn2,hd2⟩:=hq.ex;obtain⟨a1,c1,rfl,_⟩:=hn1.openI;obtain⟨a2,c2,rfl,_⟩:=hd1.openI;obtain⟨a3,c3,rfl,_⟩:=hn2.openI;obtain⟨a4,c4,rfl,_⟩:=hd2.openI;obtain⟨k1,hk1⟩:=gn ((limbs p.num.natAbs).length);obtain⟨k2,hk2⟩:=gn ((limbs p.den).length);obtain⟨k3,hk3⟩:=gn ((limbs q.num.natAbs).length);obtain⟨k4,hk4⟩:=gn ((limbs q.den).length);obtain⟨m1,hm1⟩:=gn (decide (p.num<0));obtain⟨m2,hm2⟩:=gn (decide (q.num<0));rw[hk1,hk2,hm1]at hp |-;rw[hk3,hk4,hm2]at hq |-;have X1:=hid (Blk.new w #[.bool m1,.slice a1 k1 c1,.slice a2 k2 c2] 126);have b1:=hid ((Z3 w.heap.size w).alloc nr0 (.cells #[.bool m1,.slice a1 k1 c1,.slice a2 k2 c2] 126));have Y1:=hid (X1.out.alloc (.cells #[.bool m2,.slice a3 k3 c3,.slice a4 k4 c4] 126));have X2:=hid (Blk.new (w.alloc (.cells #[.bool m1,.slice a1 k1 c1,.slice a2 k2 c2] 126)) #[.bool m2,.slice a3 k3 c3,.slice a4 k4 c4] 126);have b2:=hid (b1.out.alloc b1.out.size (.cells #[.bool m2,.slice a3 k3 c3,.slice a4 k4 c4] 126));have P2:=hid (hp.call b2.out);have Q2:=hid (hq.call b2.out);have r0:=Y1.out.cell 0;have r1:=Y1.out.cell 1;have r2:=Y1.out.cell 2;have s0:=X2.out.cell 0;have s1:=X2.out.cell 1;have s2:=X2.out.cell 2;simp at r0 r1 r2 s0 s1 s2;clear hk1 hk2 hk3 hk4 hm1 hm2 hn1 hn2 hd1 hd2 hp hq hL sp sq SQ hQ;go_enter Tryz.func245,Tryz.ntmps245;go_wp2_with fail;refine (F1 _ _ _ P2.out Q2.out).out.mono ?_;rintro e w3 ⟨⟨v3,rfl,hv3⟩,hb3⟩;have y3:=hid (a0a b2.out hb3);obtain⟨N3,D3,rfl,hn3,hd3⟩:=hv3.ex;obtain⟨a5,c5,rfl,_⟩:=hn3.openI;obtain⟨a6,c6,rfl,_⟩:=hd3.openI;obtain⟨k5,hk5⟩:=gn ((limbs Q.num.natAbs).length);obtain⟨k6,hk6⟩:=gn ((limbs Q.den).length);obtain⟨m3,hm3⟩:=gn (decide (Q.num<0));rw[hk5,hk6,hm3]at hv3 |-;have V3:=hid hv3;clear hb3 hv3 hn3 hd3 hk5 hk6 hm3;go_wp2_with fail;refine (F2 _ _ V3.out (HL.out.call y3.out)).out.mono ?_;rintro e w4 ⟨rfl,hb4⟩;have y4:=hid (a0a y3.out hb4);clear hb4;go_wp2_with fail;go_ret2
 exact⟨rfl,y4.out⟩
def b1w (w:World)(s t:ByteArray)(hs:s.size<=1000000)(ht:t.size<=1000000)(hL:Lay w):
 Calls Tryz.prog 183 #[.string s,.string t] w fun e w'=>e=.returned (.tuple #[.string (d0j (· + ·) s t),.int .i64 (h0o (· + ·) s t)])/\Below w.heap.size w w':=by
 have H:=hid (q0l w s t 245 (c0p (vQ s+vQ t)) (c0G (vQ s+vQ t)) hs ht hL (Ch Tryz.func245 (by kernel_rfl) rfl)
  (fun W v u h1 h2 hv hu hLW=>z0u W v u _ _ hv hu (d0U h1) (d0U h2) hLW))
 rw[t2B,t2E (f:=(· + ·))]at H;obtain⟨B,hB⟩:=gn (d0j (· + ·) s t);obtain⟨E,hE⟩:=gn (h0o (· + ·) s t);rw[hB,hE]at H |-;clear hB hE hs ht hL;go_enter Tryz.func183,Tryz.ntmps183;go_wp2_with fail;refine H.out.mono ?_;rintro e w1 ⟨rfl,hb1⟩;have y1:=hid hb1;clear hb1;go_wp2_with fail;go_ret2
 exact⟨rfl,y1.out⟩
def z0p (w:World)(v u:Value)(p q:Rat)(hp:IsQ .u64 w v p)(hq:IsQ .u64 w u q)(sp:Sml 1000 p)(sq:Sml 1000 q)(hL:Lay w):
 Calls Tryz.prog 164 #[v,u] w fun e w'=>e=.returned (.tuple #[.string (c0p (p-q)),.int .i64 (c0G (p-q))])/\Below w.heap.size w w':=by
 have F1:=fun V v u hv hu=>hid (b1I V v u p q hv hu (O0 sp.n (by omega)) (O0 sp.d (by omega)) (O0 sq.n (by omega)) (O0 sq.d (by omega)))
 have SQ:=w0b sp sq;have F2:=fun V v hv hV=>hid (o0M V v (p-q) hv (O0 SQ.n (by omega)) (O0 SQ.d (by omega)) hV)
 obtain⟨Q,hQ⟩:=gn (p-q);rw[hQ]at F1 F2 |-;have HL:=hid hL;obtain⟨N1,D1,rfl,hn1,hd1⟩:=hp.ex;obtain⟨N2,D2,rfl,hn2,hd2⟩:=hq.ex;obtain⟨a1,c1,rfl,_⟩:=hn1.openI;obtain⟨a2,c2,rfl,_⟩:=hd1.openI;obtain⟨a3,c3,rfl,_⟩:=hn2.openI;obtain⟨a4,c4,rfl,_⟩:=hd2.openI;obtain⟨k1,hk1⟩:=gn ((limbs p.num.natAbs).length);obtain⟨k2,hk2⟩:=gn ((limbs p.den).length);obtain⟨k3,hk3⟩:=gn ((limbs q.num.natAbs).length);obtain⟨k4,hk4⟩:=gn ((limbs q.den).length);obtain⟨m1,hm1⟩:=gn (decide (p.num<0));obtain⟨m2,hm2⟩:=gn (decide (q.num<0));rw[hk1,hk2,hm1]at hp |-;rw[hk3,hk4,hm2]at hq |-;have X1:=hid (Blk.new w #[.bool m1,.slice a1 k1 c1,.slice a2 k2 c2] 126);have b1:=hid ((Z3 w.heap.size w).alloc nr0 (.cells #[.bool m1,.slice a1 k1 c1,.slice a2 k2 c2] 126));have Y1:=hid (X1.out.alloc (.cells #[.bool m2,.slice a3 k3 c3,.slice a4 k4 c4] 126));have X2:=hid (Blk.new (w.alloc (.cells #[.bool m1,.slice a1 k1 c1,.slice a2 k2 c2] 126)) #[.bool m2,.slice a3 k3 c3,.slice a4 k4 c4] 126);have b2:=hid (b1.out.alloc b1.out.size (.cells #[.bool m2,.slice a3 k3 c3,.slice a4 k4 c4] 126));have P2:=hid (hp.call b2.out);have Q2:=hid (hq.call b2.out);have r0:=Y1.out.cell 0;have r1:=Y1.out.cell 1;have r2:=Y1.out.cell 2;have s0:=X2.out.cell 0;have s1:=X2.out.cell 1;have s2:=X2.out.cell 2;simp at r0 r1 r2 s0 s1 s2;clear hk1 hk2 hk3 hk4 hm1 hm2 hn1 hn2 hd1 hd2 hp hq hL sp sq SQ hQ;go_enter Tryz.func164,Tryz.ntmps164;go_wp2_with fail;refine (F1 _ _ _ P2.out Q2.out).out.mono ?_;rintro e w3 ⟨⟨v3,rfl,hv3⟩,hb3⟩;have y3:=hid (a0a b2.out hb3);obtain⟨N3,D3,rfl,hn3,hd3⟩:=hv3.ex;obtain⟨a5,c5,rfl,_⟩:=hn3.openI;obtain⟨a6,c6,rfl,_⟩:=hd3.openI;obtain⟨k5,hk5⟩:=gn ((limbs Q.num.natAbs).length);obtain⟨k6,hk6⟩:=gn ((limbs Q.den).length);obtain⟨m3,hm3⟩:=gn (decide (Q.num<0));rw[hk5,hk6,hm3]at hv3 |-;have V3:=hid hv3;clear hb3 hv3 hn3 hd3 hk5 hk6 hm3;go_wp2_with fail;refine (F2 _ _ V3.out (HL.out.call y3.out)).out.mono ?_;rintro e w4 ⟨rfl,hb4⟩;have y4:=hid (a0a y3.out hb4);clear hb4;go_wp2_with fail;go_ret2
 exact⟨rfl,y4.out⟩
def b1q (w:World)(s t:ByteArray)(hs:s.size<=1000000)(ht:t.size<=1000000)(hL:Lay w):
 Calls Tryz.prog 63 #[.string s,.string t] w fun e w'=>e=.returned (.tuple #[.string (d0j (· - ·) s t),.int .i64 (h0o (· - ·) s t)])/\Below w.heap.size w w':=by
 have H:=hid (q0l w s t 164 (c0p (vQ s-vQ t)) (c0G (vQ s-vQ t)) hs ht hL (Ch Tryz.func164 (by kernel_rfl) rfl)
  (fun W v u h1 h2 hv hu hLW=>z0p W v u _ _ hv hu (d0U h1) (d0U h2) hLW))
 rw[t2B,t2E (f:=(· - ·))]at H;obtain⟨B,hB⟩:=gn (d0j (· - ·) s t);obtain⟨E,hE⟩:=gn (h0o (· - ·) s t);rw[hB,hE]at H |-;clear hB hE hs ht hL;go_enter Tryz.func63,Tryz.ntmps63;go_wp2_with fail;refine H.out.mono ?_;rintro e w1 ⟨rfl,hb1⟩;have y1:=hid hb1;clear hb1;go_wp2_with fail;go_ret2
 exact⟨rfl,y1.out⟩
def w0e {K:Nat}{q:Rat}(h0:q≠0)(h:Sml K q):Sml K q⁻¹ := ⟨by rw[(g0U h0).2.1];exact h.d,by rw[(g0U h0).2.2];exact h.n⟩
def b1n {q:Rat}(h:q≠0):(sgQ q==0)=false:=by
 rw[U4];have:q.num≠0:=fun e=>h (Rat.num_eq_zero.1 e)
 unfold sgQ
 repeat' split
 all_goals first | omega | (intro h;omega) | simp_all
def Hy:=@Nat.mod_two_eq_zero_or_one
theorem p0O (m:Bool)(a:Nat):∀ n:Nat,(sgn m a) ^ n=sgn (m && decide (n%2=1)) (a ^ n)
 | 0=>by simp[sgn]
 | n+1=>by
  rw[Int.pow_succ,p0O m a n,I8];rcases Hy n with h | h
  .have e:(n+1)%2=1:=by omega
   cases m<;>simp[sgn,h,e,Int.mul_neg]
  .have e:(n+1)%2=0:=by omega
   cases m<;>simp[sgn,h,e,Int.mul_neg,Int.neg_mul]
def g0H (q:Rat)(n:Nat):decide ((q ^ n).num<0)=(decide (q.num<0) && decide (n%2=1))/\(q ^ n).num.natAbs=q.num.natAbs ^ n/\(q ^ n).den=q.den ^ n:=by
 have h1:(q ^ n).num=sgn (decide (q.num<0) && decide (n%2=1)) (q.num.natAbs ^ n):=by
  rw[Rat.num_pow,<- p0O,h0D]
 refine⟨?_,by rw[h1,b0s],Rat.den_pow q n⟩;rw[h1];by_cases hq:q.num<0
 .rw[l0d (Ff (by omega))]
 .have:decide (q.num<0)=false:=by simpa using hq
  rw[this];simp[sgn];exact Int.natCast_nonneg _
def m0O {q:Rat}{n:Nat}(h:4000<nDigits (q.num.natAbs ^ n)\/4000<nDigits (q.den ^ n)):c0p (q ^ n)=⟨#[]⟩/\c0G (q ^ n)=5:=by
 obtain⟨-,h2,h3⟩:=g0H q n;have:ovQ (q ^ n):=by unfold ovQ;rw[h2,h3];exact h
 exact⟨J2 this,J2 this⟩
def z0r (w:World)(v:Value)(q:Rat)(n g1:Nat)(hp:IsQ .u64 w v q)(sp:Sml 1000 q)(hn:n<=9223372036854775807)(hL:Lay w)(c1:w.cell? ⟨g1,0,none⟩=some (.int .i64 (n:Nat))):
 Calls Tryz.prog 156 #[v,.pointer (some ⟨g1,0,none⟩)] w fun e w'=>e=.returned (.tuple #[.string (c0p (q ^ n)),.int .i64 (c0G (q ^ n))])/\Below w.heap.size w w':=by
 have F1:=fun V v hv hV=>hid (q0W V v q.num.natAbs n hv (O0 sp.n (by omega)) (by omega) hV)
 have F2:=fun V v hv hV=>hid (q0W V v q.den n hv (O0 sp.d (by omega)) (by omega) hV)
 obtain⟨e1,e2,e3⟩:=g0H q n;have HOV:=hid (fun h=>m0O (q:=q) (n:=n) h);have F3:=fun V v hv hV (h1:nDigits (q.num.natAbs ^ n)<=4000) (h2:nDigits (q.den ^ n)<=4000)=>hid (o0M V v (q ^ n) hv (by rw[e2];exact O0 (a0n h1) (by omega)) (by rw[e3];exact O0 (a0n h2) (by omega)) hV)
 obtain⟨B,hB⟩:=gn (c0p (q ^ n));obtain⟨E,hE⟩:=gn (c0G (q ^ n));rw[hB,hE]at F3 HOV |-;clear hB hE;have HL:=hid hL;obtain⟨N1,D1,rfl,hn1,hd1⟩:=hp.ex;obtain⟨a1,c1',rfl,_⟩:=hn1.openI;obtain⟨a2,c2',rfl,_⟩:=hd1.openI;obtain⟨k1,hk1⟩:=gn ((limbs q.num.natAbs).length);obtain⟨k2,hk2⟩:=gn ((limbs q.den).length);obtain⟨m1,hm1⟩:=gn (decide (q.num<0));rw[hk1,hk2,hm1]at hp |-;rw[hk1]at hn1;rw[hk2]at hd1;rw[hm1]at e1;have X1:=hid (Blk.new w #[.bool m1,.slice a1 k1 c1',.slice a2 k2 c2'] 126);have b1:=hid ((Z3 w.heap.size w).alloc nr0 (.cells #[.bool m1,.slice a1 k1 c1',.slice a2 k2 c2'] 126));have N2:=hid (hn1.call b1.out);have D2:=hid (hd1.call b1.out);have r0:=X1.out.cell 0;have r1:=X1.out.cell 1;have r2:=X1.out.cell 2;have C1:=(b1.out.cell (a0e c1)).trans c1;simp at r0 r1 r2;have q0:decide ((n:Int)<0)=false:=by simp
 have w0:IntKind.u64.wrap (n:Int)=(n:Int):=Bl _ ⟨by omega,by omega⟩;have E1:=hid e1;have E2:=hid e2;have E3:=hid e3;clear hk1 hk2 hm1 hn1 hd1 hp hL sp e1 e2 e3 c1 hn;go_enter Tryz.func156,Tryz.ntmps156;go_wp2_with fail;refine (F1 _ _ N2.out (HL.out.call b1.out)).out.mono ?_;rintro e w3 ⟨hr3,hb3⟩;have y3:=hid (a0a b1.out hb3);have X3:=hid (X1.out.call hb3);have D3:=hid (D2.out.call hb3);clear hb3 r0 r1 r2 C1;have r0:=X3.out.cell 0;have r1:=X3.out.cell 1;have r2:=X3.out.cell 2;simp at r0 r1 r2;rcases hr3 with ⟨l3,v3,rfl,hv3⟩ | ⟨l3,rfl⟩
 .obtain⟨a3,c3,rfl,_⟩:=hv3.openI;obtain⟨k3,hk3⟩:=gn ((limbs (q.num.natAbs ^ n)).length);rw[hk3]at hv3 |-;have V3:=hid hv3;have L3:=hid l3;clear hk3 hv3 l3;go_wp2_with fail;refine (F2 _ _ D3.out (HL.out.call y3.out)).out.mono ?_;rintro e w4 ⟨hr4,hb4⟩;have y4:=hid (a0a y3.out hb4);have X4:=hid (X3.out.call hb4);have V4:=hid (V3.out.call hb4);clear hb4 r0 r1 r2;have r0:=X4.out.cell 0;have r1:=X4.out.cell 1;have r2:=X4.out.cell 2;simp at r0 r1 r2;rcases hr4 with ⟨l4,v4,rfl,hv4⟩ | ⟨l4,rfl⟩
  .obtain⟨a4,c4,rfl,_⟩:=hv4.openI;obtain⟨k4,hk4⟩:=gn ((limbs (q.den ^ n)).length);rw[hk4]at hv4 |-;have W4:=hid hv4;have L4:=hid l4;clear hk4 hv4 l4;have M:=hid (show IsQ .u64 w4 (.agg #[.bool (m1 && decide (n%2=1)),.slice a3 k3 c3,.slice a4 k4 c4]) (q ^ n) from⟨_,_,by rw[E1.out],by rw[E2.out];exact V4.out,by rw[E3.out];exact W4.out⟩);obtain⟨Q,hQ⟩:=gn (q ^ n);rw[hQ]at F3 M;clear hQ HOV F1 F2;have F4:=F3 _ _ M.out (HL.out.call y4.out) L3.out L4.out;cases m1
   focus
    simp only[Nd]at F4
   rotate_left
   focus
    simp only[Ej]at F4;have e9:((n:Int)%2==1)=decide (n%2=1):=by
     rw[Ay,Dk,K6];omega
    rw[<- e9]at F4;clear e9
   all_goals
    go_wp2_with fail;refine F4.out.mono ?_;rintro e w5 ⟨rfl,hb5⟩;have y5:=hid (a0a y4.out hb5);clear hb5;go_wp2_with fail;go_ret2
    exact⟨rfl,y5.out⟩
  .have e7:=hid (HOV.out (.inr l4));clear l4;go_wp2_with fail;go_ret2
   exact⟨by rw[e7.out.1,e7.out.2];rfl,y4.out⟩
 .have e7:=hid (HOV.out (.inl l3));clear l3;go_wp2_with fail;refine (F2 _ _ D3.out (HL.out.call y3.out)).out.mono ?_;rintro e w4 ⟨hr4,hb4⟩;have y4:=hid (a0a y3.out hb4);rcases hr4 with ⟨l4,v4,rfl,hv4⟩ | ⟨l4,rfl⟩
  .obtain⟨a4,c4,rfl,_⟩:=hv4.openI;obtain⟨k4,hk4⟩:=gn ((limbs (q.den ^ n)).length);rw[hk4];clear hk4 hv4 l4 hb4;go_wp2_with fail;go_ret2
   exact⟨by rw[e7.out.1,e7.out.2];rfl,y4.out⟩
  .clear l4 hb4;go_wp2_with fail;go_ret2
   exact⟨by rw[e7.out.1,e7.out.2];rfl,y4.out⟩
def pwB (n:Nat)(s:ByteArray):ByteArray:=z0z (· ^ n) s
def pwE (n:Nat)(s:ByteArray):Int:=z0y (· ^ n) s
def b1r (w:World)(s:ByteArray)(n:Nat)(hs:s.size<=1000000)(hn:n<=9223372036854775807)(hL:Lay w):
 Calls Tryz.prog 57 #[.string s,.int .i64 (n:Nat)] w fun e w'=>e=.returned (.tuple #[.string (pwB n s),.int .i64 (pwE n s)])/\Below w.heap.size w w':=by
 have HL:=hid hL;have b1:=hid ((Z3 w.heap.size w).alloc nr0 (.cells #[.int .i64 (n:Nat)] 3));have X1:=hid (Blk.new w #[.int .i64 (n:Nat)] 3);obtain⟨g1,hg1⟩:=gn (w.heap.size);obtain⟨w1,hw1⟩:=gn (w.alloc (.cells #[.int .i64 (n:Nat)] 3));have L1:=hid (HL.out.call b1.out);rw[hw1]at b1 X1 L1;rw[hg1]at X1
 have W1:=hid (m0M w1 s 156 #[.pointer (some ⟨g1,0,none⟩)] (c0p (vQ s ^ n)) (c0G (vQ s ^ n)) hs L1.out (Ch Tryz.func156 (by kernel_rfl) rfl)
  (fun W v hq hb hv hLW=>z0r W v (vQ s) n g1 hv (d0U hq) hn hLW ((X1.out.call hb).cell 0)))
 have e1:wB (c0p (vQ s ^ n)) s=pwB n s:=rfl;have e2:wE (c0G (vQ s ^ n)) s=pwE n s:=rfl;rw[e1,e2]at W1;obtain⟨B,hB⟩:=gn (pwB n s);obtain⟨E,hE⟩:=gn (pwE n s);rw[hB,hE]at W1 |-;have HW:=hid hw1;have HG:=hid hg1;clear hB hE hs hL hn e1 e2 hw1 hg1;go_enter Tryz.func57,Tryz.ntmps57;go_wp2_with fail;have hw1:=HW.out;have hg1:=HG.out;rw[hw1,hg1];refine W1.out.mono ?_;rintro e w2 ⟨rfl,hb2⟩;have y2:=hid (a0a b1.out hb2);clear hb2 hw1 hg1;go_wp2_with fail;go_ret2
 exact⟨rfl,y2.out⟩
end
section
open Go.RowKit
open Go.Lib (decDigits nDigits)
def f0W {a:ByteArray}(h:gPE a=0):qE a=0/\0<=(vQ a).num/\(vQ a).num.natAbs<(vQ a).den/\Dig 1000 (vQ a):=by
 have h2:=c0h h;unfold gPE at h
 split at h
 .rename_i he;exact absurd h he
 rename_i he
 have he':qE a=0:=Hu.1 he
 split at h
 .cases h
 rename_i hm
 split at h
 .cases h
 rename_i hl
 obtain⟨e1,e2,l1,l2,e3,e4⟩:=f0Z he' (fun h=>hm (.inl h)) hl;unfold eN at l1 l2;obtain⟨g1,g2,g3⟩:=i0e he';have hmf:iM (cW a)=false:=by
  have:¬ iM (cW a)=true:=fun h=>hm (.inl h)
  simpa using this
 rw[b0O hmf]at g2;refine⟨he',?_,by rw[g2,g3];exact h2.2,⟨by rw[g2];exact l1,by rw[g3];exact l2⟩⟩;rw[hmf]at g1;have:=Gk g1;omega
def m0p (n:Nat):2 ^ n≠0:=Mv (Ff (by omega))
def a1g {N D:Nat}(h:N<D)(two:Bool)(n:Nat):gL N D two n<=2 ^ n:=by have:=g0X h two n;omega
section
variable {a : ByteArray} {n : Nat} (hG : gPE a = 0) (hs : a.size <= 20) (hn : n <= 12)
include hG hs hn
end
end
section
open Go.RowKit
theorem p0R {N D:Nat}(h:N<D):∀ j,(sdx N D j).2=true->(sdx N D j).1=N*2 ^ j%D/\0<(sdx N D j).1/\(sdx N D j).1<D
 | 0,ho=>by
  simp only[sdx,K6]at ho |-;rw[El,De,Ba h];omega
 | j+1,ho=>by
  cases hj:(sdx N D j).2 with
  | false=>rw[e0y hj (j+1) (by omega)]at ho;cases ho
  | true=>
   obtain⟨h1,h2,h3⟩:=p0R h j hj;have e:N*2 ^ (j+1)%D=2*(sdx N D j).1%D:=by
    rw[h1,I8,<- U8,E9 _ 2,Nat.mul_mod_mod]
   rw[e];rw[sdx,hj,J2 rfl]at ho |-;generalize (sdx N D j).1=x at *
   by_cases hc:D<=2*x
   .rw[if_pos hc]at ho |-;simp only[decide_eq_true_eq]at ho;refine⟨?_,by dsimp only;omega,by dsimp only;omega⟩;dsimp only;rw[Nat.mod_eq_sub_mod hc,Nat.mod_eq_of_lt (by omega)]
   .rw[if_neg hc];exact⟨(Nat.mod_eq_of_lt (by omega)).symm,by dsimp only;omega,by dsimp only;omega⟩
def t0j {N D:Nat}(h:N<D)(j:Nat):
 a0C N D (j+1)=((sdx N D j).2 && decide (N*2 ^ (j+1) / D%2=1)) /\
 a0i N D (j+1)=((sdx N D j).2 && (!decide (N*2 ^ (j+1) / D%2=1) || (decide (N*2 ^ (j+1) / D%2=1) && decide (N*2 ^ (j+1)%D=0)))) /\
 (sdx N D (j+1)).2=((sdx N D j).2 && !(decide (N*2 ^ (j+1) / D%2=1) && decide (N*2 ^ (j+1)%D=0))):=by
 cases hj:(sdx N D j).2 with
 | false=>
  refine⟨by rw[a0C,hj];rfl,by rw[a0i,hj];rfl,?_⟩;rw[e0y hj (j+1) (by omega)];rfl
 | true=>
  obtain⟨h1,h2,h3⟩:=p0R h j hj;obtain⟨k,hk⟩:∃ k,N*2 ^ j=D*k+(sdx N D j).1:=⟨N*2 ^ j / D,by rw[h1];exact (Hk _ _).symm⟩;have e:N*2 ^ (j+1)=D*(2*k)+2*(sdx N D j).1:=by
   rw[I8,<- U8,hk,Ax,E9 2 k,<- U8];omega
  rw[a0C,a0i,sdx,hj,e];generalize (sdx N D j).1=x at *
  clear e hk h1 hj;simp only[Ej,Fm];have hD:0<D:=by omega
  by_cases hc:D<=2*x
  .have hq:(D*(2*k)+2*x) / D=2*k+1:=by
    rw[Lv hD,show 2*x=D+(2*x-D) by omega,Nat.add_div_left _ hD,Cz (by omega)]
   have hr:(D*(2*k)+2*x)%D=2*x-D:=by
    rw[Nat.mul_add_mod,Nat.mod_eq_sub_mod hc,Ba (by omega)]
   rw[hq,hr,J2 hc,E7 hc,E7 (show (2*k+1)%2=1 by omega)];refine⟨rfl,?_,?_⟩
   .simp only[Bool.not_true,Bool.false_or,Ej];rw[Fh];omega
   .simp only[Ej,ne_eq,decide_not]
    congr 1
    rw[Fh];omega
  .have hq:(D*(2*k)+2*x) / D=2*k:=by
    rw[Lv hD,Cz (by omega)];omega
   rw[hq,U0 hc,M6 hc,M6 (show ¬ 2*k%2=1 by omega)];refine⟨rfl,?_,rfl⟩;simp;omega
def r0V (f:Nat->Nat):cvo f pw2 0=f 0:=by simp[cvo,a0k,pw2]
def l0Y (f:Nat->Nat)(n:Nat):cvo f pw2 (n+1)=cvo f pw2 n+cvo f pw2 n+f (n+1):=by
 unfold cvo;rw[a0k];have e:a0k (fun s=>f s*pw2 (n+1-s)) (n+1)=a0k (fun s=>f s*pw2 (n-s)) (n+1)+a0k (fun s=>f s*pw2 (n-s)) (n+1):=by
  rw[<- b0U];refine a0d fun s hs=>?_
  unfold pw2;rw[show n+1-s=n-s+1 by omega,I8,Nat.mul_two,K9]
 rw[e,Ce];simp[pw2]
def p3 (N D n i k s:Nat)(v:Int):Nat:=if (k:Int)-(i:Int)=v then a0k (fun s'=>edn N D k s'*cw (n-s') (h0p N D i)) s else 0
def q3 (N D n i k:Nat)(v:Int):Nat:=a0k (fun k'=>p3 N D n i k' (n+1) v) k
def t3 (N D n i:Nat)(v:Int):Nat:=a0k (fun i'=>q3 N D n i' (n+1) v) i
def c3 (N D n i k s:Nat)(v:Int):Nat:=t3 N D n i v+q3 N D n i k v+p3 N D n i k s v
def f0d (N D n i k:Nat)(v:Int):p3 N D n i k 0 v=0:=by unfold p3;split<;>rfl
def y0n (N D n:Nat):c3 N D n 0 0 0=fun _=>0:=by funext v;simp[c3,t3,q3,f0d,a0k]
def b1P (N D n i k s:Nat):c3 N D n i k (s+1)=j0t (c3 N D n i k s) ((k:Int)-(i:Int)) (edn N D k s*cw (n-s) (h0p N D i)):=by
 funext v
 unfold j0t c3 p3;by_cases h:(k:Int)-(i:Int)=v
 .subst h;rw[J2 rfl,J2 rfl,J2 rfl,a0k];omega
 .rw[U0 h,U0 h,U0 (fun e=>h e.symm)]
def c1m (N D n i k:Nat):c3 N D n i k (n+1)=c3 N D n i (k+1) 0:=by
 funext v
 unfold c3;rw[f0d];unfold q3;rw[a0k];omega
def c1n (N D n i:Nat):c3 N D n i (n+1) 0=c3 N D n (i+1) 0 0:=by
 funext v
 unfold c3;rw[f0d,f0d];unfold t3;rw[a0k];simp only[q3,a0k]
def v0I {N D:Nat}(h:N<D)(n:Nat)(v:Int):c3 N D n (n+1) 0 0 v=gV N D true n v:=by
 rw[v0x h];unfold c3;rw[f0d];simp only[q3,a0k,Ac];unfold t3 q3;rw[g0s];refine a0d fun i _=>a0d fun k _=>?_
 unfold p3;by_cases hv:(i:Int)-(k:Int)=v
 .rw[J2 hv,J2 hv,l0U h k i n];unfold cvo;refine a0d fun s _=>?_
  rw[e0q h]
  rfl
 .rw[U0 hv,U0 hv]
def b1Q {N D n i k s:Nat}(h:N<D)(hi:i<=n)(hk:k<=n)(hs:s<=n+1)(v:Int):c3 N D n i k s v<=gV N D true n v:=by
 rw[<- v0I h];have a1:p3 N D n i k s v<=p3 N D n i k (n+1) v:=by
  unfold p3
  split
  .exact a0K hs
  .exact J4 _
 have a2:q3 N D n i k v+p3 N D n i k (n+1) v<=q3 N D n i (n+1) v:=by
  unfold q3;have:=a0K (f:=fun k'=>p3 N D n i k' (n+1) v) (show k+1<=n+1 by omega);rw[a0k]at this;exact this
 have a3:t3 N D n i v+q3 N D n i (n+1) v<=t3 N D n (n+1) v:=by
  unfold t3;have:=a0K (f:=fun i'=>q3 N D n i' (n+1) v) (show i+1<=n+1 by omega);rw[a0k]at this;exact this
 unfold c3;rw[f0d];simp only[q3,a0k];unfold q3 at a1 a2 a3;omega
def n0w {N D:Nat}(h:N<D)(n:Nat):a0k (fun i=>(b0L (a0C N D) (a0i N D) n (n+1)).2.getD i 0*cw (n-i) (f0A N D)) (n+1)=cw n (d0y N D):=by
 rw[<- m0s h n (J4 n),b0F];unfold cvo;refine a0d fun i hi=>?_
 rw[<- i0g h n (m:=n-i) (by omega)]
 rfl
def a0T {w w':World}(h:Below w.heap.size w w')(row:Option Nat):w.grownBy w' row:=⟨h.os,h.tape,h.output,h.size,fun k hk _=>h.block k hk⟩
open Go.Shelf
open Go.Lib (decDigits nDigits)
def Ku:=@Go.Proofs.Tryz.func139
def Jr:=@Go.Proofs.Tryz.ntmps139
def t0n (w:World)(s:ByteArray)(hs:s.size<=100000000):
 Calls Tryz.prog 139 #[.string s] w fun e w'=>e=.returned (.int .i64 (c0u s))/\w=w':=by
 have HC:=hid (m0K w s (by omega));by_cases hb:n0I s=true
 .have e0:j0s s=0:=J2 hb;rw[e0]at HC;by_cases hl:256<s.size
  .have e1:c0u s=4:=by rw[c0u,J2 hb,J2 hl]
   have q0:decide ((256:Int)<(s.size:Int))=true:=by simp;omega
   rw[e1];clear hb hl e0 e1;go_enter Ku,Jr;go_wp2_with fail;refine HC.out.mono ?_;rintro e w1 ⟨rfl,rfl⟩;go_wp2_with fail;go_ret
   exact⟨rfl,rfl⟩
  .have e1:c0u s=0:=by rw[c0u,J2 hb,U0 hl]
   have q0:decide ((256:Int)<(s.size:Int))=false:=by simp;omega
   rw[e1];clear hb hl e0 e1;go_enter Ku,Jr;go_wp2_with fail;refine HC.out.mono ?_;rintro e w1 ⟨rfl,rfl⟩;go_wp2_with fail;go_ret
   exact⟨rfl,rfl⟩
 .have e0:j0s s=3:=U0 hb;have e1:c0u s=3:=U0 hb;rw[e0]at HC;rw[e1];clear hb e0 e1;go_enter Ku,Jr;go_wp2_with fail;refine HC.out.mono ?_;rintro e w1 ⟨rfl,rfl⟩;go_wp2_with fail;go_ret
  exact⟨rfl,rfl⟩
def Ap (x o:Value)(n:Nat):Prop:=n=0\/∀ g,x.ownBlock=some g->o.ownBlock≠some g
def r0d {k:IntKind}{w:World}{v:Value}{n g:Nat}(h:IsN k w v n)(h0:n≠0)(hg:v.ownBlock=some g):g<w.heap.size:=by
 obtain⟨a,c,rfl,h1,h2,h3⟩:=h.openI;have hl:0<(limbs n).length:=by
  rw[b0v (by omega)];simp
 obtain⟨g',o,rfl,hg',hc⟩:=h3 0 _ (J0 hl);simp only[Value.ownBlock,Ad]at hg;omega
def e0N {k:IntKind}{w w':World}{row:Option Nat}{v:Value}{n:Nat}(h:IsN k w v n)(hg:w.grownBy w' row)(hne:n=0\/∀ g,v.ownBlock=some g->row≠some g):IsN k w' v n:=by
 obtain⟨a,c,rfl,h1,h2,h3⟩:=h.ex;rw[ints_length]at *;refine⟨a,c,by rw[ints_length],by rw[ints_length];exact h1,h2,fun i x hx=>?_⟩;obtain⟨g,o,rfl,hg',hc⟩:=h3 i x hx;rcases hne with rfl | hne
 .rw[limbs_zero]at hx;simp[b0p]at hx
 .exact⟨g,o,rfl,U6 hg' hg.size,hg.cell hc (fun e=>hne g rfl e.symm)⟩
def NRow (w:World)(v:Value)(m:Nat)(f:Nat->Nat):Prop:=∃ vs:List Value,vs.length=m/\Row w v vs/\∀ j x,vs[j]?=some x->IsN .i64 w x (f j)
theorem NRow.call {w w':World}{v:Value}{m:Nat}{f:Nat->Nat}(h:NRow w v m f)(hb:Below w.heap.size w w'):NRow w' v m f:=by
 obtain⟨vs,h1,h2,h3⟩:=h;exact⟨vs,h1,h2.call hb,fun j x hx=>(h3 j x hx).call hb⟩
theorem NRow.open {w:World}{v:Value}{m:Nat}{f:Nat->Nat}(h:NRow w v m f):∃ a c,v=.slice a m c/\m<=c/\c<=9223372036854775807/\∀ i,i<m->∃ g o x,a=some ⟨g,o,none⟩/\g<w.heap.size/\w.cell? ⟨g,o+i,none⟩=some x/\IsN .i64 w x (f i):=by
 obtain⟨vs,rfl,h2,h3⟩:=h;obtain⟨a,c,rfl,k1,k2,k3⟩:=h2.ex;refine⟨a,c,rfl,k1,by unfold maxLen at k2;omega,fun i hi=>?_⟩;obtain⟨x,hx⟩:∃ x,vs[i]?=some x:=⟨_,J0 hi⟩;obtain⟨g,o,e,q1,q2⟩:=k3 i x hx;exact⟨g,o,x,e,q1,q2,h3 i x hx⟩
def NOwn (B:Nat)(w:World)(v:Value)(m:Nat)(f:Nat->Nat):Prop:=∃ vs:List Value,w.ownsRow B 79 1 v m vs/\∀ j x,vs[j]?=some x->IsN .i64 w x (f j)/\Ap x v (f j)
theorem NOwn.nil (B:Nat)(w:World)(f:Nat->Nat):NOwn B w (.slice none 0 0) 0 f:=⟨[],Eb _ _ _ _,fun j x hx=>by simp at hx⟩
theorem NOwn.next {B B':Nat}{w w1 w3:World}{v v3 x:Value}{m:Nat}{f:Nat->Nat}{o:Obj}{vs:List Value}(k1:w.ownsRow B 79 1 v m vs)(k2:∀ j x,vs[j]?=some x->IsN .i64 w x (f j)/\Ap x v (f j))(hb:Below w.heap.size w w1)(hx:IsN .i64 w1 x (f m))(hB':w.heap.size<=B')(hf:∀ g,x.ownBlock=some g->B'<=g)
 (h3:w3.ownsRow B 79 1 v3 (m+1) (vs ++ [x])) (hg:(w1.alloc o).grownBy w3 v.ownBlock) (hat:v3.ownBlock=v.ownBlock\/v3.ownBlock=some (w1.alloc o).heap.size):NOwn B w3 v3 (m+1) f:=by
 have c1:(w1.alloc o).ownsRow B 79 1 v m vs:=(k1.kept (a0T hb none) (by cases hv:v.ownBlock<;>simp)).alloc o;have hal:Below w1.heap.size w1 (w1.alloc o):=br0.alloc nr0 o;refine⟨vs ++ [x],h3,fun j y hy=>?_⟩;have hl:vs.length=m:=by have:=k1.1;omega
 have key:IsN .i64 w1 y (f j)/\Ap y v (f j):=by
  by_cases hj:j<vs.length
  .rw[I9 hj]at hy;exact⟨(k2 j y hy).1.call hb,(k2 j y hy).2⟩
  .rw[G8 (by omega)]at hy;have hj':j-vs.length=0:=by
    rcases M7 (j-vs.length) with h | h
    .exact h
    .rw[I7 (by simp;omega)]at hy;cases hy
   rw[hj']at hy;obtain rfl:j=m:=by omega
   simp at hy;subst hy;refine⟨hx,.inr fun g hg' e=>?_⟩;have:=hf g hg';have:=(k1.lt g e).2;omega
 obtain⟨q1,q2⟩:=key;have q3:IsN .i64 (w1.alloc o) y (f j):=q1.call hal;refine⟨e0N q3 hg q2,?_⟩;by_cases h0:f j=0
 .exact .inl h0
 .refine .inr fun g hg'=>?_
  rcases q2 with e | q2
  .exact absurd e h0
  .rcases hat with e | e
   .rw[e];exact q2 g hg'
   .rw[e];intro e';injection e' with e'
    have:=r0d q3 h0 hg';omega
def x0m:(Tryz.prog.info? 79).map (fun i=>(i.zero,i.size,i.bytes))=some (some (.slice none 0 0),1,24):=by kernel_rfl
end
end Go.Proofs.YtfkpfpobmobnbaaGreatDoor
