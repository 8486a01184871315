/- Texts that the proof rests on, merged: Held, Held2, QW, L11, PkI, Pk11, Q2, Fr1, Fr3, Rt1, Mk, Pw1, Pw2, Np, Pl1, Pl2, Pl3, LyS, CdB, Pc0, Cv1, Tot, Cv2, Sh4, G1c, G2, QD, G3, G4, G5, C1, C2h. -/
import Derived.Test.YtlmnpocifldpmaaGreatDoorKc3
import Derived.Lib.SmallJoins
import Derived.Deep.RegionHeld3
import Derived.WalkSmall
import Derived.Maps.Own
import Derived.Maps.OwnIn
import Derived.Sort.CutIn
import Derived.Shelf.Small.Wraps
import Derived.Shelf.Strings.Shaped
import Derived.Ground.NamesProg
import Derived.Test.YtlmnpocifldpmaaGreatDoorProg
set_option linter.unusedVariables false
set_option linter.unusedSimpArgs false
set_option linter.unusedSectionVars false
set_option maxRecDepth 100000
set_option maxHeartbeats 8000000
namespace Go.Proofs.YtlmnpocifldpmaaGreatDoor
open Go.RowKit
variable {P : Program} {ops : Array Oper} {Q : Exit → Act → World → Prop} {md : Region.Mode}
def x0g:List Oper→Nat→Option Oper
 | [],_=>none
 | o::_,0=>some o
 | _::l,i+1=>x0g l i
theorem l0F:∀ (l:List Oper) (i:Nat) (o:Oper),x0g l i=some o→l.toArray[i]?=some o
 | [],_,_,h=>by cases h
 | o::_,0,_,h=>by simpa[x0g]using h
 | _::l,i+1,o,h=>by simpa using l0F l i o h
def e0i (P:Program)(l:List Oper)(S:World→Prop)(L:Act→Prop):List Nat→Act→Prop
 | [],a=>L a
 | i::rest,a=>∃ o,x0g l i=some o∧∃ v,YieldsIf P l.toArray S o v a∧e0i P l S L rest (a.put o.dst v)
def j0g (md:Region.Mode)(ops:Array Oper):List Nat→Array Bool→Bool
 | [],_=>true
 | i::is,listed=>(Region.ready md ops listed).contains i && Region.free md ops listed i && j0g md ops is (listed.setIfInBounds i true)
def m0u:List Nat→Array Bool→Array Bool
 | [],listed=>listed
 | i::is,listed=>m0u is (listed.setIfInBounds i true)
theorem c0v {l:List Oper}{S:World→Prop}(hsel:Region.noSelect l.toArray=true){g:Nat}{w:World}(hS:S w):∀ (is:List Nat) (listed:Array Bool) (a:Act),j0g md l.toArray is listed=true →
 e0i P l S (fun a'=>wpAnyH P md l.toArray (b0l Q) S g (m0u is listed) a' w) is a→wpAnyH P md l.toArray (b0l Q) S (g+is.length) listed a w
 | [],_,_,_,h=>h
 | i::is,listed,a,hB,h=>by
  simp only[j0g,Bool.and_eq_true]at hB;obtain⟨⟨hr,hf⟩,hB'⟩:=hB;obtain⟨o,ho,v,hy,hrest⟩:=h;have hQ:∀ c a w,b0l Q (.panic c) (Act.put a o.dst v) w→b0l Q (.panic c) a w:=fun _ _ _ h=>h
  exact wpAnyH_take (l0F _ _ _ ho) hsel hf hr hQ hy hS (c0v hsel hS is _ _ hB' hrest)
theorem a0n {id:Nat}{a:Act}{w:World}{l:List Oper}(is:List Nat)(g:Nat)(S:World→Prop)(hm:P.follows .mixedOrders=true)(hsel:Region.noSelect l.toArray=true)(hg:g+is.length=l.toArray.size)(hB:j0g .any l.toArray is (Array.replicate l.toArray.size false)=true)(hS:S w.drew)
 (h:e0i P l S (fun a'=>wpAnyH P .any l.toArray (b0l Q) S g (m0u is (Array.replicate l.toArray.size false)) a' w.drew) is a):(Code.region id l.toArray true).wp P Q a w:=by
 have h2:=c0v (P:=P) (md:=.any) (Q:=Q) (S:=S) hsel (g:=g) hS is (Array.replicate l.toArray.size false) a hB h;rw[hg]at h2;exact (wpIn_wide (n:=1)).1 (wpIn_region_any hm (j0O _ _ _ _ (wpAny_of_held (S:=S) _ _ _ _ h2)))
theorem a0Z {l:List Oper}{S:World→Prop}{is:List Nat}{g fuel:Nat}{listed:Array Bool}{a:Act}{w:World}(hsel:Region.noSelect l.toArray=true)(hf:fuel=g+is.length)(hS:S w)(hB:j0g md l.toArray is listed=true)
 (h:e0i P l S (fun a'=>wpAnyH P md l.toArray (b0l Q) S g (m0u is listed) a' w) is a):wpAnyH P md l.toArray (b0l Q) S fuel listed a w:=by
 rw[hf];exact c0v hsel hS is listed a hB h
end Go.Proofs.YtlmnpocifldpmaaGreatDoor
namespace Go.Proofs.YtlmnpocifldpmaaGreatDoor
open Go.RowKit
variable {P : Program} {ops : Array Oper} {Q : Exit → Act → World → Prop} {md : Region.Mode}
theorem p0n {S:World→Prop}{i:Nat}{o:Oper}{fuel:Nat}{listed:Array Bool}{a:Act}{w:World}(ho:ops[i]?=some o)(hg:o.guard=none)
 (h:wpList P ops (s0o P md ops (b0l Q) S fuel (listed.setIfInBounds i true)) [o] a w):wpOp P ops (b0l Q) i (fun a' w'=>S w'∧wpAnyH P md ops (b0l Q) S fuel (listed.setIfInBounds i true) a' w') a w:=by
 unfold wpOp;rw[ho];have hw:Region.wanted o (yielded ops a.tmps)=true:=by simp[Region.wanted,hg]
 simp only[hw,if_true];unfold wpList at h;rw[if_pos hw]at h;rcases h with h | ⟨_,_,_,h⟩
 ·left
  unfold Oper.wp at *;generalize (execOp a.eval o).run P w=r at *
  cases r with
  | ok m w'=>
   cases m<;>simp only[Oper.upon]at h ⊢
   case value u=>exact h
   case skip=>exact h
   case defer d=>exact h
   case enter f args=>
    refine Calls.mono h fun e w'' he=>?_
    cases e with
    | returned u=>exact he
    | panicked c=>exact he.elim
    | outgrown=>obtain⟨_,_,hx⟩:=he;exact hx.elim
   case row row args=>exact h
  | halt x w'=>
   cases x<;>simp only[Oper.upon]at h ⊢
   case panic u=>exact h.elim
 ·exact h.elim
theorem e0I {S:World→Prop}{i j:Nat}{oi oj:Oper}{fuel:Nat}{listed:Array Bool}{a:Act}{w:World}(hr:Region.ready md ops listed = [i,j])(hi:ops[i]?=some oi)(hj:ops[j]?=some oj)(hgi:oi.guard=none)(hgj:oj.guard=none)
 (h1:wpList P ops (s0o P md ops (b0l Q) S fuel (listed.setIfInBounds i true)) [oi] a w)
 (h2:wpList P ops (s0o P md ops (b0l Q) S fuel (listed.setIfInBounds j true)) [oj] a w):wpAnyH P md ops (b0l Q) S (fuel+1) listed a w:=by
 refine wpAnyH_all hr (by simp) fun k hk=>?_
 rcases List.mem_cons.1 hk with rfl | hk
 ·exact p0n hi hgi h1
 ·obtain rfl:k=j:=by simpa using hk
  exact p0n hj hgj h2
end Go.Proofs.YtlmnpocifldpmaaGreatDoor
namespace Go.Proofs.YtlmnpocifldpmaaGreatDoor
open Go.RowKit
open Go.Lib (decDigits nDigits)
def NoInt (cs:Array Value):Prop:=∀ (i:Nat) (k:IntKind) (x:Int),cs[i]? ≠ some (.int k x)
theorem NoInt.three (m:Bool)(a b:Option Addr)(n c n' c':Nat):NoInt #[.bool m,.slice a n c,.slice b n' c']:=by
 intro i k x h;rcases i with _ | _ | _ | i<;>simp at h
theorem IsN.setQ {k:IntKind}{w:World}{v:Value}{n b:Nat}{cs:Array Value}{t:TypeId}(h:IsN k w v n)(hb:Blk w b cs t)(hc:NoInt cs)(j:Nat)(u:Value):IsN k (w.setCell ⟨b,j,none⟩ u) v n:=by
 obtain⟨a,c,rfl,h1,h2,h3⟩:=h.ex;refine⟨a,c,rfl,h1,h2,fun i x hx=>?_⟩;obtain⟨g,o,e,hg,hcell⟩:=h3 i x hx;refine⟨g,o,e,by simpa[World.setCell]using hg,?_⟩;have hne:g≠b:=by
  rintro rfl;rw[hb.cell]at hcell;have:x∈b0c k (limbs n):=List.mem_of_getElem? hx;obtain⟨y,_,rfl⟩:=List.mem_map.1 this;exact hc _ _ _ hcell
 rw[← hcell];unfold World.cell?;rw[Below.heap_setCell _ _ _ _ (by simpa using hne)]
theorem c0c {w:World}{b:Nat}{m0:Bool}{a0 b0:Option Addr}{n0 c0 n1 c1:Nat}{t:TypeId}(hb:Blk w b #[.bool m0,.slice a0 n0 c0,.slice b0 n1 c1] t)(m:Bool)(a a':Option Addr)(n c n' c':Nat):
 (∀ (k:IntKind) (v:Value) (x:Nat),IsN k w v x→IsN k (((w.setCell ⟨b,0,none⟩ (.bool m)).setCell ⟨b,1,none⟩ (.slice a n c)).setCell ⟨b,2,none⟩ (.slice a' n' c')) v x) ∧
 Blk (((w.setCell ⟨b,0,none⟩ (.bool m)).setCell ⟨b,1,none⟩ (.slice a n c)).setCell ⟨b,2,none⟩ (.slice a' n' c')) b #[.bool m,.slice a n c,.slice a' n' c'] t:=by
 have h1:=hb.set 0 (.bool m);have h2:=h1.set 1 (.slice a n c);have h3:=h2.set 2 (.slice a' n' c');simp at h1 h2 h3;refine⟨fun k v x h=>?_,h3⟩;exact ((h.setQ hb (NoInt.three _ _ _ _ _ _ _) 0 _).setQ h1 (NoInt.three _ _ _ _ _ _ _) 1 _).setQ h2 (NoInt.three _ _ _ _ _ _ _) 2 _
end Go.Proofs.YtlmnpocifldpmaaGreatDoor
namespace Go.Proofs.YtlmnpocifldpmaaGreatDoor
open Go.RowKit
def isZ (n:Nat):Bool:=decide (n=0)
def isO (n:Nat):Bool:=decide (n=1)
theorem p0i {n:Nat}:isZ n=true↔n=0:=by simp[isZ]
theorem d0Y {n:Nat}:isO n=true↔n=1:=by simp[isO]
theorem g0v {n:Nat}:(limbs n).length=0↔n=0:=by
 rw[List.length_eq_zero_iff];exact b0D
theorem f0d (w:World)(v:Value)(n:Nat)(h:IsN .u64 w v n):Calls Tryz.prog 191 #[v] w fun e w'=>e=.returned (.bool (isZ n))∧w=w':=by
 obtain⟨a,c,rfl,h1,h2,-⟩:=h.openI;obtain⟨L,hL⟩:∃ L,(limbs n).length=L:=⟨_,rfl⟩;have hz:isZ n=((L:Int)==0):=by
  rw[Bool.eq_iff_iff,p0i,beq_iff_eq];rw[← g0v,hL];omega
 have HZ:=hid hz;rw[hL];clear h hL hz h1;go_enter Tryz.func191,Tryz.ntmps191;go_wp2_with fail;go_ret
 exact⟨by rw[HZ.out];first | rfl | simp,rfl⟩
theorem k0A (w:World)(v:Value)(n:Nat)(h:IsN .u64 w v n):Calls Tryz.prog 129 #[v] w fun e w'=>e=.returned (.bool (isO n))∧w=w':=by
 obtain⟨a,c,rfl,h1,h2,h3⟩:=h.openI;by_cases hl:(limbs n).length=1
 ·obtain⟨x,hx⟩:∃ x,(limbs n)[0]?=some x:=⟨_,List.getElem?_eq_getElem (by omega)⟩;obtain⟨g,o,rfl,hg,hc⟩:=h3 0 x hx;rw[Nat.add_zero]at hc;have hn:n=x:=by
   have h4:limbs n = [x]:=by
    apply List.ext_getElem?
    intro i;rcases i with _ | i
    ·exact hx
    ·rw[List.getElem?_eq_none (by omega)];simp
   have:=a0q n;rw[h4]at this;simpa[a0E]using this.symm
  subst hn;have HL:=hid hl;rw[hl];clear hl hx h3 h h1;by_cases h1:n=1
  ·subst h1;go_enter Tryz.func129,Tryz.ntmps129;go_wp2_with fail;go_ret
   exact⟨rfl,rfl⟩
  ·have q1:((n:Int)==1)=false:=beq_eq_false_iff_ne.2 (by omega);have H1:=hid (show isO n=false by simp[isO,h1]);clear h1;go_enter Tryz.func129,Tryz.ntmps129;go_wp2_with fail;go_ret
   exact⟨l0t (by rw[H1.out]),rfl⟩
 ·obtain⟨L,hL⟩:∃ L,(limbs n).length=L:=⟨_,rfl⟩;have hn:isO n=false:=by
   refine Bool.eq_false_iff.2 fun e=>hl ?_
   rw[d0Y.1 e,d0f];rfl
  rw[hL]at hl ⊢;have q1:((L:Int)==1)=false:=beq_eq_false_iff_ne.2 (by omega);have H1:=hid hn;clear hl hn hL h h3 h1;go_enter Tryz.func129,Tryz.ntmps129;go_wp2_with fail;go_ret
  exact⟨l0t (by rw[H1.out]),rfl⟩
open Go.Shelf
open Go.Lib (decDigits nDigits)
theorem v0E (w:World)(n:Nat)(h:n≤9223372036854775807)(hL:Lay w):
 Calls Tryz.prog 38 #[.int .i64 (n:Nat)] w fun e w'=>e=.returned (.string (a0f n))∧Below w.heap.size w w':=by
 refine (Tryz.strconv_Itoa (n:Int) (by omega) (by omega) w hL.tab).mono ?_;rintro e w' ⟨rfl,k,os,rfl⟩;have en:(⟨(Lib.itoa (n:Int)).toArray⟩:ByteArray)=a0f n:=by
  unfold a0f Lib.itoa;rw[if_neg (by omega)];rfl
 exact⟨by rw[en],e0V w k os⟩
end Go.Proofs.YtlmnpocifldpmaaGreatDoor
namespace Go.Proofs.YtlmnpocifldpmaaGreatDoor
open Go.RowKit
open Go.Shelf
open Go.Lib (decDigits nDigits decNat decFrom digitVal)
theorem s0m (n:Nat):Lib.atoi (decDigits n)=some (n:Int):=by
 have hd:=b0I n;have hne:decDigits n ≠ []:=by
  intro e;have:=Lib.decDigits_length n;rw[e]at this;have:=s0L n;simp at *;omega
 have hv:decNat (decDigits n)=some n:=by
  unfold decNat;rw[if_neg (by simpa using hne),h0c hd,j0J,Nat.mul_zero,Nat.zero_add]
 cases h:decDigits n with
 | nil=>exact absurd h hne
 | cons b r=>
  have hb:=a0K.1 (hd b (by rw[h];exact List.mem_cons_self ..));unfold Lib.atoi;have n1:(b==45)=false:=by rw[beq_eq_false_iff_ne];rintro rfl;revert hb;decide
  have n2:(b==43)=false:=by rw[beq_eq_false_iff_ne];rintro rfl;revert hb;decide
  simp only[n1,n2,Bool.false_eq_true,if_false];rw[← h,hv];rfl
end Go.Proofs.YtlmnpocifldpmaaGreatDoor
namespace Go.Proofs.YtlmnpocifldpmaaGreatDoor
theorem k0B {q:Rat}(h0:q≠0):(decide (q⁻¹.num<0))=decide (q.num<0)∧q⁻¹.num.natAbs=q.den∧q⁻¹.den=q.num.natAbs:=by
 have hn:q.num≠0:=fun e=>h0 (Rat.num_eq_zero.1 e)
 have hd:=q.den_pos;by_cases hneg:q.num<0
 ·have:q⁻¹ = Rat.inv q:=rfl;rw[this];unfold Rat.inv;rw[dif_pos hneg];simp[hneg];omega
 ·have hp:q.num > 0:=by omega
  have:q⁻¹ = Rat.inv q:=rfl;rw[this];unfold Rat.inv;rw[dif_neg hneg,dif_pos hp];simp[hneg]
theorem t0C (p q:Int):sgn (decide (p<0) != decide (q<0)) (p.natAbs*q.natAbs)=p*q:=by
 have hp:=g0J p;have hq:=g0J q;generalize decide (p<0)=m at *
 generalize decide (q<0)=n at *
 generalize p.natAbs=a at *
 generalize q.natAbs=b at *
 subst hp hq;cases m<;>cases n<;>simp[sgn,Int.neg_mul,Int.mul_neg]
theorem h0F (p q:Rat):qmk (decide (p.num<0) != decide (q.num<0)) (p.num.natAbs*q.num.natAbs) (p.den*q.den)=p*q:=by
 unfold qmk;rw[t0C,Rat.mkRat_mul_mkRat _ _ _ _ |>.symm,Rat.mkRat_self,Rat.mkRat_self]
open Go.RowKit
open Go.Lib (decDigits nDigits)
theorem w0D (w:World):Calls Tryz.prog 192 #[] w fun e w'=>n0n .u64 0 e w'∧Below w.heap.size w w':=by
 go_enter Tryz.func192,Tryz.ntmps192;go_wp2_with fail;refine (x0L _ 1 (by omega)).mono ?_;rintro e w1 ⟨⟨v1,rfl,hv1⟩,hb1⟩;obtain⟨a3,c3,rfl,_⟩:=hv1.openI;have HV:=hid hv1;have HB:=hid (show Blk w1 w.heap.size #[.bool false,.slice none 0 0,.slice none 0 0] 94 from (Blk.new w _ _).call hb1);have d0:=HB.out.cell 0;have d1:=HB.out.cell 1;have d2:=HB.out.cell 2;have e0:=HB.out.free 0;have e1:=HB.out.free 1;have e2:=HB.out.free 2;have HBB:=hid hb1;clear hb1 hv1;simp at d0 d1 d2;go_wp2_with fail;obtain⟨s1,s2⟩:=c0c HB.out false none a3 0 0 (limbs 1).length c3;have f0:=s2.cell 0;have f1:=s2.cell 1;have f2:=s2.cell 2;simp at f0 f1 f2;refine bodyPost_ret (v:=.agg #[.bool false,.slice none 0 0,.slice a3 (limbs 1).length c3]) (by simp[results,Tryz.results192,go_sem,f0,f1,f2]) rfl ⟨⟨_,rfl,IsQ.zero_ (s1 _ _ _ (IsN.zero _ _)) (s1 _ _ _ HV.out)⟩,?_⟩;exact (((((Below.refl _ _).alloc (Nat.le_refl _) _).trans (HBB.out.mono (by simp))).setCell (Nat.le_refl _) _).setCell (Nat.le_refl _) _).setCell (Nat.le_refl _) _
theorem o0r {m:Bool}{n d:Nat}(hn:0<n)(hd:0<d){k:IntKind}{w:World}{N D:Value}(hg:Nat.gcd n d=1)(h1:IsN k w N n)(h2:IsN k w D d):IsQ k w (.agg #[.bool m,N,D]) (qmk m n d):=
 IsQ.mk' hn hd (by rw[hg,Nat.div_one];exact h1) (by rw[hg,Nat.div_one];exact h2)
theorem j0D (w:World)(m:Bool)(v u:Value)(n d:Nat)(hn:IsN .u64 w v n)(hd:IsN .u64 w u d)(h0:0<d)(hln:(limbs n).length≤1000000)(hld:(limbs d).length≤1000000):
 Calls Tryz.prog 120 #[.bool m,v,u] w fun e w'=>n0n .u64 (qmk m n d) e w'∧Below w.heap.size w w':=by
 have HN:=hid hn;have HD:=hid hd;obtain⟨a1,c1,rfl,_⟩:=hn.openI;obtain⟨a2,c2,rfl,_⟩:=hd.openI;obtain⟨k1,hk1⟩:∃ k,(limbs n).length=k:=⟨_,rfl⟩;obtain⟨k2,hk2⟩:∃ k,(limbs d).length=k:=⟨_,rfl⟩;have LN:=hid hln;have LD:=hid hld;have H0:=hid h0;rw[hk1]at HN ⊢;rw[hk2]at HD ⊢;have b0:=hid ((Below.refl w.heap.size w).alloc (Nat.le_refl _) (.cells #[.bool false,.slice none 0 0,.slice none 0 0] 94));have x0:=hid (Blk.new w #[.bool false,.slice none 0 0,.slice none 0 0] 94);have N0:=hid (HN.out.call b0.out);have D0:=hid (HD.out.call b0.out);clear hn hd hln hld h0 hk1 hk2;rcases Nat.eq_zero_or_pos n with rfl | hp
 ·have hq:=hid (l0y m d);rw[hq.out];have hz:isZ 0=true:=rfl;go_enter Tryz.func120,Tryz.ntmps120;go_wp2_with fail;refine (f0d _ _ _ N0.out).mono ?_;rintro e w1 ⟨rfl,rfl⟩;rw[hz];clear hz;go_wp2_with fail;refine (w0D _).mono ?_;rintro e w1 ⟨⟨v1,rfl,hv1⟩,hb1⟩;obtain⟨M,D,rfl,h2,h3⟩:=hv1.ex;obtain⟨a3,c3,rfl,_⟩:=h2.openI;obtain⟨a4,c4,rfl,_⟩:=h3.openI;have hm:decide ((0:Rat).num<0)=false:=rfl;rw[hm];have HB:=hid (x0.out.call hb1);have BB:=hid (a0a b0.out hb1);have d0:=HB.out.cell 0;have d1:=HB.out.cell 1;have d2:=HB.out.cell 2;have e0:=HB.out.free 0;have e1:=HB.out.free 1;have e2:=HB.out.free 2;have H2:=hid h2;have H3:=hid h3;clear hb1 hv1 h2 h3 hm;simp at d0 d1 d2;obtain⟨l1,hl1⟩:∃ k,(limbs (0:Rat).num.natAbs).length=k:=⟨_,rfl⟩;obtain⟨l2,hl2⟩:∃ k,(limbs (0:Rat).den).length=k:=⟨_,rfl⟩;rw[hl1]at H2 ⊢;rw[hl2]at H3 ⊢;clear hl1 hl2;go_wp2_with fail;obtain⟨s1,s2⟩:=c0c HB.out false a3 a4 l1 c3 l2 c4;have f0:=s2.cell 0;have f1:=s2.cell 1;have f2:=s2.cell 2;simp at f0 f1 f2;refine bodyPost_ret (v:=.agg #[.bool false,.slice a3 l1 c3,.slice a4 l2 c4]) (by simp[results,Tryz.results120,go_sem,f0,f1,f2]) rfl ⟨⟨_,rfl,⟨_,_,rfl,s1 _ _ _ H2.out,s1 _ _ _ H3.out⟩⟩,?_⟩;exact ((BB.out.setCell (Nat.le_refl _) _).setCell (Nat.le_refl _) _).setCell (Nat.le_refl _) _
 ·have hz:isZ n=false:=by unfold isZ;simpa using (by omega:n≠0)
  have HP:=hid hp;clear hp;by_cases h1:d=1
  ·have ho:isO d=true:=d0Y.2 h1;have HG:=hid (show Nat.gcd n d=1 by rw[h1,Nat.gcd_one_right]);clear h1;go_enter Tryz.func120,Tryz.ntmps120;go_wp2_with fail;refine (f0d _ _ _ N0.out).mono ?_;rintro e w1 ⟨rfl,rfl⟩;rw[hz];clear hz;go_wp2_with fail;refine (k0A _ _ _ D0.out).mono ?_;rintro e w1 ⟨rfl,rfl⟩;rw[ho];clear ho;go_wp2_with fail;have hB:=Blk.new w #[.bool m,.slice a1 k1 c1,.slice a2 k2 c2] 94;have f0:=hB.cell 0;have f1:=hB.cell 1;have f2:=hB.cell 2;simp at f0 f1 f2;have b1:=(Below.refl w.heap.size w).alloc (Nat.le_refl _) (.cells #[.bool m,.slice a1 k1 c1,.slice a2 k2 c2] 94);refine bodyPost_ret (v:=.agg #[.bool m,.slice a1 k1 c1,.slice a2 k2 c2]) (by simp[results,Tryz.results120,go_sem]) rfl ⟨⟨_,rfl,o0r HP.out H0.out HG.out (HN.out.call b1) (HD.out.call b1)⟩,b1⟩
  ·have ho:isO d=false:=by unfold isO;simpa using h1
   obtain⟨g,hg⟩:∃ g,Nat.gcd n d=g:=⟨_,rfl⟩;have hgp:0<g:=hg ▸ Nat.gcd_pos_of_pos_left d HP.out;have HG:=hid hg;have HGP:=hid hgp;clear h1 hg hgp;go_enter Tryz.func120,Tryz.ntmps120;go_wp2_with fail;refine (f0d _ _ _ N0.out).mono ?_;rintro e w1 ⟨rfl,rfl⟩;rw[hz];clear hz;go_wp2_with fail;refine (k0A _ _ _ D0.out).mono ?_;rintro e w1 ⟨rfl,rfl⟩;rw[ho];clear ho;go_wp2_with fail;refine (w0k _ _ _ _ _ N0.out D0.out LN.out LD.out).mono ?_;rintro e w1 ⟨⟨v1,rfl,hv1⟩,hb1⟩;rw[HG.out]at hv1;have x1:=hid (x0.out.call hb1);have b1:=hid (a0a b0.out hb1);have N1:=hid (N0.out.call hb1);have D1:=hid (D0.out.call hb1);have G1:=hid hv1;clear hb1 hv1;obtain⟨a5,c5,rfl,_⟩:=G1.out.openI;obtain⟨k5,hk5⟩:∃ k,(limbs g).length=k:=⟨_,rfl⟩;rw[hk5]at G1 ⊢;clear hk5;go_wp2_with fail;refine (k0A _ _ _ G1.out).mono ?_;rintro e w2 ⟨rfl,rfl⟩;by_cases hg1:g=1
   ·have ho:isO g=true:=d0Y.2 hg1;have HG1:=hid (show Nat.gcd n d=1 by rw[HG.out,hg1]);rw[ho];have d0:=x1.out.cell 0;have d1:=x1.out.cell 1;have d2:=x1.out.cell 2;have e0:=x1.out.free 0;have e1:=x1.out.free 1;have e2:=x1.out.free 2;simp at d0 d1 d2;clear ho hg1;go_wp2_with fail;obtain⟨s1,s2⟩:=c0c x1.out m a1 a2 k1 c1 k2 c2;have f0:=s2.cell 0;have f1:=s2.cell 1;have f2:=s2.cell 2;simp at f0 f1 f2;refine bodyPost_ret (v:=.agg #[.bool m,.slice a1 k1 c1,.slice a2 k2 c2]) (by simp[results,Tryz.results120,go_sem,f0,f1,f2]) rfl ⟨⟨_,rfl,o0r HP.out H0.out HG1.out (s1 _ _ _ N1.out) (s1 _ _ _ D1.out)⟩,?_⟩;exact ((b1.out.setCell (Nat.le_refl _) _).setCell (Nat.le_refl _) _).setCell (Nat.le_refl _) _
   ·have ho:isO g=false:=by unfold isO;simpa using hg1
    rw[ho];clear ho hg1;go_wp2_with fail;refine (h0W _ _ _ n g N1.out G1.out HGP.out LN.out).mono ?_;rintro e w2 ⟨⟨v2,v3,rfl,hv2,-⟩,hb2⟩;have x2:=hid (x1.out.call hb2);have b2:=hid (a0a b1.out hb2);have D2:=hid (D1.out.call hb2);have G2:=hid (G1.out.call hb2);have V2:=hid hv2;clear hb2 hv2;go_wp2_with fail;refine (h0W _ _ _ d g D2.out G2.out HGP.out LD.out).mono ?_;rintro e w3 ⟨⟨v4,v5,rfl,hv4,-⟩,hb3⟩;have x3:=hid (x2.out.call hb3);have b3:=hid (a0a b2.out hb3);have W2:=hid (V2.out.call hb3);have W4:=hid hv4;clear hb3 hv4;obtain⟨a6,c6,rfl,_⟩:=W2.out.openI;obtain⟨a7,c7,rfl,_⟩:=W4.out.openI;have d0:=x3.out.cell 0;have d1:=x3.out.cell 1;have d2:=x3.out.cell 2;have e0:=x3.out.free 0;have e1:=x3.out.free 1;have e2:=x3.out.free 2;simp at d0 d1 d2;go_wp2_with fail;obtain⟨s1,s2⟩:=c0c x3.out m a6 a7 (limbs (n / g)).length c6 (limbs (d / g)).length c7;have f0:=s2.cell 0;have f1:=s2.cell 1;have f2:=s2.cell 2;simp at f0 f1 f2;refine bodyPost_ret (v:=.agg #[.bool m,.slice a6 (limbs (n / g)).length c6,.slice a7 (limbs (d / g)).length c7]) (by simp[results,Tryz.results120,go_sem,f0,f1,f2]) rfl ⟨⟨_,rfl,IsQ.mk' HP.out H0.out (HG.out ▸ s1 _ _ _ W2.out) (HG.out ▸ s1 _ _ _ W4.out)⟩,?_⟩;exact ((b3.out.setCell (Nat.le_refl _) _).setCell (Nat.le_refl _) _).setCell (Nat.le_refl _) _
theorem o0C {q:Rat}(h:ovQ q):c0I q=⟨#[]⟩:=if_pos h
theorem t0Y {q:Rat}(h:¬ ovQ q):c0I q=txQ q:=if_neg h
theorem o0B {q:Rat}(h:ovQ q):c0U q=5:=if_pos h
theorem t0X {q:Rat}(h:¬ ovQ q):c0U q=0:=if_neg h
theorem c0A (a b:ByteArray):(a++b).data.toList=a.data.toList++b.data.toList:=by simp
theorem v0o (n:Nat):txB false n 1=a0f n:=by apply a0Y;simp[txB,a0f]
theorem v0m (n:Nat):txB true n 1=⟨#[45]⟩++a0f n:=by apply a0Y;rw[c0A,c0g,a0z];simp
theorem v0n (n d:Nat)(h:d≠1):txB false n d=a0f n++(⟨#[47]⟩++a0f d):=by apply a0Y;rw[c0A,c0A,c0g,a0z,a0z,if_neg h];simp
theorem v0l (n d:Nat)(h:d≠1):txB true n d=⟨#[45]⟩++a0f n++(⟨#[47]⟩++a0f d):=by apply a0Y;rw[c0A,c0A,c0A,c0g,a0z,a0z,if_neg h];simp
theorem m0Y (w:World)(v:Value)(q:Rat)(h:IsQ .u64 w v q)(h1:(limbs q.num.natAbs).length≤1000000)(h2:(limbs q.den).length≤1000000)(hL:Lay w):
 Calls Tryz.prog 57 #[v] w fun e w'=>e=.returned (.tuple #[.string (c0I q),.int .i64 (c0U q)])∧Below w.heap.size w w':=by
 obtain⟨N,D,rfl,hn,hd⟩:=h.ex;obtain⟨m,hm⟩:∃ m,decide (q.num<0)=m:=⟨_,rfl⟩;have HN:=hid hn;have HD:=hid hd;have HM:=hid hm;have HL:=hid hL;have L1:=hid h1;have L2:=hid h2;rw[hm];obtain⟨a1,c1,rfl,_⟩:=hn.openI;obtain⟨a2,c2,rfl,_⟩:=hd.openI;obtain⟨k1,hk1⟩:∃ k,(limbs q.num.natAbs).length=k:=⟨_,rfl⟩;obtain⟨k2,hk2⟩:∃ k,(limbs q.den).length=k:=⟨_,rfl⟩;rw[hk1]at HN ⊢;rw[hk2]at HD ⊢;have b0:=hid ((Below.refl w.heap.size w).alloc (Nat.le_refl _) (.cells #[.bool m,.slice a1 k1 c1,.slice a2 k2 c2] 94));have x0:=hid (Blk.new w #[.bool m,.slice a1 k1 c1,.slice a2 k2 c2] 94);have N0:=hid (HN.out.call b0.out);have D0:=hid (HD.out.call b0.out);clear hn hd hm h hk1 hk2 hL h1 h2;by_cases o1:4000<nDigits q.num.natAbs
 ·have ho:ovQ q:=.inl o1;rw[o0C ho,o0B ho];have q0:decide ((4000:Int)<(nDigits q.num.natAbs:Nat))=true:=by simp;omega
  clear o1 ho;go_enter Tryz.func57,Tryz.ntmps57;go_wp2_with fail;refine (b0V _ _ _ N0.out (HL.out.call b0.out) L1.out).mono ?_;rintro e w1 ⟨rfl,hb1⟩;have b1:=hid (a0a b0.out hb1);clear hb1;go_wp2_with fail;go_ret2
  exact⟨rfl,b1.out⟩
 ·have q0:decide ((4000:Int)<(nDigits q.num.natAbs:Nat))=false:=by simp;omega
  by_cases o2:4000<nDigits q.den
  ·have ho:ovQ q:=.inr o2;rw[o0C ho,o0B ho];have q1:decide ((4000:Int)<(nDigits q.den:Nat))=true:=by simp;omega
   clear o1 ho o2;go_enter Tryz.func57,Tryz.ntmps57;go_wp2_with fail;refine (b0V _ _ _ N0.out (HL.out.call b0.out) L1.out).mono ?_;rintro e w1 ⟨rfl,hb1⟩;have b1:=hid (a0a b0.out hb1);have D1:=hid (D0.out.call hb1);have x1:=x0.out.call hb1;have r2:=x1.cell 2;simp at r2;clear hb1 x1;go_wp2_with fail;refine (b0V _ _ _ D1.out (HL.out.call b1.out) L2.out).mono ?_;rintro e w2 ⟨rfl,hb2⟩;have b2:=hid (a0a b1.out hb2);clear hb2 r2;go_wp2_with fail;go_ret2
   exact⟨rfl,b2.out⟩
  ·have ho:¬ ovQ q:=fun h=>h.elim o1 o2
   rw[t0Y ho,t0X ho];have q1:decide ((4000:Int)<(nDigits q.den:Nat))=false:=by simp;omega
   obtain⟨z,hz⟩:∃ z,isO q.den=z:=⟨_,rfl⟩;have HO:=fun W h=>hid (k0A W (.slice a2 k2 c2) q.den h)
   rw[hz]at HO;have HT:Hid (txQ q=txB m q.num.natAbs q.den):=by rw[← HM.out];rfl
   have HZ:=hid hz;rw[HT.out];obtain⟨T,hT⟩:∃ T,txB m q.num.natAbs q.den=T:=⟨_,rfl⟩;have HTT:=hid hT;rw[hT];have HS1:=fun W hv hL=>hid (h0V W (.slice a1 k1 c1) q.num.natAbs hv hL L1.out)
   have HS2:=fun W hv hL=>hid (h0V W (.slice a2 k2 c2) q.den hv hL L2.out)
   have en:(⟨(Lib.decDigits q.num.natAbs).toArray⟩:ByteArray)=a0f q.num.natAbs:=rfl;have ed:(⟨(Lib.decDigits q.den).toArray⟩:ByteArray)=a0f q.den:=rfl;rw[en]at HS1;rw[ed]at HS2;obtain⟨sn,hsn⟩:∃ s,a0f q.num.natAbs=s:=⟨_,rfl⟩;obtain⟨sd,hsd⟩:∃ s,a0f q.den=s:=⟨_,rfl⟩;rw[hsn]at HS1;rw[hsd]at HS2;have HSN:=hid hsn;have HSD:=hid hsd;have hs1:sn.size≤4000:=by rw[← hsn,a0W];omega
   have hs2:sd.size≤4000:=by rw[← hsd,a0W];omega
   clear o1 ho o2 hT hz en ed hsn hsd;go_enter Tryz.func57,Tryz.ntmps57;go_wp2_with fail;refine (b0V _ _ _ N0.out (HL.out.call b0.out) L1.out).mono ?_;rintro e w1 ⟨rfl,hb1⟩;have b1:=hid (a0a b0.out hb1);have D1:=hid (D0.out.call hb1);have x1:=hid (x0.out.call hb1);have N1:=hid (N0.out.call hb1);have r2:=x1.out.cell 2;simp at r2;clear hb1;go_wp2_with fail;refine (b0V _ _ _ D1.out (HL.out.call b1.out) L2.out).mono ?_;rintro e w2 ⟨rfl,hb2⟩;have b2:=hid (a0a b1.out hb2);have D2:=hid (D1.out.call hb2);have x2:=hid (x1.out.call hb2);have N2:=hid (N1.out.call hb2);have r1:=x2.out.cell 1;simp at r1;clear hb2 r2;go_wp2_with fail;refine (HS1 _ N2.out (HL.out.call b2.out)).out.mono ?_;rintro e w3 ⟨rfl,hb3⟩;have b3:=hid (a0a b2.out hb3);have D3:=hid (D2.out.call hb3);have x3:=hid (x2.out.call hb3);have r0:=x3.out.cell 0;have r2:=x3.out.cell 2;simp at r0 r2;clear hb3 r1 HS1;cases m
   ·go_wp2_with fail;refine (HO _ D3.out).out.mono ?_;rintro e w4 ⟨rfl,rfl⟩;cases z
    ·go_wp2_with fail;refine (HS2 _ D3.out (HL.out.call b3.out)).out.mono ?_;rintro e w5 ⟨rfl,hb5⟩;have b5:=hid (a0a b3.out hb5);clear hb5 r0 r2;go_wp2_with fail;go_ret2
     have hTe:T=sn++(⟨#[47]⟩++sd):=by rw[← HTT.out,v0n _ _ (of_decide_eq_false HZ.out),HSN.out,HSD.out]
     exact⟨by rw[hTe];rfl,b5.out⟩
    ·go_wp2_with fail;go_ret2
     have hTe:T=sn:=by rw[← HTT.out,d0Y.1 HZ.out,v0o,HSN.out]
     exact⟨by rw[hTe];rfl,b3.out⟩
   ·go_wp2_with fail;refine (HO _ D3.out).out.mono ?_;rintro e w4 ⟨rfl,rfl⟩;cases z
    ·go_wp2_with fail;refine (HS2 _ D3.out (HL.out.call b3.out)).out.mono ?_;rintro e w5 ⟨rfl,hb5⟩;have b5:=hid (a0a b3.out hb5);clear hb5 r0 r2;go_wp2_with fail;go_ret2
     have hTe:T=⟨#[45]⟩++sn++(⟨#[47]⟩++sd):=by rw[← HTT.out,v0l _ _ (of_decide_eq_false HZ.out),HSN.out,HSD.out]
     exact⟨by rw[hTe];rfl,b5.out⟩
    ·go_wp2_with fail;go_ret2
     have hTe:T=⟨#[45]⟩++sn:=by rw[← HTT.out,d0Y.1 HZ.out,v0m,HSN.out]
     exact⟨by rw[hTe];rfl,b3.out⟩
def mkE (n d:ByteArray):Int:=if iB n=false then 3 else if 4000<(iD n).size then 5 else if b0O d.data.toList≠0 then b0O d.data.toList else if d=⟨#[48]⟩ then 6 else c0U (qmk (iM n) (bN (iD n)) (bN d))
def mkB (n d:ByteArray):ByteArray:=if iB n=false then ⟨#[]⟩ else if 4000<(iD n).size then ⟨#[]⟩ else if b0O d.data.toList≠0 then ⟨#[]⟩ else if d=⟨#[48]⟩ then ⟨#[]⟩ else c0I (qmk (iM n) (bN (iD n)) (bN d))
theorem t0Q {m:Bool}{n d L:Nat}(hd:0<d)(h1:(limbs n).length≤L)(h2:(limbs d).length≤L):(limbs (qmk m n d).num.natAbs).length≤L∧(limbs (qmk m n d).den).length≤L:=by
 rw[h0D hd,k0p hd,b0s];exact⟨Nat.le_trans (a0e (Nat.div_le_self _ _)) h1,Nat.le_trans (a0e (Nat.div_le_self _ _)) h2⟩
theorem v0R (w:World)(n d:ByteArray)(hn:n.size≤1000000)(hd:d.size≤1000000)(hL:Lay w):
 Calls Tryz.prog 210 #[.string n,.string d] w fun e w'=>e=.returned (.tuple #[.string (mkB n d),.int .i64 (mkE n d)])∧Below w.heap.size w w':=by
 have HL:=hid hL;have hz:=p0k n;have HI:=fun V=>hid (j0E V n (by omega))
 have HC:=fun V=>hid (e0Q V d (by omega))
 have HP1:=fun V h=>hid (c0d V (iD n) h (by omega))
 have HP2:=fun V h=>hid (c0d V d h hd)
 cases hb:iB n
 ·have e1:mkB n d=⟨#[]⟩:=if_pos hb;have e2:mkE n d=3:=if_pos hb;rw[e1,e2];rw[hb]at HI;clear e1 e2 hb hz HP1 HP2 hn hd hL;go_enter Tryz.func210,Tryz.ntmps210;go_wp2_with fail;refine (HI _).out.mono ?_;rintro e w1 ⟨rfl,hb1⟩;have b1:=hid hb1;clear hb1;go_wp2_with fail;go_ret2
  exact⟨rfl,b1.out⟩
 ·have nb:¬ iB n=false:=by simp[hb]
  by_cases h1:4000<(iD n).size
  ·have e1:mkB n d=⟨#[]⟩:=by rw[mkB,if_neg nb,if_pos h1]
   have e2:mkE n d=5:=by rw[mkE,if_neg nb,if_pos h1]
   have q0:decide ((4000:Int)<((iD n).size:Nat))=true:=by simp;omega
   rw[e1,e2];rw[hb]at HI;clear e1 e2 hb hz HP1 HP2 hn hd hL h1 nb;go_enter Tryz.func210,Tryz.ntmps210;go_wp2_with fail;refine (HI _).out.mono ?_;rintro e w1 ⟨rfl,hb1⟩;have b1:=hid hb1;clear hb1;go_wp2_with fail;go_ret2
   exact⟨rfl,b1.out⟩
  ·have q0:decide ((4000:Int)<((iD n).size:Nat))=false:=by simp;omega
   by_cases h2:b0O d.data.toList=0
   ·have nc:¬ b0O d.data.toList≠0:=fun h=>h h2
    by_cases h3:d=⟨#[48]⟩
    ·have e1:mkB n d=⟨#[]⟩:=by rw[mkB,if_neg nb,if_neg h1,if_neg nc,if_pos h3]
     have e2:mkE n d=6:=by rw[mkE,if_neg nb,if_neg h1,if_neg nc,if_pos h3]
     rw[e1,e2];rw[hb]at HI;rw[h2]at HC;clear e1 e2 hb hz HP1 HP2 hn hd hL h1 nb nc h2;subst h3;go_enter Tryz.func210,Tryz.ntmps210;go_wp2_with fail;refine (HI _).out.mono ?_;rintro e w1 ⟨rfl,hb1⟩;have b1:=hid hb1;clear hb1;go_wp2_with fail;refine (HC _).out.mono ?_;rintro e w2 ⟨rfl,hb2⟩;have b2:=hid (a0a b1.out hb2);clear hb2;go_wp2_with fail;go_ret2
     exact⟨rfl,b2.out⟩
    ·have e1:mkB n d=c0I (qmk (iM n) (bN (iD n)) (bN d)):=by rw[mkB,if_neg nb,if_neg h1,if_neg nc,if_neg h3]
     have e2:mkE n d=c0U (qmk (iM n) (bN (iD n)) (bN d)):=by rw[mkE,if_neg nb,if_neg h1,if_neg nc,if_neg h3]
     rw[e1,e2];have d1:=g0i (e0a hb);obtain⟨d2,d3,d4⟩:=b0q h2;have hdp:0<bN d:=w0B (a0T.2 (by obtain⟨x,hx,_⟩:=g0j.1 h2;exact g0W.2 ⟨x,hx⟩)) h3;have l1:(limbs (bN (iD n))).length≤1000:=i0h d1 (by rw[a0r];omega);have l2:(limbs (bN d)).length≤1000:=d4;have HP1:=fun V=>HP1 V d1
     have HP2:=fun V=>HP2 V d2
     have HQ:=t0Q (m:=iM n) hdp l1 l2;have HM:=fun V v u hv hu=>hid (j0D V (iM n) v u (bN (iD n)) (bN d) hv hu hdp (by omega) (by omega))
     obtain⟨Q,hQ⟩:∃ Q,qmk (iM n) (bN (iD n)) (bN d)=Q:=⟨_,rfl⟩;rw[hQ]at HQ HM ⊢;have HN:=fun V v hv hL=>hid (m0Y V v Q hv (by omega) (by omega) hL)
     rw[hb]at HI;rw[h2]at HC;have i1:=a0J (l:=[48]) h3;clear e1 e2 hb hz hn hd hL h1 nb nc h2 h3 d1 d2 d3 d4 hdp l1 l2 HQ hQ;go_enter Tryz.func210,Tryz.ntmps210;go_wp2_with fail;refine (HI _).out.mono ?_;rintro e w1 ⟨rfl,hb1⟩;have b1:=hid hb1;clear hb1;go_wp2_with fail;refine (HC _).out.mono ?_;rintro e w2 ⟨rfl,hb2⟩;have b2:=hid (a0a b1.out hb2);clear hb2;go_wp2_with fail;refine (HP1 _).out.mono ?_;rintro e w3 ⟨⟨v3,rfl,hv3⟩,hb3⟩;have b3:=hid (a0a b2.out hb3);have V3:=hid hv3;clear hb3 hv3;go_wp2_with fail;refine (HP2 _).out.mono ?_;rintro e w4 ⟨⟨v4,rfl,hv4⟩,hb4⟩;have b4:=hid (a0a b3.out hb4);have V4:=hid hv4;have W3:=hid (V3.out.call hb4);clear hb4 hv4;go_wp2_with fail;refine (HM _ _ _ W3.out V4.out).out.mono ?_;rintro e w5 ⟨⟨v5,rfl,hv5⟩,hb5⟩;have b5:=hid (a0a b4.out hb5);have V5:=hid hv5;clear hb5 hv5;go_wp2_with fail;refine (HN _ _ V5.out (HL.out.call b5.out)).out.mono ?_;rintro e w6 ⟨rfl,hb6⟩;have b6:=hid (a0a b5.out hb6);clear hb6;go_wp2_with fail;go_ret2
     exact⟨rfl,b6.out⟩
   ·have e1:mkB n d=⟨#[]⟩:=by rw[mkB,if_neg nb,if_neg h1,if_pos h2]
    have e2:mkE n d=b0O d.data.toList:=by rw[mkE,if_neg nb,if_neg h1,if_pos h2]
    rw[e1,e2];rw[hb]at HI;obtain⟨x,hx⟩:∃ x,b0O d.data.toList=x:=⟨_,rfl⟩;rw[hx]at HC h2 ⊢;have q1:(x==0)=false:=by simpa using h2
    have q2:(x != 0)=true:=by simpa using h2
    clear e1 e2 hb hz HP1 HP2 hn hd hL h1 nb h2 hx;go_enter Tryz.func210,Tryz.ntmps210;go_wp2_with fail;refine (HI _).out.mono ?_;rintro e w1 ⟨rfl,hb1⟩;have b1:=hid hb1;clear hb1;go_wp2_with fail;refine (HC _).out.mono ?_;rintro e w2 ⟨rfl,hb2⟩;have b2:=hid (a0a b1.out hb2);clear hb2;go_wp2_with fail;go_ret2
    exact⟨rfl,b2.out⟩
theorem w0f {a b:Nat}(ha:nDigits a≤4000)(hb:nDigits b≤4000)(h0:b≠0):mkB (a0f a) (a0f b)=c0I (qmk false a b)∧mkE (a0f a) (a0f b)=c0U (qmk false a b):=by
 have e1:iM (a0f a)=false:=by
  unfold iM Lib.hasPrefix;rw[a0z];exact g0b a
 have e2:iD (a0f a)=a0f a:=e0H e1;have e3:iB (a0f a)=true:=by
  unfold iB;rw[e1,e2,p0w];rfl
 have e4:b0O (a0f b).data.toList=0:=b0E hb;have e5:¬ (a0f b=⟨#[48]⟩):=by rw[← a0w];exact b0Q h0
 have e6:¬ 4000<(iD (a0f a)).size:=by rw[e2,a0W];omega
 constructor
 ·rw[mkB,if_neg (by simp[e3]),if_neg e6,if_neg (fun h=>h e4),if_neg e5,e1,e2,b0i,b0i]
 ·rw[mkE,if_neg (by simp[e3]),if_neg e6,if_neg (fun h=>h e4),if_neg e5,e1,e2,b0i,b0i]
theorem NoInt.slice (a:Option Addr)(n c:Nat):NoInt #[.slice a n c]:=by
 intro i k x h;rcases i with _ | i<;>simp at h
theorem NoInt.bool (m:Bool):NoInt #[.bool m]:=by
 intro i k x h;rcases i with _ | i<;>simp at h
structure PowS (w:World)(bs bf bl:Nat)(sq:Nat)(fits:Bool):Prop where
 sq:∃ a n c,Blk w bs #[.slice a n c] 92∧IsN .u64 w (.slice a n c) sq
 fits:Blk w bf #[.bool fits] 4
 lim:Blk w bl #[.int .i64 4000] 3
 n1:bs≠bf
 n2:bs≠bl
 n3:bf≠bl
theorem s0P (w:World)(bs bf bl sq B:Nat)(f:Bool)(h:PowS w bs bf bl sq f)(hs:B≤bs)(hf:B≤bf)(hB:B≤w.heap.size)(hlen:(limbs sq).length≤100000)(hL:Lay w)(hLB:q0p B):
 Calls Tryz.prog 201 #[.pointer (some ⟨bs,0,none⟩),.pointer (some ⟨bl,0,none⟩),.pointer (some ⟨bf,0,none⟩)] w fun e w'=>
  (∃ v,e=.returned v)∧PowS w' bs bf bl (sq*sq) (decide (nDigits (sq*sq)≤4000))∧(∀ k v x,IsN k w v x→IsN k w' v x)∧Below B w w':=by
 obtain⟨⟨a,n,c,hbs,hv⟩,hbf,hbl,n1,n2,n3⟩:=h;have c0:w.cell? ⟨bs,0,none⟩=some (.slice a n c):=hbs.cell 0;have c1:=hbs.free 0;have c2:w.cell? ⟨bl,0,none⟩=some (.int .i64 4000):=hbl.cell 0;have HBS:=hid hbs;have HBF:=hid hbf;have HBL:=hid hbl;have HV:=hid hv;have N1:=hid n1;have N2:=hid n2;have N3:=hid n3;have HS:=hid hs;have HF:=hid hf;have HB:=hid hB;have HLEN:=hid hlen;have HL:=hid hL;have HLB:=hid hLB;have l2:=d0W hlen hlen;have HLM:=hid (show (limbs (sq*sq)).length≤1000000 by omega);obtain⟨S,hS⟩:∃ S,sq*sq=S:=⟨_,rfl⟩;have HM:=fun V h=>hid (j0w V (.slice a n c) (.slice a n c) sq sq h h (by omega) (by omega))
 rw[hS]at HM HLM ⊢;clear hbs hv hbf hbl n1 n2 n3 hs hf hB hlen hL l2 hS hLB;go_enter Tryz.func201,Tryz.ntmps201;go_wp2_with fail;refine (HM _ HV.out).out.mono ?_;rintro e w1 ⟨⟨v1,rfl,hv1⟩,hb1⟩;obtain⟨a1,k1,d1,rfl⟩:∃ a k d,v1=.slice a k d:=by
  obtain⟨a,c,e,_⟩:=hv1.openI;exact⟨_,_,_,e⟩
 have S1:=hid (HBS.out.call hb1);have F1:=hid (HBF.out.call hb1);have T1:=hid (HBL.out.call hb1);have B1:=hid hb1;have V1:=hid hv1;have e0:=S1.out.free 0;have e1:=S1.out.cell 0;simp at e1;clear hb1 hv1 HM c0 c1 c2;go_wp2_with fail;obtain⟨w2,hw2⟩:∃ w2,w1.setCell ⟨bs,0,none⟩ (.slice a1 k1 d1)=w2:=⟨_,rfl⟩;have s2:Blk w2 bs #[.slice a1 k1 d1] 92:=by rw[← hw2];exact S1.out.set 0 _
 have f2:Blk w2 bf #[.bool f] 4:=by rw[← hw2];exact F1.out.other (fun e=>N1.out e) _
 have t2:Blk w2 bl #[.int .i64 4000] 3:=by rw[← hw2];exact T1.out.other (fun e=>N2.out e) _
 have v2:IsN .u64 w2 (.slice a1 k1 d1) S:=by rw[← hw2];exact V1.out.setQ S1.out (NoInt.slice _ _ _) 0 _
 have k2:∀ k v x,IsN k w v x→IsN k w2 v x:=fun k v x h=>by rw[← hw2];exact (h.call B1.out).setQ S1.out (NoInt.slice _ _ _) 0 _
 have b2:Below B w w2:=by rw[← hw2];exact (B1.out.mono HB.out).setCell HS.out _
 have hsz:w.heap.size≤w2.heap.size:=by rw[← hw2];simpa[World.setCell]using B1.out.size
 rw[hw2];have S2:=hid s2;have F2:=hid f2;have T2:=hid t2;have V2:=hid v2;have K2:=hid k2;have B2:=hid b2;have SZ:=hid hsz;have L2:Hid (Lay w2):=HL.out.below b2 HLB.out;clear s2 f2 t2 v2 k2 b2 hw2 e0 e1 hsz;have hS:w2.drew.cell? ⟨bs,0,none⟩=some (.slice a1 k1 d1)∧w2.drew.cell? ⟨bl,0,none⟩=some (.int .i64 4000):=⟨S2.out.cell 0,T2.out.cell 0⟩;refine a0n [0,2] 3 (fun W'=>W'.cell? ⟨bs,0,none⟩=some (.slice a1 k1 d1)∧W'.cell? ⟨bl,0,none⟩=some (.int .i64 4000)) (by kernel_rfl) (by kernel_rfl) (by kernel_rfl) (by kernel_rfl) hS ?_
 iterate 2
  refine⟨_,rfl,?_⟩;apply Exists.intro
  refine⟨.inl ⟨by rfl,?_⟩,?_⟩
  ·(intro W' hW';obtain⟨q1,q2⟩:=hW';go_simp;try (with_reducible rfl))
  (dsimp only[Act.put];try simp only[List.setIfInBounds_toArray,List.set_cons_zero,List.set_cons_succ])
 clear hS;refine a0c (i:=1) (by kernel_rfl) (by rfl) (by rfl) ?_;go_wp2_with fail;refine (b0V _ _ S (V2.out.call (Below.refl _ _).drew) (L2.out.call (Below.refl _ _).drew) HLM.out).mono ?_;rintro e w3 ⟨rfl,hb3⟩;have B3:=hid (show Below w2.heap.size w2 w3 from (Below.refl _ _).drew.trans hb3);have S3:=hid (S2.out.call B3.out);have F3:=hid (F2.out.call B3.out);have T3:=hid (T2.out.call B3.out);have V3:=hid (V2.out.call B3.out);have hS:w3.cell? ⟨bs,0,none⟩=some (.slice a1 k1 d1)∧w3.cell? ⟨bl,0,none⟩=some (.int .i64 4000):=⟨S3.out.cell 0,T3.out.cell 0⟩;clear hb3;go_wp2_with fail;refine⟨hS,?_⟩;refine a0Z (is:=[3]) (g:=1) (by kernel_rfl) rfl hS (by kernel_rfl) ?_
 iterate 1
  refine⟨_,rfl,?_⟩;apply Exists.intro
  refine⟨.inl ⟨by rfl,?_⟩,?_⟩
  ·(intro W' hW';clear hW';go_simp;try (with_reducible rfl))
  (dsimp only[Act.put];try simp only[List.setIfInBounds_toArray,List.set_cons_zero,List.set_cons_succ])
 refine a0c (i:=4) (by kernel_rfl) (by rfl) (by rfl) ?_;have g0:=F3.out.free 0;have g1:=F3.out.cell 0;simp at g1;clear hS;go_wp2_with fail;have s4:=S3.out.other (a:=⟨bf,0,none⟩) (fun e=>N1.out e.symm) (.bool (decide ((nDigits S:Int)≤4000)));have f4:=F3.out.set 0 (.bool (decide ((nDigits S:Int)≤4000)));have t4:=T3.out.other (a:=⟨bf,0,none⟩) (fun e=>N3.out e) (.bool (decide ((nDigits S:Int)≤4000)));refine⟨⟨s4.cell 0,t4.cell 0⟩,?_⟩;refine wpAnyH_done (by kernel_rfl) ?_ _;simp only[b0l];go_wp2_with fail
 go_end0
 refine⟨⟨_,rfl⟩,⟨⟨a1,k1,d1,s4,V3.out.setQ F3.out (NoInt.bool _) 0 _⟩,?_,t4,N1.out,N2.out,N3.out⟩,?_,?_⟩
 ·have e:decide ((nDigits S:Int)≤4000)=decide (nDigits S≤4000):=decide_eq_decide.2 (by omega);rw[← e];exact f4
 ·intro k v x h;exact ((K2.out k v x h).call B3.out).setQ F3.out (NoInt.bool _) 0 _
 ·exact (B2.out.trans (B3.out.mono (Nat.le_trans HB.out SZ.out))).setCell HF.out _
structure PowI (A sq out n:Nat)(fits:Bool):Prop where
 eq:out*sq ^ n=A
 two:2≤sq
 n1:1≤n
 small:nDigits out≤4000
 fit:fits=false→4000<nDigits sq
 len:fits=true→(limbs sq).length≤100000
 lim:(limbs sq).length≤200000
 pos:1≤out
theorem PowI.start {a n:Nat}(ha:2≤a)(hn:1≤n)(hl:(limbs a).length≤100000):PowI (a ^ n) a 1 n true:=
 ⟨Nat.one_mul _,ha,hn,by rw[c0K];omega,fun h=>by (cases h),fun _=>hl,by omega,Nat.le_refl _⟩
theorem PowI.sq_le {A sq out n:Nat}{fits:Bool}(h:PowI A sq out n fits):out*sq≤A:=by
 rw[← h.eq];refine Nat.mul_le_mul_left _ ?_;have:=Nat.pow_le_pow_right (n:=sq) (by have:=h.two;omega) h.n1;rwa[Nat.pow_one]at this
theorem PowI.big {A sq out n:Nat}{fits:Bool}(h:PowI A sq out n fits)(hf:fits=false):4000<nDigits A:=by
 refine Nat.lt_of_lt_of_le (h.fit hf) (b0M ?_);exact Nat.le_trans (Nat.le_mul_of_pos_left _ h.pos) h.sq_le
theorem PowI.bigO {A sq out n:Nat}{fits:Bool}(h:PowI A sq out n fits)(hb:4000<nDigits (out*sq)):4000<nDigits A:=
 Nat.lt_of_lt_of_le hb (b0M h.sq_le)
theorem PowI.done {A sq out n:Nat}{fits:Bool}(h:PowI A sq out n fits)(hn:n=1):out*sq=A:=by
 rw[← h.eq,hn,Nat.pow_one]
theorem s0v {sq:Nat}(h:(limbs sq).length≤100000):(limbs (sq*sq)).length≤200000:=by
 have:=a0S h h;omega
theorem PowI.odd {A sq out n:Nat}{fits:Bool}(h:PowI A sq out n fits)(hf:fits=true)(ho:n%2=1)(hs:nDigits (out*sq)≤4000)(h2:1≤n / 2):PowI A (sq*sq) (out*sq) (n / 2) (decide (nDigits (sq*sq)≤4000)):=by
 have h4:=Nat.mul_le_mul h.two h.two;refine⟨?_,by omega,h2,hs,fun e=>?_,fun e=>?_,s0v (h.len hf),Nat.mul_pos h.pos (by have:=h.two;omega)⟩
 ·rw[← h.eq,Nat.mul_assoc,← Nat.pow_two,← Nat.pow_mul];have:sq*sq ^ (2*(n / 2))=sq ^ n:=by
   rw[← Nat.pow_succ']
   congr 1
   omega
  rw[this]
 ·have:=of_decide_eq_false e;omega
 ·have:=a0u (of_decide_eq_true e);omega
theorem PowI.even {A sq out n:Nat}{fits:Bool}(h:PowI A sq out n fits)(hf:fits=true)(ho:n%2=0):PowI A (sq*sq) out (n / 2) (decide (nDigits (sq*sq)≤4000)):=by
 have h4:=Nat.mul_le_mul h.two h.two;have h1:=h.n1;refine⟨?_,by omega,by omega,h.small,fun e=>?_,fun e=>?_,s0v (h.len hf),h.pos⟩
 ·rw[← h.eq,← Nat.pow_two,← Nat.pow_mul]
  congr 2
  omega
 ·have:=of_decide_eq_false e;omega
 ·have:=a0u (of_decide_eq_true e);omega
def i0v (n:Nat)(e:Ending)(w':World):Prop:=
 (nDigits n≤4000∧∃ v,e=.returned (.tuple #[v,.bool true])∧IsN .u64 w' v n)∨(4000<nDigits n∧e=.returned (.tuple #[.slice none 0 0,.bool false]))
theorem r0K (w:World):IsN .u64 (w.alloc (.cells #[.int .u64 1] 151)) (.slice (some ⟨w.heap.size,0,none⟩) 1 1) 1:=by
 unfold IsN;rw[d0f];exact Row.of_blk (b:=w.heap.size) (n:=1) (c:=1) (cs:=#[.int .u64 1]) (Blk.new w _ _) rfl (by unfold maxLen;omega) (fun i x hx=>by simpa[b0c]using hx) (Nat.le_refl _) (by unfold maxLen;omega)
theorem l0G {n:Nat}(h:n<18446744073709551616):(bits BinOp.and IntKind.u64 (n:Int) 1==1)=decide (n%2=1):=by
 rw[and_one_u64 _ (by omega) (by omega),Bool.eq_iff_iff,beq_iff_eq,decide_eq_true_eq];omega
theorem m0R (w:World)(v:Value)(a:Nat)(ha:IsN .u64 w v a):Calls Tryz.prog 136 #[v,.int .u64 0,.int .i64 4000] w fun e w'=>i0v (a ^ 0) e w'∧Below w.heap.size w w':=by
 have H1:=hid (r0K (w.alloc (.cells #[.int .i64 4000] 3)));go_enter Tryz.func136,Tryz.ntmps136;go_wp2_with fail;go_ret2
 refine⟨.inl ⟨by rw[Nat.pow_zero,c0K];omega,_,rfl,by rw[Nat.pow_zero];simpa using H1.out⟩,((Below.refl _ _).alloc (Nat.le_refl _) _).alloc (by simp) _⟩
theorem k0z (w:World)(v:Value)(a n:Nat)(ha:IsN .u64 w v a)(hs:a≤1)(hn:0<n)(hn2:n<18446744073709551616):Calls Tryz.prog 136 #[v,.int .u64 n,.int .i64 4000] w fun e w'=>i0v (a ^ n) e w'∧Below w.heap.size w w':=by
 have hpow:=hid (show a ^ n=a∧nDigits a≤4000 from by
  rcases (show a=0∨a=1 by omega) with rfl | rfl
  ·exact⟨Nat.zero_pow hn,by rw[b0L];omega⟩
  ·exact⟨Nat.one_pow _,by rw[c0K];omega⟩)
 have b0:=hid ((Below.refl w.heap.size w).alloc (Nat.le_refl _) (.cells #[.int .i64 4000] 3));have A0:=hid (ha.call b0.out);have q0:((n:Int)==0)=false:=by rw[beq_eq_false_iff_ne];omega
 obtain⟨k1,d1,rfl,_⟩:=ha.openI;obtain⟨len,hlen⟩:∃ k,(limbs a).length=k:=⟨_,rfl⟩;rw[hlen]at A0 ⊢;clear ha hlen;rcases (show a=0∨a=1 by omega) with rfl | rfl
 ·have hz:isZ 0=true:=rfl;clear hs hn hn2;go_enter Tryz.func136,Tryz.ntmps136;go_wp2_with fail;refine (f0d _ _ _ A0.out).mono ?_;rintro e w1 ⟨rfl,rfl⟩;rw[hz];go_wp2_with fail;go_ret2
  exact⟨.inl ⟨by rw[hpow.out.1];exact hpow.out.2,_,rfl,by rw[hpow.out.1];exact A0.out⟩,b0.out⟩
 ·have hz:isZ 1=false:=rfl;have ho:isO 1=true:=rfl;clear hs hn hn2;go_enter Tryz.func136,Tryz.ntmps136;go_wp2_with fail;refine (f0d _ _ _ A0.out).mono ?_;rintro e w1 ⟨rfl,rfl⟩;rw[hz];go_wp2_with fail;refine (k0A _ _ _ A0.out).mono ?_;rintro e w1 ⟨rfl,rfl⟩;rw[ho];go_wp2_with fail;go_ret2
  exact⟨.inl ⟨by rw[hpow.out.1];exact hpow.out.2,_,rfl,by rw[hpow.out.1];exact A0.out⟩,b0.out⟩
theorem p0c (w:World)(v:Value)(a N:Nat)(ha:IsN .u64 w v a)(hs:2≤a)(hl:(limbs a).length≤100000)(hn:0<N)(hn2:N<18446744073709551616)(hL:Lay w):Calls Tryz.prog 136 #[v,.int .u64 N,.int .i64 4000] w fun e w'=>i0v (a ^ N) e w'∧Below w.heap.size w w':=by
 have b0:=hid ((Below.refl w.heap.size w).alloc (Nat.le_refl _) (.cells #[.int .i64 4000] 3));have A0:=hid (ha.call b0.out);have HA:=hid ha;have q0:((N:Int)==0)=false:=by rw[beq_eq_false_iff_ne];omega
 obtain⟨k1,d1,rfl,_⟩:=ha.openI;obtain⟨len,hlen⟩:∃ k,(limbs a).length=k:=⟨_,rfl⟩;have PI:=hid (PowI.start (n:=N) hs hn hl);rw[hlen]at A0 HA ⊢;have hz:isZ a=false:=decide_eq_false (by omega);have ho:isO a=false:=decide_eq_false (by omega);have HN2:=hid hn2;have HL:=hid hL;have HLL:=hid hL.lt;obtain⟨R,hR⟩:∃ R,a ^ N=R:=⟨_,rfl⟩;rw[hR]at PI ⊢;clear ha hlen hs hl hn hn2 hL hR;go_enter Tryz.func136,Tryz.ntmps136;go_wp2_with fail;refine (f0d _ _ _ A0.out).mono ?_;rintro e w1 ⟨rfl,rfl⟩;rw[hz];clear hz;go_wp2_with fail;refine (k0A _ _ _ A0.out).mono ?_;rintro e w1 ⟨rfl,rfl⟩;rw[ho];clear ho;go_wp2_with fail;obtain⟨W0,hW0⟩:∃ W0,((((w.alloc (.cells #[.int .i64 4000] 3)).alloc (.cells #[.int .u64 1] 151)).alloc (.cells #[.slice k1 len d1] 92)).alloc (.cells #[.bool true] 4))=W0:=⟨_,rfl⟩;have b4:Below w.heap.size w W0:=by rw[← hW0];exact ((((Below.refl _ _).alloc (Nat.le_refl _) _).alloc (by simp) _).alloc (by simp<;>omega) _).alloc (by simp<;>omega) _
 have x0:Blk W0 w.heap.size #[.int .i64 4000] 3:=by rw[← hW0];exact (((Blk.new w _ _).alloc _).alloc _).alloc _
 have x1:Blk W0 (w.heap.size+1) #[.int .u64 1] 151:=by rw[← hW0];exact ((Blk.made _ _ _ (by simp)).alloc _).alloc _
 have x2:Blk W0 (w.heap.size+1+1) #[.slice k1 len d1] 92:=by rw[← hW0];exact (Blk.made _ _ _ (by simp)).alloc _
 have x3:Blk W0 (w.heap.size+1+1+1) #[.bool true] 4:=by rw[← hW0];exact Blk.made _ _ _ (by simp)
 have o0:IsN .u64 W0 (.slice (some ⟨w.heap.size+1,0,none⟩) 1 1) 1:=by
  unfold IsN;rw[d0f];exact Row.of_blk (n:=1) (c:=1) x1 rfl (by unfold maxLen;omega) (fun i x hx=>by simpa[b0c]using hx) (Nat.le_refl _) (by unfold maxLen;omega)
 have P0:PowS W0 (w.heap.size+1+1) (w.heap.size+1+1+1) w.heap.size a true:=⟨⟨_,_,_,x2,HA.out.call b4⟩,x3,x0,by omega,by omega,by omega⟩;rw[hW0];have OO:=hid o0;have PP:=hid P0;have BB:=hid b4;obtain⟨bs,hbs⟩:∃ b,w.heap.size+1+1=b:=⟨_,rfl⟩;rw[hbs]at PP ⊢;obtain⟨bf,hbf⟩:∃ b,bs+1=b:=⟨_,rfl⟩;rw[hbf]at PP ⊢;have HBS:=hid (show w.heap.size≤bs by omega);have HBF:=hid (show w.heap.size≤bf by omega);have e159:∀ args w,(callFunc 201 args).run Tryz.prog w=.ok (.enter 201 args) w:=enters_of Tryz.func201 (by kernel_rfl) rfl;clear b4 x0 x1 x2 x3 o0 P0 hW0 hbs hbf A0 b0 q0
 go_loopw [1,8] (fun nn oo wr=>∃ (n out sq:Nat) (fits:Bool) (a1:Option Addr) (l1 c1:Nat),nn=.int .u64 (n:Nat)∧oo=.slice a1 l1 c1∧Hid (PowI R sq out n fits)∧Hid (IsN .u64 wr (.slice a1 l1 c1) out)∧Hid (PowS wr bs bf w.heap.size sq fits)∧Hid (Below w.heap.size w wr)∧n<18446744073709551616) (fun nn oo wr=>(intOf nn).toNat)
 case atStart=>exact⟨N,1,a,true,_,_,_,rfl,rfl,PI.out,OO.out,PP.out,BB.out,HN2.out⟩
 case round=>
  obtain⟨n,out,sq,fits,a1,l1,c1,rfl,rfl,hI,hO,hS,hB,hn⟩:=hrel;obtain⟨a2,l2,c2,h1,h2⟩:=hS.out.sq;have HL1:=hid (HL.out.call hB.out);have HO:=hid h1;have HV:=hid h2;have HF:=hid hS.out.fits;have HT:=hid hS.out.lim;have k0:wr.cell? ⟨bs,0,none⟩=some (.slice a2 l2 c2):=h1.cell 0;have k1:wr.cell? ⟨bf,0,none⟩=some (.bool fits):=hS.out.fits.cell 0;have k2:wr.cell? ⟨w.heap.size,0,none⟩=some (.int .i64 4000):=hS.out.lim.cell 0;have HN:=hid hn;have HN1:=hid hI.out.n1;have HLO:=hid (a0u hI.out.small);have HLS:=hid hI.out.lim;clear h1 h2;by_cases ho:n%2=1
  ·have q1:(bits BinOp.and IntKind.u64 (n:Int) 1==1)=true:=by rw[l0G hn];exact decide_eq_true ho
   have HO1:=hid ho;clear ho hn;go_wp2_with fail;refine (j0w _ _ _ out sq hO.out HV.out (by have:=HLO.out;omega) (by have:=HLS.out;omega)).mono ?_;rintro e w1 ⟨⟨v1,rfl,hv1⟩,hb1⟩;have HLM:=hid (a0S HLO.out HLS.out);obtain⟨a3,c3,rfl,_⟩:=hv1.openI;obtain⟨l3,hl3⟩:∃ l,(limbs (out*sq)).length=l:=⟨_,rfl⟩;rw[hl3]at hv1 ⊢;have V1:=hid hv1;have F1:=hid (HF.out.call hb1);have T1:=hid (HT.out.call hb1);have B1:=hid (a0a hB.out hb1);have S1:Hid (PowS w1 bs bf w.heap.size sq fits):=⟨⟨_,_,_,HO.out.call hb1,HV.out.call hb1⟩,F1.out,T1.out,hS.out.n1,hS.out.n2,hS.out.n3⟩;have m1:w1.cell? ⟨bf,0,none⟩=some (.bool fits):=F1.out.cell 0;have m2:w1.cell? ⟨w.heap.size,0,none⟩=some (.int .i64 4000):=T1.out.cell 0;have L1:=hid (HL1.out.call hb1);have B1x:=hid hb1;clear hb1 hv1 k0 k1 k2 hl3;cases fits
   ·go_wp2_with fail;go_quiet (fail)
    go_wp2_with fail;go_ret2
    exact⟨.inr ⟨hI.out.big rfl,rfl⟩,a0h B1.out _⟩
   ·go_wp2_with fail
    go_region_held3 (fun w'=>w'.cell? ⟨bf,0,none⟩=some (.bool true)∧w'.cell? ⟨w.heap.size,0,none⟩=some (.int .i64 4000))
     (first | exact⟨m1,m2⟩ | exact⟨F2.out.cell 0,T2.out.cell 0⟩)
     (first
      | (go_at_call 127;refine (b0V _ _ (out*sq) (V1.out.call (Below.refl _ _).drew) (L1.out.call (Below.refl _ _).drew) (by have:=HLM.out;omega)).mono ?_;rintro e w2 ⟨rfl,hb2⟩;have B2:=hid (show Below w1.heap.size w1 w2 from (Below.refl _ _).drew.trans hb2);have F2:=hid (F1.out.call B2.out);have T2:=hid (T1.out.call B2.out)))
    have S2:Hid (PowS w2 bs bf w.heap.size sq true):=⟨⟨_,_,_,(HO.out.call B1x.out).call B2.out,(HV.out.call B1x.out).call B2.out⟩,F2.out,T2.out,hS.out.n1,hS.out.n2,hS.out.n3⟩;have V2:=hid (V1.out.call B2.out);have L2:=hid (L1.out.call B2.out);have BB2:=hid (a0a B1.out B2.out);clear m1 m2;by_cases hd:4000<nDigits (out*sq)
    ·have q2:decide ((4000:Int)<(nDigits (out*sq):Nat))=true:=by simp;omega
     have HD:=hid hd;rw[q2];clear hd q2;go_wp2_with fail;go_ret2
     exact⟨.inr ⟨hI.out.bigO HD.out,rfl⟩,BB2.out⟩
    ·have q2:decide ((4000:Int)<(nDigits (out*sq):Nat))=false:=by simp;omega
     have HD:=hid (show nDigits (out*sq)≤4000 by omega);rw[q2];clear hd q2;have m1:w2.cell? ⟨bf,0,none⟩=some (.bool true):=F2.out.cell 0;by_cases h1:n=1
     ·have HD1:=hid (hI.out.done h1);subst h1;go_wp2_with fail;go_ret2
      exact⟨.inl ⟨by rw[← HD1.out];exact HD.out,_,rfl,by rw[← HD1.out];exact V2.out⟩,BB2.out⟩
     ·have h2:1≤n / 2:=by have:=HO1.out;omega
      have HN2':=hid h2;have q3:((n:Int) / 2==0)=false:=by rw[beq_eq_false_iff_ne];omega
      have HI2:=hid (hI.out.odd rfl HO1.out HD.out h2);clear h1 h2;go_wp2_with fail;refine (s0P _ bs bf w.heap.size sq w.heap.size true S2.out HBS.out HBF.out BB2.out.size (hI.out.len rfl) L2.out HLL.out).mono ?_;rintro e w5 ⟨⟨v5,rfl⟩,hp5,hk5,hb5⟩;have P5:=hid hp5;have O5:=hid (hk5 _ _ _ V2.out);have B5:=hid (BB2.out.trans hb5);clear hp5 hk5 hb5;go_wp2_with fail;go_roundw
      case rel=>exact⟨n / 2,out*sq,sq*sq,_,_,_,_,by rw[show ((n:Int) / 2)=((n / 2:Nat):Int) by omega],rfl,HI2,O5,P5,B5,by have:=HN.out;omega⟩
      case measure=>simp[intOf]<;>(have:=HN1.out;omega)
  ·have q1:(bits BinOp.and IntKind.u64 (n:Int) 1==1)=false:=by rw[l0G hn];exact decide_eq_false ho
   have h0:n%2=0:=by omega
   have h2:1≤n / 2:=by have:=HN1.out;omega
   have q3:((n:Int) / 2==0)=false:=by rw[beq_eq_false_iff_ne];omega
   have H0:=hid h0;clear ho hn h0 h2;cases fits
   ·go_wp2_with fail;go_ret2
    exact⟨.inr ⟨hI.out.big rfl,rfl⟩,hB.out⟩
   ·have HI2:=hid (hI.out.even rfl H0.out);go_wp2_with fail;refine (s0P _ bs bf w.heap.size sq w.heap.size true hS.out HBS.out HBF.out hB.out.size (hI.out.len rfl) HL1.out HLL.out).mono ?_;rintro e w5 ⟨⟨v5,rfl⟩,hp5,hk5,hb5⟩;have P5:=hid hp5;have O5:=hid (hk5 _ _ _ hO.out);have B5:=hid (hB.out.trans hb5);clear hp5 hk5 hb5;go_wp2_with fail;go_roundw
    case rel=>exact⟨n / 2,out,sq*sq,_,_,_,_,by rw[show ((n:Int) / 2)=((n / 2:Nat):Int) by omega],rfl,HI2,O5,P5,B5,by have:=HN.out;omega⟩
    case measure=>simp[intOf]<;>(have:=HN1.out;omega)
theorem p0d (w:World)(v:Value)(a n:Nat)(ha:IsN .u64 w v a)(hl:(limbs a).length≤100000)(hn2:n<18446744073709551616)(hL:Lay w):Calls Tryz.prog 136 #[v,.int .u64 n,.int .i64 4000] w fun e w'=>i0v (a ^ n) e w'∧Below w.heap.size w w':=by
 rcases Nat.eq_zero_or_pos n with rfl | hn
 ·exact m0R w v a ha
 ·by_cases h:a≤1
  ·exact k0z w v a n ha h hn hn2
  ·exact p0c w v a n ha (by omega) hl hn hn2 hL
theorem r0A (w:World)(s:ByteArray)(n:Nat)(hs:b0O s.data.toList=0)(hn:n≤9223372036854775807)(hd:nDigits (bN s ^ n)≤4000)(hL:Lay w):
 Calls Tryz.prog 261 #[.string s,.int .i64 n] w fun e w'=>e=.returned (.tuple #[.string (a0f (bN s ^ n)),.int .i64 0])∧Below w.heap.size w w':=by
 obtain⟨d1,d2,d3⟩:=b0q hs;have HC:=fun V=>hid (e0Q V s (by omega))
 rw[hs]at HC;have HP:=fun V=>hid (c0d V s d1 (by omega))
 have hdv:dv s.data.toList=bN s:=rfl;rw[hdv]at HP;have HW:=fun V v hv hL=>hid (p0d V v (bN s) n hv (by omega) (by omega) hL)
 have HR:=fun V v hv hL=>hid (f0r V v (bN s ^ n) hv (by have:=a0u hd;omega) hL)
 have e1:l0u (bN s ^ n)=a0f (bN s ^ n):=by rw[l0u,if_neg (by omega)]
 have e2:j0a (bN s ^ n)=0:=by rw[j0a,if_neg (by omega)]
 rw[e1,e2]at HR;obtain⟨R,hR⟩:∃ R,bN s ^ n=R:=⟨_,rfl⟩;rw[hR]at HW HR hd ⊢;have HD:=hid hd;have HL:=hid hL;have hn0:(0:Int)≤(n:Int):=by omega
 have hn1:(n:Int)≤9223372036854775807:=by omega
 have q0:decide ((n:Int)<0)=false:=by simp
 clear hs hn d1 d2 d3 hdv e1 e2 hR hd hL;go_enter Tryz.func261,Tryz.ntmps261;go_wp2_with fail;refine (HC _).out.mono ?_;rintro e w1 ⟨rfl,hb1⟩;have b1:=hid hb1;clear hb1;go_wp2_with fail;refine (HP _).out.mono ?_;rintro e w2 ⟨⟨v2,rfl,hv2⟩,hb2⟩;have b2:=hid (a0a b1.out hb2);have V2:=hid hv2;clear hb2 hv2;go_wp2_with fail;refine (HW _ _ V2.out (HL.out.call b2.out)).out.mono ?_;rintro e w3 ⟨h3,hb3⟩;rcases h3 with ⟨-,v3,rfl,hv3⟩ | ⟨h3,-⟩
 ·have b3:=hid (a0a b2.out hb3);have V3:=hid hv3;clear hb3 hv3;go_wp2_with fail;refine (HR _ _ V3.out (HL.out.call b3.out)).out.mono ?_;rintro e w4 ⟨rfl,hb4⟩;have b4:=hid (a0a b3.out hb4);clear hb4;go_wp2_with fail;go_ret2
  exact⟨rfl,b4.out⟩
 ·exact absurd h3 (by have:=HD.out;omega)
theorem g0A {n:Nat}(h:n≤1000):nDigits (2 ^ n)≤4000:=by
 have h1:2 ^ n<10 ^ (n+1):=by
  have h2:2 ^ n≤10 ^ n:=Nat.pow_le_pow_left (by omega) n;have h3:10 ^ n<10 ^ (n+1):=Nat.pow_lt_pow_right (by omega) (by omega);omega
 exact Nat.le_trans (a0j (Nat.succ_pos n) h1) (by omega)
theorem t0d:bN ⟨#[50]⟩=2:=by decide
theorem r0Y:b0O (⟨#[50]⟩:ByteArray).data.toList=0:=by decide
open Go.Shelf
def shB (m t:Nat):ByteArray:=c0I (qmk false m t)
theorem t0U (w:World)(m t:Nat)(hm:nDigits m≤4000)(ht:nDigits t≤4000)(h0:t≠0)(hL:Lay w):
 Calls Tryz.prog 210 #[.string (a0f m),.string (a0f t)] w fun e w'=>e=.returned (.tuple #[.string (shB m t),.int .i64 (c0U (qmk false m t))])∧Below w.heap.size w w':=by
 have h:=v0R w (a0f m) (a0f t) (a0M hm) (a0M ht) hL;have e:=w0f hm ht h0;rwa[e.1,e.2]at h
structure MRow (w:World)(v:Value)(L:List (ByteArray×ByteArray)):Prop where
 ex:∃ a c,v=.slice a L.length c∧L.length≤c∧c≤9223372036854775807∧∀ (i:Nat) (x:ByteArray×ByteArray),L[i]?=some x→∃ g o,a=some ⟨g,o,none⟩∧g<w.heap.size∧w.cell? ⟨g,o+2*i,none⟩=some (.string x.1)∧w.cell? ⟨g,o+2*i+1,none⟩=some (.string x.2)
theorem MRow.call {w w':World}{v:Value}{L:List (ByteArray×ByteArray)}(h:MRow w v L)(hb:Below w.heap.size w w'):MRow w' v L:=by
 obtain⟨a,c,rfl,h1,h2,h3⟩:=h.ex;refine⟨a,c,rfl,h1,h2,fun i x hx=>?_⟩;obtain⟨g,o,rfl,hg,k1,k2⟩:=h3 i x hx;exact⟨g,o,rfl,Nat.lt_of_lt_of_le hg hb.size,(hb.cell (p:=⟨g,o+2*i,none⟩) hg).trans k1,(hb.cell (p:=⟨g,o+2*i+1,none⟩) hg).trans k2⟩
theorem MRow.nil (w:World):MRow w (.slice none 0 0) []:=⟨none,0,rfl,Nat.le_refl _,by omega,fun i x h=>by simp at h⟩
theorem u0e {x y:ByteArray}(h:¬ x=y):¬ x.toList=y.toList:=fun e=>h (by
 rw[Lib.toList_data,Lib.toList_data]at e;exact a0Y e)
theorem u0k (w:World)(v u:Value)(L M:List (ByteArray×ByteArray))(hv:MRow w v L)(hu:MRow w u M):
 Calls Tryz.prog 30 #[v,u] w fun e w'=>e=.returned (.bool (decide (L=M)))∧Below w.heap.size w w':=by
 obtain⟨a,c,rfl,h1,h2,h3⟩:=hv.ex;obtain⟨a',c',rfl,h1',h2',h3'⟩:=hu.ex;obtain⟨n,hn⟩:∃ n,L.length=n:=⟨_,rfl⟩;obtain⟨m,hm⟩:∃ n,M.length=n:=⟨_,rfl⟩;rw[hn]at h1 ⊢;rw[hm]at h1' ⊢;have H3:=hid h3;have H3':=hid h3';have HN:=hid hn;have HM:=hid hm;clear hv hu h3 h3';by_cases hnm:n=m
 ·subst hnm;have q0:((n:Int) != (n:Int))=false:=by simp
  clear hn hm;go_enter Tryz.func30,Tryz.ntmps30;go_wp2_with fail
  go_loopw [5] (fun ii wr=>∃ i:Nat,ii=.int .i64 (i:Nat)∧i≤n∧Hid (∀ j,j<i→L[j]?=M[j]?)∧Hid (Below w.heap.size w wr)) (fun ii wr=>n-(intOf ii).toNat)
  case atStart=>exact⟨0,rfl,Nat.zero_le _,fun j hj=>absurd hj (by omega),Below.refl _ _⟩
  case round=>
   obtain⟨i,rfl,hi,hI,hB⟩:=hrel;by_cases hlt:i<n
   ·obtain⟨x,hx⟩:∃ x,L[i]?=some x:=⟨_,List.getElem?_eq_getElem (by rw[HN.out];exact hlt)⟩;obtain⟨y,hy⟩:∃ x,M[i]?=some x:=⟨_,List.getElem?_eq_getElem (by rw[HM.out];exact hlt)⟩;obtain⟨g,o,rfl,hg,k1,k2⟩:=H3.out i x hx;obtain⟨g',o',rfl,hg',k1',k2'⟩:=H3'.out i y hy;obtain⟨x1,x2⟩:=x;obtain⟨y1,y2⟩:=y;have HX:=hid hx;have HY:=hid hy;have m1:=(hB.out.cell (p:=⟨g,o+2*i,none⟩) hg).trans k1;have m2:=(hB.out.cell (p:=⟨g,o+2*i+1,none⟩) hg).trans k2;have m3:=(hB.out.cell (p:=⟨g',o'+2*i,none⟩) hg').trans k1';have m4:=(hB.out.cell (p:=⟨g',o'+2*i+1,none⟩) hg').trans k2';dsimp only at m1 m2 m3 m4;rw[Nat.mul_comm 2 i]at m1 m2 m3 m4;have b1:(0:Int)≤(i:Int):=by omega
    have b2:(i:Int)<(n:Int):=by omega
    have wi:IntKind.i64.wrap ((i:Int)+1)=(i:Int)+1:=by rw[IntWalk.i64_in _ ⟨by omega,by omega⟩]
    clear k1 k2 k1' k2' hx hy hg hg';by_cases he1:x1=y1
    ·subst he1;by_cases he2:x2=y2
     ·subst he2;go_wp2_with fail;refine a0n [0,1,2,3,4,5,6,7,8] 0 (fun w'=>w'.cell? ⟨g,o+i*2,none⟩=some (.string x1)∧w'.cell? ⟨g,o+i*2+1,none⟩=some (.string x2)∧w'.cell? ⟨g',o'+i*2,none⟩=some (.string x1)∧w'.cell? ⟨g',o'+i*2+1,none⟩=some (.string x2)) (by kernel_rfl) (by kernel_rfl) (by kernel_rfl) (by kernel_rfl) ⟨m1,m2,m3,m4⟩ ?_
      iterate 9
       refine⟨_,rfl,?_⟩;apply Exists.intro
       refine⟨.inl ⟨by rfl,?_⟩,?_⟩
       ·(intro W' hW';obtain⟨q1,q2,q3,q4⟩:=hW';go_simp;try (with_reducible rfl))
       (dsimp only[Act.put];try simp only[List.setIfInBounds_toArray,List.set_cons_zero,List.set_cons_succ])
      refine wpAnyH_done (by kernel_rfl) ?_ _;simp only[b0l];go_wp2_with fail;go_roundw
      case rel=>exact⟨i+1,rfl,by omega,fun j hj=>by
       rcases Nat.lt_or_ge j i with h | h
       ·exact hI.out j h
       ·obtain rfl:j=i:=by omega
        rw[HX.out,HY.out],hB.out.drew⟩
      case measure=>simp[intOf]<;>omega
     ·have n2:=u0e he2;have hne:decide (L=M)=false:=by
       rw[decide_eq_false_iff_not];rintro rfl;have:=HX.out.symm.trans HY.out;simp only[Option.some.injEq,Prod.mk.injEq]at this;exact he2 this.2
      have HNE:=hid hne;clear hne he2;go_wp2_with fail;refine a0n [0,1,2,3,4,5,6,7,8] 0 (fun w'=>w'.cell? ⟨g,o+i*2,none⟩=some (.string x1)∧w'.cell? ⟨g,o+i*2+1,none⟩=some (.string x2)∧w'.cell? ⟨g',o'+i*2,none⟩=some (.string x1)∧w'.cell? ⟨g',o'+i*2+1,none⟩=some (.string y2)) (by kernel_rfl) (by kernel_rfl) (by kernel_rfl) (by kernel_rfl) ⟨m1,m2,m3,m4⟩ ?_
      iterate 9
       refine⟨_,rfl,?_⟩;apply Exists.intro
       refine⟨.inl ⟨by rfl,?_⟩,?_⟩
       ·(intro W' hW';obtain⟨q1,q2,q3,q4⟩:=hW';go_simp;try (with_reducible rfl))
       (dsimp only[Act.put];try simp only[List.setIfInBounds_toArray,List.set_cons_zero,List.set_cons_succ])
      refine wpAnyH_done (by kernel_rfl) ?_ _;simp only[b0l];go_wp2_with fail;go_ret
      exact⟨by rw[HNE.out];rfl,hB.out.drew⟩
    ·have n1:=u0e he1;have hne:decide (L=M)=false:=by
      rw[decide_eq_false_iff_not];rintro rfl;have:=HX.out.symm.trans HY.out;simp only[Option.some.injEq,Prod.mk.injEq]at this;exact he1 this.1
     have HNE:=hid hne;clear hne he1;go_wp2_with fail;refine a0n [0,1,2,3,4,5,6,7,8] 0 (fun w'=>w'.cell? ⟨g,o+i*2,none⟩=some (.string x1)∧w'.cell? ⟨g,o+i*2+1,none⟩=some (.string x2)∧w'.cell? ⟨g',o'+i*2,none⟩=some (.string y1)∧w'.cell? ⟨g',o'+i*2+1,none⟩=some (.string y2)) (by kernel_rfl) (by kernel_rfl) (by kernel_rfl) (by kernel_rfl) ⟨m1,m2,m3,m4⟩ ?_
     iterate 9
      refine⟨_,rfl,?_⟩;apply Exists.intro
      refine⟨.inl ⟨by rfl,?_⟩,?_⟩
      ·(intro W' hW';obtain⟨q1,q2,q3,q4⟩:=hW';go_simp;try (with_reducible rfl))
      (dsimp only[Act.put];try simp only[List.setIfInBounds_toArray,List.set_cons_zero,List.set_cons_succ])
     refine wpAnyH_done (by kernel_rfl) ?_ _;simp only[b0l];go_wp2_with fail;go_ret
     exact⟨by rw[HNE.out];rfl,hB.out.drew⟩
   ·obtain rfl:i=n:=by omega
    have hE:L=M:=by
     apply List.ext_getElem?
     intro j;by_cases hj:j<i
     ·exact hI.out j hj
     ·rw[List.getElem?_eq_none (by rw[HN.out];omega),List.getElem?_eq_none (by rw[HM.out];omega)]
    have HE:=hid hE;have q1:decide ((i:Int)<(i:Int))=false:=by simp
    clear hlt hE;go_wp2_with fail;go_ret
    exact⟨by rw[decide_eq_true HE.out];rfl,hB.out⟩
 ·have q0:((n:Int) != (m:Int))=true:=by rw[bne_iff_ne];omega
  have hne:decide (L=M)=false:=by
   rw[decide_eq_false_iff_not];rintro rfl;exact hnm (hn.symm.trans hm)
  have HNE:=hid hne;clear hne hnm hn hm;go_enter Tryz.func30,Tryz.ntmps30;go_wp2_with fail;go_ret
  exact⟨by rw[HNE.out];rfl,Below.refl _ _⟩
open Go.Maps
attribute [local go_sem] Oper.semAt_some
def a0H:ByteArray:=⟨#[108,97,116,101]⟩
theorem c0Y (q:Rat):(c0I q).size≤10000:=by
 unfold c0I
 split
 ·exact (by decide:(0:Nat)≤10000)
 ·rename_i h
  unfold ovQ at h;have h1:=a0r (txQ q);unfold txQ at h1 ⊢;rw[c0g]at h1;rw[← h1];simp only[List.length_append,Lib.decDigits_length];have e1:(if decide (q.num<0)=true then [45] else ([]:List UInt8)).length≤1:=by split<;>simp
  have e2:(if q.den=1 then [] else (47:UInt8)::decDigits q.den).length≤4001:=by
   split
   ·simp
   ·simp only[List.length_cons,Lib.decDigits_length];omega
  omega
end Go.Proofs.YtlmnpocifldpmaaGreatDoor
namespace Go.Proofs.YtlmnpocifldpmaaGreatDoor
open Go.RowKit
open Go.Shelf
open Go.Lib (decDigits nDigits)
def LayS (w:World):Prop:=∃ ev,w.cell? ⟨0,0,none⟩=some ev∧(ev=.nilIface∨∃ te pe,ev=.iface te pe)
theorem LayS.call {w w':World}(h:LayS w)(hb:Below w.heap.size w w'):LayS w':=by
 obtain⟨ev,h1,h2⟩:=h;exact⟨ev,(hb.cell (World.block_lt_of_cell? w _ h1)).trans h1,h2⟩
structure LayB (w:World):Prop where
 l:Lay w
 s:LayS w
theorem LayB.call {w w':World}(h:LayB w)(hb:Below w.heap.size w w'):LayB w':=⟨h.l.call hb,h.s.call hb⟩
theorem v0b (w:World)(h:LayS w):
 Calls Tryz.prog 94 #[.string a0H] w fun e w'=>(∃ te pe,e=.returned (.tuple #[.int .i64 0,.iface te pe]))∧Below w.heap.size w w':=by
 obtain⟨ev,h1,h2⟩:=h;have:=Any.strconv_Atoi_err Tryz.laysC172 a0H (by decide) (by decide) ev w h1 h2
 change Calls Tryz.prog 94 _ _ _ at this
 refine this.mono ?_;rintro e w' ⟨N,rfl,-,-,hb⟩;exact⟨⟨_,_,rfl⟩,hb⟩
end Go.Proofs.YtlmnpocifldpmaaGreatDoor
namespace Go.Proofs.YtlmnpocifldpmaaGreatDoor
open Go.ChangeShapes
open Go.WideShapes
open Go.ChangeAt
open Go.RowKit
theorem m0o {H:Type}{enc:TypeId×Value→H}{P:Program}{w:World}{b0:Nat}{sp:Nat→Bool}{held:Bool}{fuel:Nat}{t:TypeId}{cs:List Value}{d:DataW H}{p:List MemPlace}{ms}(ht:P.underlying t=some (.interface ms))(h:DataW.trod enc P w b0 sp held fuel t cs=some (d,p)):cs = [.nilIface]∨∃ u v,cs = [.iface u v]:=by
 cases fuel with
 | zero=>simp[DataW.trod]at h
 | succ n=>
  rcases cs with _ | ⟨a,_ | ⟨b,r⟩⟩
  ·simp[DataW.trod,ht]at h
  ·cases a<;>simp[DataW.trod,ht]at h
   ·exact .inr ⟨_,_,rfl⟩
   ·exact .inl rfl
  ·simp[DataW.trod,ht]at h
theorem i0N : Tryz.prog.globalNamed "strconv.ErrSyntax" = some 0 := by kernel_rfl
theorem k0f:(Tryz.prog.globals[0]?).map (·.type)=some 122:=by kernel_rfl
theorem u0i {W:World}(h:laidMetH Tryz.prog Rows.sparseCountsRow.laid W)(hsh:W.ShapedOpen Tryz.prog):LayB W:=by
 refine⟨w0h h hsh,?_⟩;rw[MakeChecks.laidMetH_plain _ _ _ (by kernel_rfl)]at h;obtain⟨ps,⟨g0,t0,cs0,f0,p0,q0,hg0,ht0,hv0,hd0,⟨g1,t1,cs1,f1,p1,q1,hg1,ht1,hv1,hd1,⟨g2,t2,cs2,f2,p2,q2,hg2,ht2,hv2,hd2,⟨g3,t3,cs3,f3,p3,q3,hg3,ht3,hv3,hd3,⟨g4,t4,cs4,f4,p4,q4,hg4,ht4,hv4,hd4,⟨g5,t5,cs5,f5,p5,q5,hg5,ht5,hv5,hd5,_,_⟩,_⟩,_⟩,_⟩,_⟩,_⟩,_,_⟩:=h;obtain rfl:=Option.some.inj (i0N.symm.trans hg5);obtain rfl:=Option.some.inj (k0f.symm.trans ht5);have h1:=m0o Tryz.underlying122 hd5;unfold World.var? at hv5;rw[i0N]at hv5;simp only[Option.bind_some]at hv5
 split at hv5
 ·rename_i cs t fr ho
  cases hv5
  rcases h1 with h1 | ⟨u,v,h1⟩
  ·have e:cs5 = #[.nilIface]:=by cases cs5;simpa using h1
   exact⟨.nilIface,by simp[World.cell?,ho,e],.inl rfl⟩
  ·have e:cs5 = #[.iface u v]:=by cases cs5;simpa using h1
   exact⟨.iface u v,by simp[World.cell?,ho,e],.inr ⟨_,_,rfl⟩⟩
 ·cases hv5
end Go.Proofs.YtlmnpocifldpmaaGreatDoor
namespace Go.Proofs.YtlmnpocifldpmaaGreatDoor
open Go.RowKit
def q0k:Nat→List (List UInt8)
 | 0=>[[]]
 | n+1=>(q0k n).flatMap fun l=>[l ++ [48],l ++ [49]]
theorem f0x:∀ {n:Nat} {l:List UInt8},l∈q0k n→l.length=n
 | 0,l,h=>by simp[q0k]at h;subst h;rfl
 | n+1,l,h=>by
  simp only[q0k,List.mem_flatMap]at h;obtain⟨m,hm,hl⟩:=h;have:=f0x hm;simp at hl;rcases hl with rfl | rfl<;>simp[this]
theorem g0r:∀ n,(q0k n).length=2 ^ n
 | 0=>rfl
 | n+1=>by
  have h:∀ L:List (List UInt8),(L.flatMap fun l=>[l ++ [48],l ++ [49]]).length=2*L.length:=fun L=>by
   induction L with
   | nil=>rfl
   | cons a r ih=>rw[List.flatMap_cons,List.length_append,ih,List.length_cons];simp;omega
  rw[q0k,h,g0r n,Nat.pow_succ];omega
def a0i (c:Nat→Nat):Nat→Nat
 | 0=>0
 | i+1=>a0i c i+c i
theorem a0b {c d:Nat→Nat}:∀ {N:Nat},(∀ i,i<N→c i=d i)→a0i c N=a0i d N
 | 0,_=>rfl
 | N+1,h=>by rw[a0i,a0i,a0b (fun i hi=>h i (by omega)),h N (by omega)]
theorem c0i (c d:Nat→Nat):∀ N,a0i (fun i=>c i+d i) N=a0i c N+a0i d N
 | 0=>rfl
 | N+1=>by rw[a0i,a0i,a0i,c0i c d N];omega
theorem a0t:∀ N,a0i (fun _=>0) N=0
 | 0=>rfl
 | N+1=>by rw[a0i,a0t N]
theorem e0p (j:Nat):∀ N,a0i (fun i=>if j=i then 1 else 0) N=if j<N then 1 else 0
 | 0=>by simp[a0i]
 | N+1=>by
  rw[a0i,e0p j N];by_cases h1:j<N
  ·rw[if_pos h1,if_neg (by omega),if_pos (by omega)]
  ·rw[if_neg h1];by_cases h2:j=N
   ·rw[if_pos h2,if_pos (by omega)]
   ·rw[if_neg h2,if_neg (by omega)]
theorem j0K {α : Type}(g : α→Bool×Nat)(N:Nat):∀ L:List α,(∀ x∈L,(g x).1=true→(g x).2<N)→a0i (fun i=>L.countP (fun x=>(g x).1 && decide ((g x).2=i))) N+L.countP (fun x => !(g x).1)=L.length
 | [],_=>by simp[a0t]
 | x::r,h=>by
  have ih:=j0K g N r (fun y hy=>h y (List.mem_cons_of_mem _ hy));simp only[List.countP_cons];rw[c0i,List.length_cons];cases hx:(g x).1
  ·simp only[Bool.false_and,Bool.not_false,if_true];rw[show a0i (fun i=>if false=true then 1 else 0) N=0 by simpa using a0t N];omega
  ·have h1:=h x (List.mem_cons_self ..) hx;simp only[Bool.true_and,decide_eq_true_eq];rw[e0p,if_pos h1];simp;omega
end Go.Proofs.YtlmnpocifldpmaaGreatDoor
namespace Go.Proofs.YtlmnpocifldpmaaGreatDoor
theorem b0k (f:Nat→Nat):∀ n,a0i f (n+1)=f 0+a0i (fun i=>f (i+1)) n
 | 0=>by simp[a0i]
 | n+1=>by rw[a0i,b0k f n,a0i];omega
theorem c0h (k:Nat)(f:Nat→Nat):∀ n,a0i (fun i=>k*f i) n=k*a0i f n
 | 0=>rfl
 | n+1=>by rw[a0i,a0i,c0h k f n,Nat.mul_add]
theorem d0R {f g:Nat→Nat}:∀ {n:Nat},(∀ i,i<n→f i≤g i)→a0i f n≤a0i g n
 | 0,_=>Nat.le_refl _
 | n+1,h=>by
  rw[a0i,a0i];have:=d0R (n:=n) fun i hi=>h i (by omega)
  have:=h n (by omega);omega
theorem b0v {f:Nat→Nat}{m n:Nat}(h:m≤n):a0i f m≤a0i f n:=by
 induction n with
 | zero=>rw[show m=0 by omega];exact Nat.le_refl _
 | succ n ih=>
  rcases Nat.lt_or_ge n m with h1 | h1
  ·rw[show m=n+1 by omega];exact Nat.le_refl _
  ·have:=ih h1;rw[a0i];omega
theorem n0I {f:Nat→Nat}{i n:Nat}(h:i<n):f i≤a0i f n:=by
 have h1:a0i f (i+1)≤a0i f n:=b0v (by omega);rw[a0i]at h1;omega
def cvo (f g:Nat→Nat)(n:Nat):Nat:=a0i (fun s=>f s*g (n-s)) (n+1)
theorem a0P {f f' g g':Nat→Nat}{n:Nat}(h1:∀ s,s≤n→f s=f' s)(h2:∀ s,s≤n→g s=g' s):cvo f g n=cvo f' g' n:=by
 unfold cvo;refine a0b fun s hs=>?_
 rw[h1 s (by omega),h2 (n-s) (by omega)]
theorem l0R:∀ (n:Nat) (a:Nat→Nat→Nat),a0i (fun s=>a s (n-s)) (n+1)=a0i (fun s=>a (n-s) s) (n+1)
 | 0,a=>by simp[a0i]
 | n+1,a=>by
  have ih:=l0R n fun x y=>a (x+1) y
  rw[b0k];have e1:a0i (fun i=>a (i+1) (n+1-(i+1))) (n+1)=a0i (fun s=>a (s+1) (n-s)) (n+1):=a0b fun i _=>by rw[show n+1-(i+1)=n-i by omega]
  have e2:a0i (fun s=>a (n-s+1) s) (n+1)=a0i (fun s=>a (n+1-s) s) (n+1):=a0b fun i hi=>by rw[show n+1-i=n-i+1 by omega]
  rw[e1,ih,e2];show _=a0i (fun s=>a (n+1-s) s) (n+1)+a (n+1-(n+1)) (n+1)
  rw[Nat.sub_self,Nat.sub_zero];omega
theorem i0k (f g:Nat→Nat)(n:Nat):cvo f g n=cvo g f n:=by
 unfold cvo;rw[l0R n fun x y=>f x*g y];exact a0b fun s _=>Nat.mul_comm _ _
theorem n0E:∀ (n:Nat) (a:Nat→Nat→Nat→Nat),a0i (fun s=>a0i (fun u=>a u (s-u) (n-s)) (s+1)) (n+1)=a0i (fun u=>a0i (fun t=>a u t (n-u-t)) (n-u+1)) (n+1)
 | 0,a=>by simp[a0i]
 | n+1,a=>by
  have ih:=n0E n fun x y z=>a (x+1) y z
  have e1:a0i (fun s=>a0i (fun u=>a u (s-u) (n+1-s)) (s+1)) (n+1+1)=a0i (fun s=>a 0 s (n+1-s)) (n+1+1)+a0i (fun s=>a0i (fun u=>a (u+1) (s-u) (n-s)) (s+1)) (n+1):=by
   have h:∀ s,a0i (fun u=>a u (s-u) (n+1-s)) (s+1)=a 0 s (n+1-s)+a0i (fun u=>a (u+1) (s-(u+1)) (n+1-s)) s:=fun s=>by rw[b0k,Nat.sub_zero]
   rw[a0b (fun s _=>h s),c0i]
   congr 1
   rw[b0k];simp only[a0i,Nat.zero_add];rw[← a0i];refine a0b fun s _=>?_
   rw[show a0i (fun u=>a (u+1) (s+1-(u+1)) (n+1-(s+1))) s+a (s+1) (s+1-(s+1)) (n+1-(s+1))=a0i (fun u=>a (u+1) (s+1-(u+1)) (n+1-(s+1))) (s+1) from rfl];rw[show a0i (fun u=>a (u+1) (s-u) (n-s)) s+a (s+1) (s-s) (n-s)=a0i (fun u=>a (u+1) (s-u) (n-s)) (s+1) from rfl];refine a0b fun u _=>?_
   rw[show s+1-(u+1)=s-u by omega,show n+1-(s+1)=n-s by omega]
  rw[e1,ih,b0k (fun u=>a0i (fun t=>a u t (n+1-u-t)) (n+1-u+1))]
  congr 1
  refine a0b fun u hu=>?_
  rw[show n+1-(u+1)+1=n-u+1 by omega];exact a0b fun t _=>by rw[show n+1-(u+1)-t=n-u-t by omega]
theorem e0M (f g h:Nat→Nat)(n:Nat):cvo (cvo f g) h n=cvo f (cvo g h) n:=by
 unfold cvo;have e1:a0i (fun s=>a0i (fun s_1=>f s_1*g (s-s_1)) (s+1)*h (n-s)) (n+1)=a0i (fun s=>a0i (fun u=>f u*g (s-u)*h (n-s)) (s+1)) (n+1):=a0b fun s _=>by
  rw[Nat.mul_comm,← c0h];exact a0b fun u _=>Nat.mul_comm _ _
 have e2:a0i (fun s=>f s*a0i (fun s_1=>g s_1*h (n-s-s_1)) (n-s+1)) (n+1)=a0i (fun u=>a0i (fun t=>f u*g t*h (n-u-t)) (n-u+1)) (n+1):=a0b fun s _=>by
  rw[← c0h];exact a0b fun u _=>by rw[Nat.mul_assoc]
 rw[e1,e2];exact n0E n fun x y z=>f x*g y*h z
def chi (c:Nat→Bool)(j:Nat):Nat:=if c j=true then 1 else 0
theorem w0L (c:Nat→Bool)(j:Nat):chi c j≤1:=by unfold chi;split<;>omega
def cvF (c:Nat→Bool)(f:Nat→Nat):Nat→Nat→Nat
 | _,0=>0
 | j,n+1=>(if c (j+1)=true then f n else 0)+cvF c f (j+1) n
theorem b0X {c:Nat→Bool}{f:Nat→Nat}:∀ (n j:Nat),(∀ i,j<i→c i=false)→cvF c f j n=0
 | 0,_,_=>rfl
 | n+1,j,h=>by
  rw[cvF,if_neg (by simp[h (j+1) (by omega)]),b0X n (j+1) fun i hi=>h i (by omega)]
theorem p0S (c:Nat→Bool)(f:Nat→Nat):∀ n j,cvF c f j n=a0i (fun i=>chi c (j+i+1)*f (n-(i+1))) n
 | 0,j=>rfl
 | n+1,j=>by
  rw[cvF,p0S c f n (j+1),b0k]
  congr 1
  ·unfold chi;rw[show j+0+1=j+1 by omega,show n+1-(0+1)=n by omega]
   split<;>simp
  ·exact a0b fun i _=>by rw[show j+1+i+1=j+(i+1)+1 by omega,show n-(i+1)=n+1-(i+1+1) by omega]
theorem i0l (c:Nat→Bool)(f:Nat→Nat)(n:Nat):cvo (chi c) f n=(if c 0=true then f n else 0)+cvF c f 0 n:=by
 unfold cvo;rw[b0k,p0S]
 congr 1
 ·unfold chi;rw[Nat.sub_zero]
  split<;>simp
 ·exact a0b fun i _=>by rw[show 0+i+1=i+1 by omega]
def dlt (j:Nat):Nat:=if j=0 then 1 else 0
theorem u0H (f:Nat→Nat)(n:Nat):cvo dlt f n=f n:=by
 unfold cvo;rw[b0k];have:a0i (fun i=>dlt (i+1)*f (n-(i+1))) n=a0i (fun _=>0) n:=a0b fun i _=>by unfold dlt;simp
 rw[this,a0t];unfold dlt;simp
def pw2 (j:Nat):Nat:=2 ^ j
open Go.RowKit
def sdx (N D:Nat):Nat→Nat×Bool
 | 0=>(N,decide (N≠0))
 | j+1=>if (sdx N D j).2=true then (if D≤2*(sdx N D j).1 then (2*(sdx N D j).1-D,decide (2*(sdx N D j).1≠D)) else (2*(sdx N D j).1,true)) else sdx N D j
def c0p (N D:Nat):Nat→Bool
 | 0=>false
 | j+1=>(sdx N D j).2 && decide (D≤2*(sdx N D j).1)
def a0F (N D:Nat):Nat→Bool
 | 0=>decide (N=0)
 | j+1=>(sdx N D j).2 && decide (2*(sdx N D j).1≤D)
theorem h0u {N D j:Nat}(h:(sdx N D j).2=false):∀ i,j≤i→(sdx N D i).2=false
 | 0,hi=>by rw[show j=0 by omega]at h;exact h
 | i+1,hi=>by
  rcases Nat.lt_or_ge i j with h1 | h1
  ·rw[← show j=i+1 by omega];exact h
  ·have:=h0u h i h1;rw[sdx,if_neg (by simp[this])];exact this
theorem d0c {N D j:Nat}(h:(sdx N D j).2=false)(i:Nat)(hi:j<i):c0p N D i=false:=by
 cases i with
 | zero=>rfl
 | succ i=>rw[c0p,h0u h i (by omega)];rfl
theorem c0q {N D j:Nat}(h:(sdx N D j).2=false)(i:Nat)(hi:j<i):a0F N D i=false:=by
 cases i with
 | zero=>omega
 | succ i=>rw[a0F,h0u h i (by omega)];rfl
theorem s0D {N D:Nat}(h:N<D):∀ j,(sdx N D j).1<D
 | 0=>h
 | j+1=>by
  have:=s0D h j;rw[sdx]
  split
  ·split
   ·dsimp only;omega
   ·dsimp only;omega
  ·exact this
def g0t (f:Nat→Bool)(n j:Nat):List Value:=(List.range (n+1)).map fun i=>.bool (decide (i<j) && f i)
@[simp] theorem tabL_length (f:Nat→Bool) (n j:Nat):(g0t f n j).length=n+1:=by simp[g0t]
theorem a0I {f:Nat→Bool}{n j i:Nat}(h:i≤n):(g0t f n j)[i]?=some (.bool (decide (i<j) && f i)):=by simp[g0t,List.getElem?_range (show i<n+1 by omega)]
theorem d0r {f:Nat→Bool}{n j:Nat}(h:j≤n):(g0t f n j).set j (.bool (f j))=g0t f n (j+1):=by
 apply List.ext_getElem?
 intro i;rw[List.getElem?_set];by_cases hi:j=i
 ·subst hi;rw[if_pos rfl,if_pos (by simp;omega),a0I h];simp
 ·rw[if_neg hi];by_cases h2:i≤n
  ·rw[a0I h2,a0I h2]
   congr 2
   by_cases h3:i<j
   ·simp[h3,show i<j+1 by omega]
   ·simp[h3,show ¬ i<j+1 by omega]
  ·rw[List.getElem?_eq_none (by simp;omega),List.getElem?_eq_none (by simp;omega)]
theorem i0M {f:Nat→Bool}{n j:Nat}(h:∀ i,j≤i→f i=false):∀ k,j≤k→g0t f n k=g0t f n j:=by
 intro k hk;apply List.ext_getElem?
 intro i;by_cases h2:i≤n
 ·rw[a0I h2,a0I h2];by_cases h3:i<j
  ·simp[h3,show i<k by omega]
  ·simp[h i (by omega)]
 ·rw[List.getElem?_eq_none (by simp;omega),List.getElem?_eq_none (by simp;omega)]
theorem i0L {f:Nat→Bool}{n j:Nat}(h:f j=false):g0t f n (j+1)=g0t f n j:=by
 apply List.ext_getElem?
 intro i;by_cases h2:i≤n
 ·rw[a0I h2,a0I h2];by_cases h3:i<j
  ·simp[h3,show i<j+1 by omega]
  ·by_cases h4:i=j
   ·subst h4;simp[h]
   ·simp[h3,show ¬ i<j+1 by omega]
 ·rw[List.getElem?_eq_none (by simp;omega),List.getElem?_eq_none (by simp;omega)]
theorem n0H (f:Nat→Bool)(n:Nat):g0t f n 0=List.replicate (n+1) (.bool false):=by
 apply List.ext_getElem?
 intro i;by_cases h2:i≤n
 ·rw[a0I h2,List.getElem?_replicate,if_pos (by omega)];simp
 ·rw[List.getElem?_eq_none (by simp;omega),List.getElem?_eq_none (by simp;omega)]
def i0z (f:Nat→Bool)(n:Nat):List Value:=(List.range (n+1)).map fun i=>.bool (f i)
theorem f0y {f:Nat→Bool}{n i:Nat}(h:i≤n):(i0z f n)[i]?=some (.bool (f i)):=by simp[i0z,List.getElem?_range (show i<n+1 by omega)]
theorem e0m (f:Nat→Bool)(n:Nat){j:Nat}(h:n<j):g0t f n j=i0z f n:=by
 unfold i0z;apply List.ext_getElem?
 intro i;by_cases h2:i≤n
 ·rw[a0I h2];simp[List.getElem?_range (show i<n+1 by omega),show i<j by omega]
 ·rw[List.getElem?_eq_none (by simp;omega),List.getElem?_eq_none (by simp;omega)]
def cw:Nat→(List UInt8→Bool)→Nat
 | 0,P=>if P []=true then 1 else 0
 | n+1,P=>cw n (fun l=>P (48::l))+cw n (fun l=>P (49::l))
theorem a0Q:∀ {n:Nat} {P Q:List UInt8→Bool},(∀ l,l.length=n→P l=Q l)→cw n P=cw n Q
 | 0,P,Q,h=>by rw[cw,cw,h [] rfl]
 | n+1,P,Q,h=>by
  rw[cw,cw,a0Q (n:=n) (fun l hl=>h (48::l) (by simp[hl])),a0Q (n:=n) (fun l hl=>h (49::l) (by simp[hl]))]
theorem k0I:∀ (n:Nat) (P:List UInt8→Bool),cw (n+1) P=cw n (fun l=>P (l ++ [48]))+cw n (fun l=>P (l ++ [49]))
 | 0,P=>by simp[cw]
 | n+1,P=>by
  rw[cw,k0I n,k0I n,cw,cw];simp only[List.cons_append];omega
theorem n0f (L:List (List UInt8))(P:List UInt8→Bool):(L.flatMap fun l=>[l ++ [48],l ++ [49]]).countP P=L.countP (fun l=>P (l ++ [48]))+L.countP (fun l=>P (l ++ [49])):=by
 induction L with
 | nil=>rfl
 | cons a r ih=>
  rw[List.flatMap_cons,List.countP_append,ih];simp only[List.countP_cons,List.countP_nil];omega
theorem h0d:∀ (n:Nat) (P:List UInt8→Bool),(q0k n).countP P=cw n P
 | 0,P=>by simp[q0k,cw]
 | n+1,P=>by rw[q0k,n0f,h0d n,h0d n,← k0I]
theorem p0R:∀ n,cw n (fun _=>true)=2 ^ n
 | 0=>rfl
 | n+1=>by rw[cw,p0R n,Nat.pow_succ];omega
theorem c0m:∀ n,cw n (fun _=>false)=0
 | 0=>rfl
 | n+1=>by rw[cw,c0m n]
def b0F (N D K T:Nat)(P1 P0:List UInt8→Bool)(l:List UInt8):Bool:=
 (b0Z N D K T l).1 && (if (b0Z N D K T l).2.1=1 then P1 (l.drop (b0Z N D K T l).2.2) else P0 (l.drop (b0Z N D K T l).2.2))
theorem l0e {N D K T:Nat}{l:List UInt8}(h:sdB N D K T=true):b0Z N D K T l=(true,sdV N D K T,0):=by
 unfold b0Z;rw[if_pos h]
theorem n0F {N D K T:Nat}{b:UInt8}{l:List UInt8}(h:sdB N D K T=false):b0Z N D K T (b::l)=((b0Z N D (2*K+(if b=49 then 1 else 0)) (2*T) l).1,(b0Z N D (2*K+(if b=49 then 1 else 0)) (2*T) l).2.1,(b0Z N D (2*K+(if b=49 then 1 else 0)) (2*T) l).2.2+1):=by
 rw[b0Z,if_neg (by simp[h])]
theorem q0z {N D K T:Nat}(h:sdB N D K T=false):b0Z N D K T []=(false,0,0):=by
 rw[b0Z,if_neg (by simp[h])]
theorem h0e {N D K T:Nat}{P1 P0:List UInt8→Bool}{l:List UInt8}(h:sdB N D K T=true)(hv:sdV N D K T=1):b0F N D K T P1 P0 l=P1 l:=by
 unfold b0F;rw[l0e h];simp[hv]
theorem e0U {N D K T:Nat}{P1 P0:List UInt8→Bool}{l:List UInt8}(h:sdB N D K T=true)(hv:sdV N D K T=0):b0F N D K T P1 P0 l=P0 l:=by
 unfold b0F;rw[l0e h];simp[hv]
theorem h0f {N D K T:Nat}{P1 P0:List UInt8→Bool}{b:UInt8}{l:List UInt8}(h:sdB N D K T=false):b0F N D K T P1 P0 (b::l)=b0F N D (2*K+(if b=49 then 1 else 0)) (2*T) P1 P0 l:=by
 unfold b0F;rw[n0F h];simp
theorem p0W {N D K T:Nat}{P1 P0:List UInt8→Bool}(h:sdB N D K T=false):b0F N D K T P1 P0 []=false:=by
 unfold b0F;rw[q0z h];rfl
structure OpenC (N D K T j x:Nat):Prop where
 eq:N*T=K*D+x
 pos:0<x
 lt:x<D
 at_:sdx N D j=(x,true)
theorem OpenC.undec {N D K T j x:Nat}(h:OpenC N D K T j x):sdB N D K T=false:=by
 obtain⟨h1,h2,h3,-⟩:=h;unfold sdB;rw[Bool.or_eq_false_iff,decide_eq_false_iff_not,decide_eq_false_iff_not];omega
theorem q0x {N D K T x b:Nat}(h:N*T=K*D+x):N*(2*T)=2*(K*D)+2*x∧(2*K+b)*D=2*(K*D)+b*D:=by
 constructor
 ·rw[Nat.mul_left_comm,h];omega
 ·rw[Nat.add_mul,Nat.mul_assoc]
theorem k0K {N D:Nat}{P1 P0:List UInt8→Bool}:∀ (n:Nat) {K T j x:Nat},OpenC N D K T j x→cw n (b0F N D K T P1 P0)=cvF (c0p N D) (fun m=>cw m P1) j n+cvF (a0F N D) (fun m=>cw m P0) j n
 | 0,K,T,j,x,h=>by rw[cw,p0W h.undec];rfl
 | n+1,K,T,j,x,h=>by
  have hu:=h.undec;obtain⟨h1,h2,h3,h4⟩:=h;have c0:cw n (fun l=>b0F N D K T P1 P0 (48::l))=cw n (b0F N D (2*K+0) (2*T) P1 P0):=a0Q fun l _=>by rw[h0f hu];rfl
  have c1:cw n (fun l=>b0F N D K T P1 P0 (49::l))=cw n (b0F N D (2*K+1) (2*T) P1 P0):=a0Q fun l _=>by rw[h0f hu];rfl
  rw[cw,c0,c1,cvF,cvF];have e1:=(q0x (b:=0) h1).1;have e2:(2*K+0)*D=2*(K*D):=by rw[Nat.add_zero,Nat.mul_assoc]
  have e3:(2*K+1)*D=2*(K*D)+D:=by rw[Nat.add_mul,Nat.mul_assoc,Nat.one_mul]
  have eo:c0p N D (j+1)=decide (D≤2*x):=by rw[c0p,h4];simp
  have ez:a0F N D (j+1)=decide (2*x≤D):=by rw[a0F,h4];simp
  rw[eo,ez];rcases Nat.lt_trichotomy (2*x) D with hc | hc | hc
  ·-- a 0 leaves it open,a 1 gives 0
   have hs:sdx N D (j+1)=(2*x,true):=by rw[sdx,h4];simp;omega
   have ih:=k0K (N:=N) (D:=D) (P1:=P1) (P0:=P0) n (K:=2*K+0) (T:=2*T) (j:=j+1) (x:=2*x) ⟨by omega,by omega,hc,hs⟩;have hd:sdB N D (2*K+1) (2*T)=true:=by unfold sdB;rw[Bool.or_eq_true,decide_eq_true_eq,decide_eq_true_eq];left;omega
   have hv:sdV N D (2*K+1) (2*T)=0:=by unfold sdV;rw[if_pos (by omega)]
   rw[ih,a0Q (n:=n) (P:=b0F N D (2*K+1) (2*T) P1 P0) (Q:=P0) (fun l _=>e0U hd hv),if_neg (by simp;omega),if_pos (by simp;omega)];omega
  ·-- both give a result
   have hs:(sdx N D (j+1)).2=false:=by rw[sdx,h4];simp[hc]
   have hd0:sdB N D (2*K+0) (2*T)=true:=by unfold sdB;rw[Bool.or_eq_true,decide_eq_true_eq,decide_eq_true_eq];right;omega
   have hv0:sdV N D (2*K+0) (2*T)=1:=by unfold sdV;rw[if_neg (by omega)]
   have hd1:sdB N D (2*K+1) (2*T)=true:=by unfold sdB;rw[Bool.or_eq_true,decide_eq_true_eq,decide_eq_true_eq];left;omega
   have hv1:sdV N D (2*K+1) (2*T)=0:=by unfold sdV;rw[if_pos (by omega)]
   rw[a0Q (n:=n) (P:=b0F N D (2*K+0) (2*T) P1 P0) (Q:=P1) (fun l _=>h0e hd0 hv0),a0Q (n:=n) (P:=b0F N D (2*K+1) (2*T) P1 P0) (Q:=P0) (fun l _=>e0U hd1 hv1),if_pos (by simp;omega),if_pos (by simp;omega),b0X n (j+1) (fun i hi=>d0c hs i hi),b0X n (j+1) (fun i hi=>c0q hs i hi)]
   rfl
  ·-- a 1 leaves it open,a 0 gives 1
   have hs:sdx N D (j+1)=(2*x-D,true):=by
    rw[sdx,h4];show (if true=true then (if D≤2*x then (2*x-D,decide (2*x≠D)) else (2*x,true)) else (x,true))=_
    rw[if_pos rfl,if_pos (by omega),decide_eq_true (by omega)]
   have ih:=k0K (N:=N) (D:=D) (P1:=P1) (P0:=P0) n (K:=2*K+1) (T:=2*T) (j:=j+1) (x:=2*x-D) ⟨by omega,by omega,by omega,hs⟩;have hd:sdB N D (2*K+0) (2*T)=true:=by unfold sdB;rw[Bool.or_eq_true,decide_eq_true_eq,decide_eq_true_eq];right;omega
   have hv:sdV N D (2*K+0) (2*T)=1:=by unfold sdV;rw[if_neg (by omega)]
   rw[ih,a0Q (n:=n) (P:=b0F N D (2*K+0) (2*T) P1 P0) (Q:=P1) (fun l _=>h0e hd hv),if_pos (by simp;omega),if_neg (by simp;omega)];omega
theorem d0C {N D:Nat}(h:N<D)(n:Nat)(P1 P0:List UInt8→Bool):cw n (b0F N D 0 1 P1 P0)=cvo (chi (c0p N D)) (fun m=>cw m P1) n+cvo (chi (a0F N D)) (fun m=>cw m P0) n:=by
 rw[i0l,i0l];have o0:c0p N D 0=false:=rfl;rw[o0,if_neg (by simp)];by_cases h0:N=0
 ·subst h0;have hs:(sdx 0 D 0).2=false:=by simp[sdx]
  have hd:sdB 0 D 0 1=true:=by simp[sdB]
  have hv:sdV 0 D 0 1=0:=by simp[sdV]
  rw[a0Q (n:=n) (Q:=P0) (fun l _=>e0U hd hv),show a0F 0 D 0=true from by simp[a0F],if_pos rfl,b0X n 0 (fun i hi=>d0c hs i hi),b0X n 0 (fun i hi=>c0q hs i hi)];omega
 ·have hz:a0F N D 0=false:=by simp[a0F,h0]
  rw[hz,if_neg (by simp),k0K n (K:=0) (T:=1) (j:=0) (x:=N) ⟨by omega,by omega,h,by simp[sdx,h0]⟩];omega
end Go.Proofs.YtlmnpocifldpmaaGreatDoor
namespace Go.Proofs
open Go.Shelf
def Tryz.lays145_ren:Go.Shelf.Ren:=⟨fun | 145=>182 | 220=>243 | 219=>286 | 217=>306 | 225=>307 | 224=>308 | 267=>309 | 266=>317 | 314=>318 | n=>n,fun | 9=>9 | 4=>4 | 59=>199 | 3=>3 | 5=>5 | 46=>125 | 146=>176 | 51=>175 | n=>n,fun | 1=>3 | n=>n⟩
theorem Tryz.lays145:Go.Proofs.Lays.n145 Tryz.prog Tryz.lays145_ren:={
 mixed:=by kernel_rfl
 f145:=Tryz.func182.trans (congrArg some (by kernel_rfl))
 f217:=Tryz.func306.trans (congrArg some (by kernel_rfl))
 f219:=Tryz.func286.trans (congrArg some (by kernel_rfl))
 f220:=Tryz.func243.trans (congrArg some (by kernel_rfl))
 f224:=Tryz.func308.trans (congrArg some (by kernel_rfl))
 f225:=Tryz.func307.trans (congrArg some (by kernel_rfl))
 f266:=Tryz.func317.trans (congrArg some (by kernel_rfl))
 f267:=Tryz.func309.trans (congrArg some (by kernel_rfl))
 f314:=Tryz.func318.trans (congrArg some (by kernel_rfl))
 t3:=Tryz.underlying3
 a3:=Tryz.isAgg3
 z3:=Tryz.sizeOf3
 v3:=Tryz.zeroValue3
 t4:=Tryz.underlying4
 a4:=Tryz.isAgg4
 z4:=Tryz.sizeOf4
 v4:=Tryz.zeroValue4
 t5:=Tryz.underlying5
 a5:=Tryz.isAgg5
 z5:=Tryz.sizeOf5
 v5:=Tryz.zeroValue5
 t9:=Tryz.underlying9
 a9:=Tryz.isAgg9
 z9:=Tryz.sizeOf9
 v9:=Tryz.zeroValue9
 t46:=Tryz.underlying125
 a46:=Tryz.isAgg125
 z46:=Tryz.sizeOf125
 v46:=Tryz.zeroValue125
 t51:=Tryz.underlying175
 a51:=Tryz.isAgg175
 z51:=Tryz.sizeOf175
 v51:=Tryz.zeroValue175
 t59:=Tryz.underlying199
 a59:=Tryz.isAgg199
 z59:=Tryz.sizeOf199
 v59:=Tryz.zeroValue199
 t146:=Tryz.underlying176
 a146:=Tryz.isAgg176
 z146:=Tryz.sizeOf176
 v146:=Tryz.zeroValue176
 g1:=by kernel_rfl }
theorem Tryz.strings_Cut (s sep:ByteArray)(m:Int)(w:World)(hs:s.size<4294967281)(hm:w.cell? ⟨3,0,none⟩=some (.int .i64 m)):
 Calls Tryz.prog 182 #[.string s,.string sep] w fun e w'=>e=.returned (.tuple #[.string ⟨(Lib.cut s.data.toList sep.data.toList).1.toArray⟩,.string ⟨(Lib.cut s.data.toList sep.data.toList).2.1.toArray⟩,.bool (Lib.cut s.data.toList sep.data.toList).2.2])∧∃ n,w'=w.drewN n:=Any.strings_Cut Tryz.lays145 s sep m w hs hm
end Go.Proofs
namespace Go.Proofs.YtlmnpocifldpmaaGreatDoor
open Go.RowKit
open Go.Shelf
theorem x0u (w:World)(s:ByteArray)(hs:s.size≤100000000)(hL:Lay w):
 Calls Tryz.prog 182 #[.string s,.string ⟨#[47]⟩] w fun e w'=>e=.returned (.tuple #[.string (cW s),.string (cB s),.bool (cS s)])∧Below w.heap.size w w':=by
 obtain⟨m,hm⟩:=hL.max;refine (Tryz.strings_Cut s ⟨#[47]⟩ m w (by omega) hm).mono ?_;rintro e w' ⟨rfl,n,rfl⟩;exact⟨rfl,a0h (Below.refl _ _) n⟩
structure Cuts (s W B D:ByteArray)(S M I fb:Bool):Prop where
 cut:∀ w,Lay w→Calls Tryz.prog 182 #[.string s,.string ⟨#[47]⟩] w fun e w'=>e=.returned (.tuple #[.string W,.string B,.bool S])∧Below w.heap.size w w'
 int:∀ w,Calls Tryz.prog 183 #[.string W] w fun e w'=>e=.returned (.tuple #[.bool M,.string D,.bool I])∧Below w.heap.size w w'
 form:∀ w,Calls Tryz.prog 184 #[.string B] w fun e w'=>e=.returned (.bool fb)∧Below w.heap.size w w'
theorem p0T (s:ByteArray)(hs:s.size≤1000000):Cuts s (cW s) (cB s) (iD (cW s)) (cS s) (iM (cW s)) (iB (cW s)) (fB (cB s)):={
 cut:=fun w hL=>x0u w s (by omega) hL
 int:=fun w=>j0E w (cW s) (by have:=i0p s;omega)
 form:=fun w=>j0u w (cB s) (by have:=k0O s;omega) }
theorem w0A (w:World)(s W B D:ByteArray)(S M I fb:Bool)(HL:Hid (Lay w))(HC:Cuts s W B D S M I fb)
 (h:(I && (!S || (decide (D≠⟨#[48]⟩) && fb && decide (B≠⟨#[48]⟩) && decide (B≠⟨#[49]⟩))))=false):
 Calls Tryz.prog 117 #[.string s] w fun e w'=>e=.returned (.tuple #[.agg #[.bool false,.slice none 0 0,.slice none 0 0],.int .i64 3])∧Below w.heap.size w w':=by
 have key:(I=false)∨(I=true∧S=true∧(D=⟨#[48]⟩∨(¬ D=⟨#[48]⟩∧(fb=false∨(fb=true∧(B=⟨#[48]⟩∨(¬ B=⟨#[48]⟩∧B=⟨#[49]⟩))))))):=by
  by_cases h1:D=⟨#[48]⟩<;>by_cases h2:B=⟨#[48]⟩<;>by_cases h3:B=⟨#[49]⟩<;>cases I<;>cases S<;>cases fb<;>simp[h1,h2,h3]at h ⊢
 have HK:=hid HC;clear HC h;have t0:=hid (Blk.new w #[.bool false,.slice none 0 0,.slice none 0 0] 94);have t1:=hid ((Below.refl w.heap.size w).alloc (Nat.le_refl _) (.cells #[.bool false,.slice none 0 0,.slice none 0 0] 94));have t2:=hid (HL.out.call t1.out);rcases key with rfl | ⟨rfl,rfl,rfl | ⟨h1,rfl | ⟨rfl,rfl | ⟨h2,rfl⟩⟩⟩⟩
 ·cases S
  all_goals
   go_enter Tryz.func117,Tryz.ntmps117;go_wp2_with (first
    | (go_at_call 182;refine (HK.out.cut _ t2.out).mono ?_;rintro e w1 ⟨rfl,hb1⟩
       have x1:=hid (t0.out.call hb1);have y1:=hid (a0a t1.out hb1);clear hb1)
    | (go_at_call 183;refine (HK.out.int _).mono ?_;rintro e w2 ⟨rfl,hb2⟩
       have x2:=hid (x1.out.call hb2);have y2:=hid (a0a y1.out hb2);clear hb2;have d0:=x2.out.cell 0;have d1:=x2.out.cell 1;have d2:=x2.out.cell 2;have e0:=x2.out.free 0;have e1:=x2.out.free 1;have e2:=x2.out.free 2;simp at d0 d1 d2)
    | (go_at_call 184;refine (HK.out.form _).mono ?_;rintro e w3 ⟨rfl,hb3⟩
       have x3:=hid (x2.out.call hb3);have y3:=hid (a0a y2.out hb3);clear hb3 d0 d1 d2 e0 e1 e2;have d0:=x3.out.cell 0;have d1:=x3.out.cell 1;have d2:=x3.out.cell 2;have e0:=x3.out.free 0;have e1:=x3.out.free 1;have e2:=x3.out.free 2;simp at d0 d1 d2)
    | fail)
   first
    | (obtain⟨s1,s2⟩:=c0c x3.out false none none 0 0 0 0
       have f0:=s2.cell 0;have f1:=s2.cell 1;have f2:=s2.cell 2;simp at f0 f1 f2;refine bodyPost_ret (v:=.tuple #[.agg #[.bool false,.slice none 0 0,.slice none 0 0],.int .i64 3]) (by simp[results,Tryz.results117,go_sem,f0,f1,f2]) rfl ⟨rfl,?_⟩;exact ((y3.out.setCell (Nat.le_refl _) _).setCell (Nat.le_refl _) _).setCell (Nat.le_refl _) _)
    | (obtain⟨s1,s2⟩:=c0c x2.out false none none 0 0 0 0
       have f0:=s2.cell 0;have f1:=s2.cell 1;have f2:=s2.cell 2;simp at f0 f1 f2;refine bodyPost_ret (v:=.tuple #[.agg #[.bool false,.slice none 0 0,.slice none 0 0],.int .i64 3]) (by simp[results,Tryz.results117,go_sem,f0,f1,f2]) rfl ⟨rfl,?_⟩;exact ((y2.out.setCell (Nat.le_refl _) _).setCell (Nat.le_refl _) _).setCell (Nat.le_refl _) _)
 all_goals (try have i1:=a0J (l:=[48]) h1)
 all_goals (try have i2:=a0J (l:=[48]) h2)
 all_goals
  go_enter Tryz.func117,Tryz.ntmps117;go_wp2_with (first
   | (go_at_call 182;refine (HK.out.cut _ t2.out).mono ?_;rintro e w1 ⟨rfl,hb1⟩
      have x1:=hid (t0.out.call hb1);have y1:=hid (a0a t1.out hb1);clear hb1)
   | (go_at_call 183;refine (HK.out.int _).mono ?_;rintro e w2 ⟨rfl,hb2⟩
      have x2:=hid (x1.out.call hb2);have y2:=hid (a0a y1.out hb2);clear hb2;have d0:=x2.out.cell 0;have d1:=x2.out.cell 1;have d2:=x2.out.cell 2;have e0:=x2.out.free 0;have e1:=x2.out.free 1;have e2:=x2.out.free 2;simp at d0 d1 d2)
   | (go_at_call 184;refine (HK.out.form _).mono ?_;rintro e w3 ⟨rfl,hb3⟩
      have x3:=hid (x2.out.call hb3);have y3:=hid (a0a y2.out hb3);clear hb3 d0 d1 d2 e0 e1 e2;have d0:=x3.out.cell 0;have d1:=x3.out.cell 1;have d2:=x3.out.cell 2;have e0:=x3.out.free 0;have e1:=x3.out.free 1;have e2:=x3.out.free 2;simp at d0 d1 d2)
   | fail)
  first
   | (obtain⟨s1,s2⟩:=c0c x3.out false none none 0 0 0 0
      have f0:=s2.cell 0;have f1:=s2.cell 1;have f2:=s2.cell 2;simp at f0 f1 f2;refine bodyPost_ret (v:=.tuple #[.agg #[.bool false,.slice none 0 0,.slice none 0 0],.int .i64 3]) (by simp[results,Tryz.results117,go_sem,f0,f1,f2]) rfl ⟨rfl,?_⟩;exact ((y3.out.setCell (Nat.le_refl _) _).setCell (Nat.le_refl _) _).setCell (Nat.le_refl _) _)
   | (obtain⟨s1,s2⟩:=c0c x2.out false none none 0 0 0 0
      have f0:=s2.cell 0;have f1:=s2.cell 1;have f2:=s2.cell 2;simp at f0 f1 f2;refine bodyPost_ret (v:=.tuple #[.agg #[.bool false,.slice none 0 0,.slice none 0 0],.int .i64 3]) (by simp[results,Tryz.results117,go_sem,f0,f1,f2]) rfl ⟨rfl,?_⟩;exact ((y2.out.setCell (Nat.le_refl _) _).setCell (Nat.le_refl _) _).setCell (Nat.le_refl _) _)
theorem u0B (w:World)(s W B D:ByteArray)(S M fb:Bool)(HL:Hid (Lay w))(HC:Cuts s W B D S M true fb)
 (h:S=false∨(S=true∧¬ D=⟨#[48]⟩∧¬ B=⟨#[48]⟩∧¬ B=⟨#[49]⟩∧fb=true)) (hl:4000<D.size∨(¬ 4000<D.size∧S=true∧4000<B.size)):
 Calls Tryz.prog 117 #[.string s] w fun e w'=>e=.returned (.tuple #[.agg #[.bool false,.slice none 0 0,.slice none 0 0],.int .i64 5])∧Below w.heap.size w w':=by
 have HK:=hid HC;clear HC;have t0:=hid (Blk.new w #[.bool false,.slice none 0 0,.slice none 0 0] 94);have t1:=hid ((Below.refl w.heap.size w).alloc (Nat.le_refl _) (.cells #[.bool false,.slice none 0 0,.slice none 0 0] 94));have t2:=hid (HL.out.call t1.out);rcases h with rfl | ⟨rfl,h1,h2,h3,rfl⟩
 ·have q0:decide ((4000:Int)<(D.size:Int))=true:=by
   rcases hl with hl | ⟨_,hl,_⟩
   ·simp;omega
   ·cases hl
  clear hl;go_enter Tryz.func117,Tryz.ntmps117;go_wp2_with (first
   | (go_at_call 182;refine (HK.out.cut _ t2.out).mono ?_;rintro e w1 ⟨rfl,hb1⟩
      have x1:=hid (t0.out.call hb1);have y1:=hid (a0a t1.out hb1);clear hb1)
   | (go_at_call 183;refine (HK.out.int _).mono ?_;rintro e w2 ⟨rfl,hb2⟩
      have x2:=hid (x1.out.call hb2);have y2:=hid (a0a y1.out hb2);clear hb2;have d0:=x2.out.cell 0;have d1:=x2.out.cell 1;have d2:=x2.out.cell 2;have e0:=x2.out.free 0;have e1:=x2.out.free 1;have e2:=x2.out.free 2;simp at d0 d1 d2)
   | (go_at_call 184;refine (HK.out.form _).mono ?_;rintro e w3 ⟨rfl,hb3⟩
      have x3:=hid (x2.out.call hb3);have y3:=hid (a0a y2.out hb3);clear hb3 d0 d1 d2 e0 e1 e2;have d0:=x3.out.cell 0;have d1:=x3.out.cell 1;have d2:=x3.out.cell 2;have e0:=x3.out.free 0;have e1:=x3.out.free 1;have e2:=x3.out.free 2;simp at d0 d1 d2)
   | fail)
  first
   | (obtain⟨s1,s2⟩:=c0c x3.out false none none 0 0 0 0
      have f0:=s2.cell 0;have f1:=s2.cell 1;have f2:=s2.cell 2;simp at f0 f1 f2;refine bodyPost_ret (v:=.tuple #[.agg #[.bool false,.slice none 0 0,.slice none 0 0],.int .i64 5]) (by simp[results,Tryz.results117,go_sem,f0,f1,f2]) rfl ⟨rfl,?_⟩;exact ((y3.out.setCell (Nat.le_refl _) _).setCell (Nat.le_refl _) _).setCell (Nat.le_refl _) _)
   | (obtain⟨s1,s2⟩:=c0c x2.out false none none 0 0 0 0
      have f0:=s2.cell 0;have f1:=s2.cell 1;have f2:=s2.cell 2;simp at f0 f1 f2;refine bodyPost_ret (v:=.tuple #[.agg #[.bool false,.slice none 0 0,.slice none 0 0],.int .i64 5]) (by simp[results,Tryz.results117,go_sem,f0,f1,f2]) rfl ⟨rfl,?_⟩;exact ((y2.out.setCell (Nat.le_refl _) _).setCell (Nat.le_refl _) _).setCell (Nat.le_refl _) _)
 ·have i1:=a0J (l:=[48]) h1;have i2:=a0J (l:=[48]) h2;have i3:=a0J (l:=[49]) h3;rcases hl with hl | ⟨hl,-,hl2⟩
  ·have q0:decide ((4000:Int)<(D.size:Int))=true:=by simp;omega
   clear hl;go_enter Tryz.func117,Tryz.ntmps117;go_wp2_with (first
    | (go_at_call 182;refine (HK.out.cut _ t2.out).mono ?_;rintro e w1 ⟨rfl,hb1⟩
       have x1:=hid (t0.out.call hb1);have y1:=hid (a0a t1.out hb1);clear hb1)
    | (go_at_call 183;refine (HK.out.int _).mono ?_;rintro e w2 ⟨rfl,hb2⟩
       have x2:=hid (x1.out.call hb2);have y2:=hid (a0a y1.out hb2);clear hb2;have d0:=x2.out.cell 0;have d1:=x2.out.cell 1;have d2:=x2.out.cell 2;have e0:=x2.out.free 0;have e1:=x2.out.free 1;have e2:=x2.out.free 2;simp at d0 d1 d2)
    | (go_at_call 184;refine (HK.out.form _).mono ?_;rintro e w3 ⟨rfl,hb3⟩
       have x3:=hid (x2.out.call hb3);have y3:=hid (a0a y2.out hb3);clear hb3 d0 d1 d2 e0 e1 e2;have d0:=x3.out.cell 0;have d1:=x3.out.cell 1;have d2:=x3.out.cell 2;have e0:=x3.out.free 0;have e1:=x3.out.free 1;have e2:=x3.out.free 2;simp at d0 d1 d2)
    | fail)
   first
    | (obtain⟨s1,s2⟩:=c0c x3.out false none none 0 0 0 0
       have f0:=s2.cell 0;have f1:=s2.cell 1;have f2:=s2.cell 2;simp at f0 f1 f2;refine bodyPost_ret (v:=.tuple #[.agg #[.bool false,.slice none 0 0,.slice none 0 0],.int .i64 5]) (by simp[results,Tryz.results117,go_sem,f0,f1,f2]) rfl ⟨rfl,?_⟩;exact ((y3.out.setCell (Nat.le_refl _) _).setCell (Nat.le_refl _) _).setCell (Nat.le_refl _) _)
    | (obtain⟨s1,s2⟩:=c0c x2.out false none none 0 0 0 0
       have f0:=s2.cell 0;have f1:=s2.cell 1;have f2:=s2.cell 2;simp at f0 f1 f2;refine bodyPost_ret (v:=.tuple #[.agg #[.bool false,.slice none 0 0,.slice none 0 0],.int .i64 5]) (by simp[results,Tryz.results117,go_sem,f0,f1,f2]) rfl ⟨rfl,?_⟩;exact ((y2.out.setCell (Nat.le_refl _) _).setCell (Nat.le_refl _) _).setCell (Nat.le_refl _) _)
  ·have q0:decide ((4000:Int)<(D.size:Int))=false:=by simp;omega
   have q1:decide ((4000:Int)<(B.size:Int))=true:=by simp;omega
   clear hl hl2;go_enter Tryz.func117,Tryz.ntmps117;go_wp2_with (first
    | (go_at_call 182;refine (HK.out.cut _ t2.out).mono ?_;rintro e w1 ⟨rfl,hb1⟩
       have x1:=hid (t0.out.call hb1);have y1:=hid (a0a t1.out hb1);clear hb1)
    | (go_at_call 183;refine (HK.out.int _).mono ?_;rintro e w2 ⟨rfl,hb2⟩
       have x2:=hid (x1.out.call hb2);have y2:=hid (a0a y1.out hb2);clear hb2;have d0:=x2.out.cell 0;have d1:=x2.out.cell 1;have d2:=x2.out.cell 2;have e0:=x2.out.free 0;have e1:=x2.out.free 1;have e2:=x2.out.free 2;simp at d0 d1 d2)
    | (go_at_call 184;refine (HK.out.form _).mono ?_;rintro e w3 ⟨rfl,hb3⟩
       have x3:=hid (x2.out.call hb3);have y3:=hid (a0a y2.out hb3);clear hb3 d0 d1 d2 e0 e1 e2;have d0:=x3.out.cell 0;have d1:=x3.out.cell 1;have d2:=x3.out.cell 2;have e0:=x3.out.free 0;have e1:=x3.out.free 1;have e2:=x3.out.free 2;simp at d0 d1 d2)
    | fail)
   first
    | (obtain⟨s1,s2⟩:=c0c x3.out false none none 0 0 0 0
       have f0:=s2.cell 0;have f1:=s2.cell 1;have f2:=s2.cell 2;simp at f0 f1 f2;refine bodyPost_ret (v:=.tuple #[.agg #[.bool false,.slice none 0 0,.slice none 0 0],.int .i64 5]) (by simp[results,Tryz.results117,go_sem,f0,f1,f2]) rfl ⟨rfl,?_⟩;exact ((y3.out.setCell (Nat.le_refl _) _).setCell (Nat.le_refl _) _).setCell (Nat.le_refl _) _)
    | (obtain⟨s1,s2⟩:=c0c x2.out false none none 0 0 0 0
       have f0:=s2.cell 0;have f1:=s2.cell 1;have f2:=s2.cell 2;simp at f0 f1 f2;refine bodyPost_ret (v:=.tuple #[.agg #[.bool false,.slice none 0 0,.slice none 0 0],.int .i64 5]) (by simp[results,Tryz.results117,go_sem,f0,f1,f2]) rfl ⟨rfl,?_⟩;exact ((y2.out.setCell (Nat.le_refl _) _).setCell (Nat.le_refl _) _).setCell (Nat.le_refl _) _)
theorem e0O {s:ByteArray}(h:allDig s.data.toList)(hs:¬ 4000<s.size):(limbs (bN s)).length≤1000000:=by
 refine i0h h ?_;have:s.data.toList.length=s.size:=Array.length_toList;omega
theorem e0y {s:ByteArray}(h:cS s=false):qD s=⟨#[49]⟩:=by simp[qD,h]
theorem c0F {s:ByteArray}(h:cS s=true):qD s=cB s:=by simp[qD,h]
def IsF (w:World)(v:Value)(m:Bool)(n d:Nat):Prop:=∃ N D,v=.agg #[.bool m,N,D]∧IsN .u64 w N n∧IsN .u64 w D d
def RetF (x:Int)(m:Bool)(n d:Nat)(e:Ending)(w':World):Prop:=∃ v,e=.returned (.tuple #[v,.int .i64 x])∧(x=0→IsF w' v m n d)∧(x≠0→v=.agg #[.bool false,.slice none 0 0,.slice none 0 0])
theorem RetF.err {x:Int}{m:Bool}{n d:Nat}{w':World}(h:x≠0):RetF x m n d (.returned (.tuple #[.agg #[.bool false,.slice none 0 0,.slice none 0 0],.int .i64 x])) w':=⟨_,rfl,fun e=>absurd e h,fun _=>rfl⟩
theorem u0C (w:World)(s W B D:ByteArray)(M:Bool)(HL:Hid (Lay w))(HC:Cuts s W B D true M true true)
 (h1:¬ D=⟨#[48]⟩) (h2:¬ B=⟨#[48]⟩) (h3:¬ B=⟨#[49]⟩) (hl1:¬ 4000<D.size) (hl2:¬ 4000<B.size) (hd1:allDig D.data.toList) (hd2:allDig B.data.toList):
 Calls Tryz.prog 117 #[.string s] w fun e w'=>RetF (if Nat.gcd (bN D) (bN B)=1 then 0 else 3) M (bN D) (bN B) e w'∧Below w.heap.size w w':=by
 obtain⟨xc,hxc⟩:∃ x:Int,(if Nat.gcd (bN D) (bN B)=1 then 0 else 3)=x:=⟨_,rfl⟩;rw[hxc];have HXC:=hid hxc;clear hxc;have HK:=hid HC;clear HC;have t0:=hid (Blk.new w #[.bool false,.slice none 0 0,.slice none 0 0] 94);have t1:=hid ((Below.refl w.heap.size w).alloc (Nat.le_refl _) (.cells #[.bool false,.slice none 0 0,.slice none 0 0] 94));have t2:=hid (HL.out.call t1.out);have i1:=a0J (l:=[48]) h1;have i2:=a0J (l:=[48]) h2;have i3:=a0J (l:=[49]) h3;have q0:decide ((4000:Int)<(D.size:Int))=false:=by simp;omega
 have q1:decide ((4000:Int)<(B.size:Int))=false:=by simp;omega
 have L1:=hid (e0O hd1 hl1);have L2:=hid (e0O hd2 hl2);have P1:=fun W=>hid (c0d W D hd1 (by omega))
 have P2:=fun W=>hid (c0d W B hd2 (by omega))
 clear hd1 hd2 h1 h2 h3 hl1 hl2;go_enter Tryz.func117,Tryz.ntmps117;go_wp2_with (first
  | (go_at_call 182;refine (HK.out.cut _ t2.out).mono ?_;rintro e w1 ⟨rfl,hb1⟩
     have x1:=hid (t0.out.call hb1);have y1:=hid (a0a t1.out hb1);clear hb1)
  | (go_at_call 183;refine (HK.out.int _).mono ?_;rintro e w2 ⟨rfl,hb2⟩
     have x2:=hid (x1.out.call hb2);have y2:=hid (a0a y1.out hb2);clear hb2)
  | (go_at_call 184;refine (HK.out.form _).mono ?_;rintro e w3 ⟨rfl,hb3⟩
     have x3:=hid (x2.out.call hb3);have y3:=hid (a0a y2.out hb3);clear hb3)
  | fail)
 refine (P1 _).out.mono ?_;rintro e w4 ⟨⟨v4,rfl,hv4⟩,hb4⟩;have x4:=hid (x3.out.call hb4);have y4:=hid (a0a y3.out hb4);have N4:=hid hv4;clear hb4 hv4;obtain⟨a4,c4,rfl,_⟩:=N4.out.openI;obtain⟨k1,hk1⟩:∃ k,(limbs (dv D.data.toList)).length=k:=⟨_,rfl⟩;rw[hk1]at N4 ⊢;clear P1;go_wp2_with fail;refine (P2 _).out.mono ?_;rintro e w5 ⟨⟨v5,rfl,hv5⟩,hb5⟩;have x5:=hid (x4.out.call hb5);have y5:=hid (a0a y4.out hb5);have N5:=hid (N4.out.call hb5);have D5:=hid hv5;clear hb5 hv5;obtain⟨a5,c5,rfl,_⟩:=D5.out.openI;obtain⟨k2,hk2⟩:∃ k,(limbs (dv B.data.toList)).length=k:=⟨_,rfl⟩;rw[hk2]at D5 ⊢;clear P2;go_wp2_with fail;have z5:=hid (Blk.new w5 #[.bool M,.slice a4 k1 c4,.slice a5 k2 c5] 94);have b5:=hid ((Below.refl w5.heap.size w5).alloc (Nat.le_refl _) (.cells #[.bool M,.slice a4 k1 c4,.slice a5 k2 c5] 94));refine (w0k _ _ _ _ _ (N5.out.call b5.out) (D5.out.call b5.out) L1.out L2.out).mono ?_;rintro e w6 ⟨⟨v6,rfl,hv6⟩,hb6⟩;have z6:=hid (z5.out.call hb6);have x6:=hid ((x5.out.call b5.out).call hb6);have y6:=hid (a0a (a0a y5.out b5.out) hb6);have N6:=hid ((N5.out.call b5.out).call hb6);have D6:=hid ((D5.out.call b5.out).call hb6);have G6:=hid hv6;clear hb6 hv6;obtain⟨a6,c6,rfl,_⟩:=G6.out.openI;go_wp2_with fail;refine (k0A _ _ _ G6.out).mono ?_;rintro e w7 ⟨rfl,rfl⟩;by_cases hG:Nat.gcd (bN D) (bN B)=1
 ·have hO:isO (Nat.gcd (dv D.data.toList) (dv B.data.toList))=true:=d0Y.2 hG;have X0:=hid (show xc=0 from by rw[← HXC.out,if_pos hG]);rw[hO];have d0:=x6.out.cell 0;have d1:=x6.out.cell 1;have d2:=x6.out.cell 2;have e0:=x6.out.free 0;have e1:=x6.out.free 1;have e2:=x6.out.free 2;have g0:=z6.out.cell 0;have g1:=z6.out.cell 1;have g2:=z6.out.cell 2;simp at d0 d1 d2 g0 g1 g2;clear hO;have HG:=hid hG;clear hG;go_wp2_with fail;obtain⟨s1,s2⟩:=c0c x6.out M a4 a5 k1 c4 k2 c5;have f0:=s2.cell 0;have f1:=s2.cell 1;have f2:=s2.cell 2;simp at f0 f1 f2;refine bodyPost_ret (v:=.tuple #[.agg #[.bool M,.slice a4 k1 c4,.slice a5 k2 c5],.int .i64 0]) (by simp[results,Tryz.results117,go_sem,f0,f1,f2]) rfl ⟨by rw[X0.out];exact⟨_,rfl,fun _=>⟨_,_,rfl,s1 _ _ _ N6.out,s1 _ _ _ D6.out⟩,fun h=>absurd rfl h⟩,?_⟩;exact ((y6.out.setCell (Nat.le_refl _) _).setCell (Nat.le_refl _) _).setCell (Nat.le_refl _) _
 ·have hO:isO (Nat.gcd (dv D.data.toList) (dv B.data.toList))=false:=by
   rw[Bool.eq_false_iff];exact fun h=>hG (d0Y.1 h)
  have X0:=hid (show xc=3 from by rw[← HXC.out,if_neg hG]);rw[hO];have d0:=x6.out.cell 0;have d1:=x6.out.cell 1;have d2:=x6.out.cell 2;have e0:=x6.out.free 0;have e1:=x6.out.free 1;have e2:=x6.out.free 2;simp at d0 d1 d2;clear hO;have HG:=hid hG;clear hG;go_wp2_with fail;obtain⟨s1,s2⟩:=c0c x6.out false none none 0 0 0 0;have f0:=s2.cell 0;have f1:=s2.cell 1;have f2:=s2.cell 2;simp at f0 f1 f2;refine bodyPost_ret (v:=.tuple #[.agg #[.bool false,.slice none 0 0,.slice none 0 0],.int .i64 3]) (by simp[results,Tryz.results117,go_sem,f0,f1,f2]) rfl ⟨by rw[X0.out];exact RetF.err (by decide),?_⟩;exact ((y6.out.setCell (Nat.le_refl _) _).setCell (Nat.le_refl _) _).setCell (Nat.le_refl _) _
theorem w0z (w:World)(s W B D:ByteArray)(M fb:Bool)(HL:Hid (Lay w))(HC:Cuts s W B D false M true fb)
 (hl1:¬ 4000<D.size) (hd1:allDig D.data.toList):
 Calls Tryz.prog 117 #[.string s] w fun e w'=>RetF 0 M (bN D) 1 e w'∧Below w.heap.size w w':=by
 have HK:=hid HC;clear HC;have t0:=hid (Blk.new w #[.bool false,.slice none 0 0,.slice none 0 0] 94);have t1:=hid ((Below.refl w.heap.size w).alloc (Nat.le_refl _) (.cells #[.bool false,.slice none 0 0,.slice none 0 0] 94));have t2:=hid (HL.out.call t1.out);have q0:decide ((4000:Int)<(D.size:Int))=false:=by simp;omega
 have P1:=fun W=>hid (c0d W D hd1 (by omega))
 have P2:=fun W=>hid (c0d W ⟨#[49]⟩ (by intro b hb;simp at hb;subst hb;rfl) (Nat.succ_le_succ (Nat.zero_le _)))
 clear hd1 hl1;go_enter Tryz.func117,Tryz.ntmps117;go_wp2_with (first
  | (go_at_call 182;refine (HK.out.cut _ t2.out).mono ?_;rintro e w1 ⟨rfl,hb1⟩
     have x1:=hid (t0.out.call hb1);have y1:=hid (a0a t1.out hb1);clear hb1)
  | (go_at_call 183;refine (HK.out.int _).mono ?_;rintro e w2 ⟨rfl,hb2⟩
     have x2:=hid (x1.out.call hb2);have y2:=hid (a0a y1.out hb2);clear hb2)
  | fail)
 refine (P1 _).out.mono ?_;rintro e w4 ⟨⟨v4,rfl,hv4⟩,hb4⟩;have x4:=hid (x2.out.call hb4);have y4:=hid (a0a y2.out hb4);have N4:=hid hv4;clear hb4 hv4;obtain⟨a4,c4,rfl,_⟩:=N4.out.openI;obtain⟨k1,hk1⟩:∃ k,(limbs (dv D.data.toList)).length=k:=⟨_,rfl⟩;rw[hk1]at N4 ⊢;clear P1;go_wp2_with fail;refine (P2 _).out.mono ?_;rintro e w5 ⟨⟨v5,rfl,hv5⟩,hb5⟩;have x5:=hid (x4.out.call hb5);have y5:=hid (a0a y4.out hb5);have N5:=hid (N4.out.call hb5);have D5:=hid (show IsN .u64 w5 v5 1 from hv5);clear hb5 hv5;obtain⟨a5,c5,rfl,_⟩:=D5.out.openI;obtain⟨k2,hk2⟩:∃ k,(limbs 1).length=k:=⟨_,rfl⟩;rw[hk2]at D5 ⊢;clear P2;have z6:=hid (Blk.new w5 #[.bool M,.slice a4 k1 c4,.slice a5 k2 c5] 94);have b5:=hid ((Below.refl w5.heap.size w5).alloc (Nat.le_refl _) (.cells #[.bool M,.slice a4 k1 c4,.slice a5 k2 c5] 94));have x6:=hid (x5.out.call b5.out);have y6:=hid (a0a y5.out b5.out);have N6:=hid (N5.out.call b5.out);have D6:=hid (D5.out.call b5.out);have d0:=x6.out.cell 0;have d1:=x6.out.cell 1;have d2:=x6.out.cell 2;have e0:=x6.out.free 0;have e1:=x6.out.free 1;have e2:=x6.out.free 2;have g0:=z6.out.cell 0;have g1:=z6.out.cell 1;have g2:=z6.out.cell 2;simp at d0 d1 d2 g0 g1 g2;go_wp2_with fail;obtain⟨s1,s2⟩:=c0c x6.out M a4 a5 k1 c4 k2 c5;have f0:=s2.cell 0;have f1:=s2.cell 1;have f2:=s2.cell 2;simp at f0 f1 f2;refine bodyPost_ret (v:=.tuple #[.agg #[.bool M,.slice a4 k1 c4,.slice a5 k2 c5],.int .i64 0]) (by simp[results,Tryz.results117,go_sem,f0,f1,f2]) rfl ⟨⟨_,rfl,fun _=>⟨_,_,rfl,s1 _ _ _ N6.out,s1 _ _ _ D6.out⟩,fun h=>absurd rfl h⟩,?_⟩;exact ((y6.out.setCell (Nat.le_refl _) _).setCell (Nat.le_refl _) _).setCell (Nat.le_refl _) _
theorem p0v (w:World)(s:ByteArray)(hs:s.size≤1000000)(hL:Lay w):
 Calls Tryz.prog 117 #[.string s] w fun e w'=>RetF (qE s) (iM (cW s)) (bN (iD (cW s))) (bN (qD s)) e w'∧Below w.heap.size w w':=by
 have HC:=p0T s hs;have HL:=hid hL;by_cases hq:qB s=true
 ·have hi:=c0G hq;rw[hi]at HC;have hdD:=g0i (e0a hi);have hcS:cS s=false∨(cS s=true∧¬ iD (cW s)=⟨#[48]⟩∧¬ cB s=⟨#[48]⟩∧¬ cB s=⟨#[49]⟩∧fB (cB s)=true):=by
   have hq':=hq;unfold qB at hq';simp only[Bool.and_eq_true,Bool.or_eq_true,Bool.not_eq_true',decide_eq_true_eq]at hq';rcases hq'.2 with h | h
   ·exact .inl h
   ·cases hc:cS s
    ·exact .inl rfl
    ·exact .inr ⟨rfl,h.1.1.1,h.1.2,h.2,h.1.1.2⟩
  by_cases hl:qL s=true
  ·have e:qE s=5:=by simp[qE,hq,hl]
   rw[e];unfold qL at hl;simp only[Bool.or_eq_true,decide_eq_true_eq]at hl;refine (u0B w s _ _ _ _ _ _ HL HC hcS ?_).mono ?_
   ·by_cases h4:4000<(iD (cW s)).size
    ·exact .inl h4
    ·refine .inr ⟨h4,?_⟩;rcases hcS with hc | ⟨hc,-⟩
     ·rw[e0y hc]at hl;exact absurd (hl.resolve_left h4) (by decide)
     ·rw[c0F hc]at hl;exact⟨hc,hl.resolve_left h4⟩
   ·rintro e w' ⟨rfl,hb⟩;exact⟨RetF.err (by decide),hb⟩
  ·have hl':qL s=false:=by simpa using hl
   have hl1:¬ 4000<(iD (cW s)).size∧¬ 4000<(qD s).size:=by
    unfold qL at hl';simpa using hl'
   rcases hcS with hc | ⟨hc,h1,h2,h3,h4⟩
   ·rw[hc]at HC;have e:qE s=0:=by simp[qE,hq,hl',qG,hc]
    rw[e,e0y hc];exact w0z w s _ _ _ _ _ HL HC hl1.1 hdD
   ·rw[hc,h4]at HC;have hl2:=hl1.2;rw[c0F hc]at hl2;have e:qE s=if Nat.gcd (bN (iD (cW s))) (bN (cB s))=1 then 0 else 3:=by
     simp only[qE,hq,hl',qG,hc,c0F hc];by_cases hg:Nat.gcd (bN (iD (cW s))) (bN (cB s))=1<;>simp[hg]
    rw[e,c0F hc];exact u0C w s _ _ _ _ HL HC h1 h2 h3 hl1.1 hl2 hdD (g0i h4)
 ·have hq':qB s=false:=by simpa using hq
  have e:qE s=3:=by simp[qE,hq']
  rw[e];refine (w0A w s _ _ _ _ _ _ _ HL HC hq').mono ?_;rintro e w' ⟨rfl,hb⟩;exact⟨RetF.err (by decide),hb⟩
theorem RetF.parts {x:Int}{m:Bool}{n d:Nat}{e:Ending}{w':World}(h:RetF x m n d e w'):∃ (b:Bool) (a1 a2:Option Addr) (n1 c1 n2 c2:Nat),e=.returned (.tuple #[.agg #[.bool b,.slice a1 n1 c1,.slice a2 n2 c2],.int .i64 x]):=by
 obtain⟨v,rfl,h1,h2⟩:=h;by_cases hx:x=0
 ·obtain⟨N,D,rfl,hN,hD⟩:=h1 hx;obtain⟨a1,c1,rfl,_⟩:=hN.openI;obtain⟨a2,c2,rfl,_⟩:=hD.openI;exact⟨_,_,_,_,_,_,_,rfl⟩
 ·rw[h2 hx];exact⟨_,_,_,_,_,_,_,rfl⟩
theorem t0T (w:World)(s:ByteArray)(hs:s.size≤1000000)(hL:Lay w):
 Calls Tryz.prog 289 #[.string s] w fun e w'=>e=.returned (.int .i64 (qE s))∧Below w.heap.size w w':=by
 have HC:=hid (p0v w s hs hL);go_enter Tryz.func289,Tryz.ntmps289;go_wp2_with fail;refine HC.out.mono ?_;rintro e w1 ⟨hr,hb⟩;obtain⟨b,a1,a2,n1,c1,n2,c2,rfl⟩:=hr.parts;have HB:=hid hb;clear hr hb;go_wp2_with fail;go_ret
 exact⟨rfl,HB.out.alloc HB.out.size _⟩
def pW (s:ByteArray):ByteArray:=if qE s=0 then cW s else ⟨#[]⟩
def pD (s:ByteArray):ByteArray:=if qE s=0 then qD s else ⟨#[]⟩
theorem o0t (w:World)(s:ByteArray)(hs:s.size≤1000000)(hL:Lay w):
 Calls Tryz.prog 256 #[.string s] w fun e w'=>e=.returned (.tuple #[.string (pW s),.string (pD s),.int .i64 (qE s)])∧Below w.heap.size w w':=by
 have HC:=hid (t0T w s hs hL);have HU:=hid (p0T s hs);have HL:=hid hL;clear hL;by_cases he:qE s=0
 ·have e1:pW s=cW s:=if_pos he;have e2:pD s=qD s:=if_pos he;rw[e1,e2,he];rw[he]at HC;clear e1 e2;obtain⟨W,hW⟩:∃ W,cW s=W:=⟨_,rfl⟩;obtain⟨B,hB⟩:∃ B,cB s=B:=⟨_,rfl⟩;rw[hW,hB]at HU;rw[hW];cases hc:cS s
  ·rw[e0y hc];rw[hc]at HU;clear hW hB hc he;go_enter Tryz.func256,Tryz.ntmps256;go_wp2_with (first
    | (go_at_call 289;refine HC.out.mono ?_;rintro e w1 ⟨rfl,hb1⟩
       have y1:=hid hb1;clear hb1)
    | (go_at_call 182;refine (HU.out.cut _ (HL.out.call y1.out)).mono ?_;rintro e w2 ⟨rfl,hb2⟩
       have y2:=hid (a0a y1.out hb2);clear hb2)
    | fail)
   go_ret3
   exact⟨rfl,y2.out⟩
  ·rw[c0F hc,hB];rw[hc]at HU;clear hW hB hc he;go_enter Tryz.func256,Tryz.ntmps256;go_wp2_with (first
    | (go_at_call 289;refine HC.out.mono ?_;rintro e w1 ⟨rfl,hb1⟩
       have y1:=hid hb1;clear hb1)
    | (go_at_call 182;refine (HU.out.cut _ (HL.out.call y1.out)).mono ?_;rintro e w2 ⟨rfl,hb2⟩
       have y2:=hid (a0a y1.out hb2);clear hb2)
    | fail)
   go_ret3
   exact⟨rfl,y2.out⟩
 ·have e1:pW s=⟨#[]⟩:=if_neg he;have e2:pD s=⟨#[]⟩:=if_neg he;rw[e1,e2];have q0:(qE s != 0)=true:=by simpa using he
  obtain⟨x,hx⟩:∃ x,qE s=x:=⟨_,rfl⟩;rw[hx]at HC q0 ⊢;clear hx he e1 e2;have q1:(x==0)=false:=by simpa using q0
  have q2:¬ x=0:=by simpa using q0
  go_enter Tryz.func256,Tryz.ntmps256;go_wp2_with (first
   | (go_at_call 289;refine HC.out.mono ?_;rintro e w1 ⟨rfl,hb1⟩
      have y1:=hid hb1;clear hb1)
   | fail)
  go_ret3
  exact⟨rfl,y1.out⟩
open Go.Lib (decDigits nDigits)
theorem q0b (w:World)(s:ByteArray)(hs:s.size≤100000000):
 Calls Tryz.prog 303 #[.string s] w fun e w'=>e=.returned (.int .i64 (d0l s))∧Below w.heap.size w w':=by
 have HC:=hid (k0T w s hs);by_cases hb:t0b s=true
 ·have e0:q0h s=0:=if_pos hb;rw[e0]at HC;by_cases hl:256<s.size
  ·have e1:d0l s=4:=by rw[d0l,if_pos hb,if_pos hl]
   have q0:decide ((256:Int)<(s.size:Int))=true:=by simp;omega
   rw[e1];clear hb hl e0 e1;go_enter Tryz.func303,Tryz.ntmps303;go_wp2_with fail;refine HC.out.mono ?_;rintro e w1 ⟨rfl,hb1⟩;go_wp2_with fail;go_ret
   exact⟨rfl,hb1⟩
  ·have e1:d0l s=0:=by rw[d0l,if_pos hb,if_neg hl]
   have q0:decide ((256:Int)<(s.size:Int))=false:=by simp;omega
   rw[e1];clear hb hl e0 e1;go_enter Tryz.func303,Tryz.ntmps303;go_wp2_with fail;refine HC.out.mono ?_;rintro e w1 ⟨rfl,hb1⟩;go_wp2_with fail;go_ret
   exact⟨rfl,hb1⟩
 ·have e0:q0h s=3:=if_neg hb;have e1:d0l s=3:=if_neg hb;rw[e0]at HC;rw[e1];clear hb e0 e1;go_enter Tryz.func303,Tryz.ntmps303;go_wp2_with fail;refine HC.out.mono ?_;rintro e w1 ⟨rfl,hb1⟩;go_wp2_with fail;go_ret
  exact⟨rfl,hb1⟩
theorem q0a (w:World)(s t:ByteArray)(hs:s.size≤1000000)(ht:t.size≤1000000)(hL:Lay w):
 Calls Tryz.prog 315 #[.string s,.string t] w fun e w'=>e=.returned (.string (s0M (· + ·) s t))∧Below w.heap.size w w':=by
 have P:=hid (w0e w s t hs ht hL);go_enter Tryz.func315,Tryz.ntmps315;go_wp2_with fail;refine P.out.mono ?_;rintro e w1 ⟨rfl,hb1⟩;go_wp2_with fail;go_ret
 exact⟨rfl,hb1⟩
theorem p0Z (w:World)(s t:ByteArray)(hs:s.size≤1000000)(ht:t.size≤1000000)(hL:Lay w):
 Calls Tryz.prog 314 #[.string s,.string t] w fun e w'=>e=.returned (.string (s0M (· * ·) s t))∧Below w.heap.size w w':=by
 have P:=hid (w0c w s t hs ht hL);go_enter Tryz.func314,Tryz.ntmps314;go_wp2_with fail;refine P.out.mono ?_;rintro e w1 ⟨rfl,hb1⟩;go_wp2_with fail;go_ret
 exact⟨rfl,hb1⟩
theorem w0s (w:World)(s t:ByteArray)(hs:s.size≤1000000)(ht:t.size≤1000000)(hL:Lay w):
 Calls Tryz.prog 206 #[.string s,.string t] w fun e w'=>e=.returned (.string (s0M (· + ·) s t))∧Below w.heap.size w w':=by
 have P:=hid (w0e w s t hs ht hL);go_enter Tryz.func206,Tryz.ntmps206;go_wp2_with fail;refine P.out.mono ?_;rintro e w1 ⟨rfl,hb1⟩;go_wp2_with fail;go_ret
 exact⟨rfl,hb1⟩
theorem u0v (w:World)(s t:ByteArray)(hs:s.size≤1000000)(ht:t.size≤1000000)(hL:Lay w):
 Calls Tryz.prog 207 #[.string s,.string t] w fun e w'=>e=.returned (.string (s0M (· * ·) s t))∧Below w.heap.size w w':=by
 have P:=hid (w0c w s t hs ht hL);go_enter Tryz.func207,Tryz.ntmps207;go_wp2_with fail;refine P.out.mono ?_;rintro e w1 ⟨rfl,hb1⟩;go_wp2_with fail;go_ret
 exact⟨rfl,hb1⟩
theorem o0u {s W:ByteArray}(h:qE s=0)(hW:cW s=W):∃ h0:0<W.size,((W[0].toNat:Int)==45)=iM W:=by
 subst hW;have h1:=(h0G h).1;have h2:=g0i (e0a (c0G h1));have h3:=(a0T.1 (e0a (c0G h1))).1;obtain⟨l,hl⟩:∃ l,(cW s).data.toList=l:=⟨_,rfl⟩;have e:cW s=⟨⟨l⟩⟩:=by
  apply ByteArray.ext
  rw[← hl]
 rw[e]at h2 h3 ⊢;cases l with
 | nil=>exact absurd rfl h3
 | cons b r=>
  refine⟨Nat.succ_pos _,?_⟩;have e2:(ByteArray.mk ⟨b::r⟩)[0]'(Nat.succ_pos _)=b:=rfl;have e3:iM ⟨⟨b::r⟩⟩=((45:UInt8)==b):=by
   simp[iM,Lib.hasPrefix,List.isPrefixOf]
  rw[e3];show ((((ByteArray.mk ⟨b::r⟩)[0]'(Nat.succ_pos _)).toNat:Int)==45)=_
  rw[e2,Bool.eq_iff_iff,beq_iff_eq,beq_iff_eq]
  constructor
  ·intro h;apply UInt8.toNat_inj.1
   simp;omega
  ·intro h;rw[← h]
   rfl
end Go.Proofs.YtlmnpocifldpmaaGreatDoor
