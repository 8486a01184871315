/- Texts that the proof rests on, merged: QS, Q2, QPlus, Dig, DgT, Dn0, Sv0, R1l, R1m, R2d, R2e, R2f, R2i, R1b, R1d, R1k, Num2, R1n, R1q, R1f, R1g, LimbDiv, Step, R1h. -/
import Derived.Test.YtlimaehdmcnjaaaGreatDoorMg2
import Derived.Laws.IdiomStrings
import Derived.WalkSpells
import Derived.IntWalk
import Derived.Deep.DeepCutAuto
import Derived.Deep.CutBlock
set_option linter.unusedVariables false
set_option linter.unusedSimpArgs false
set_option linter.unusedSectionVars false
set_option maxRecDepth 100000
set_option maxHeartbeats 8000000
namespace Go.Proofs.YtlimaehdmcnjaaaGreatDoor
open Go.RowKit
open Go.Lib (decDigits nDigits)
def o0j (l:List UInt8):Prop:=∀ b∈l,b≠47
theorem l0u:∀ {l:List UInt8},o0j l→Lib.index l [47] = -1
 | [],_=>rfl
 | b::l,h=>by
  have h1:b≠47:=h b (List.mem_cons_self ..);have h2:=l0u (l:=l) (fun x hx=>h x (List.mem_cons_of_mem _ hx));have h3:((47:UInt8)==b)=false:=by rw[beq_eq_false_iff_ne];exact fun e=>h1 e.symm
  simp[Lib.index,List.isPrefixOf,h2,h3]
theorem p0C:∀ {l r:List UInt8},o0j l→Lib.index (l++47::r) [47]=l.length
 | [],r,_=>by simp[Lib.index,List.isPrefixOf]
 | b::l,r,h=>by
  have h1:b≠47:=h b (List.mem_cons_self ..);have h2:=p0C (l:=l) (r:=r) (fun x hx=>h x (List.mem_cons_of_mem _ hx));have h3:((47:UInt8)==b)=false:=by rw[beq_eq_false_iff_ne];exact fun e=>h1 e.symm
  have h4:((l.length:Int) == -1)=false:=by rw[beq_eq_false_iff_ne];omega
  simp only[List.cons_append,Lib.index,List.isPrefixOf,h3,h2,h4,Bool.false_and];simp
theorem g0j {l:List UInt8}(h:o0j l):Lib.cut l [47]=(l,[],false):=by
 unfold Lib.cut;rw[if_neg (by rw[l0u h];decide)]
theorem m0i {l r:List UInt8}(h:o0j l):Lib.cut (l++47::r) [47]=(l,r,true):=by
 unfold Lib.cut;rw[if_pos (by rw[p0C h];omega),p0C h];simp[List.drop_append]
theorem d0Y:∀ s:List UInt8,o0j s∨∃ A B,o0j A∧s=A++47::B
 | []=>.inl (fun b h=>by cases h)
 | b::l=>by
  by_cases hb:b=47
  ·exact .inr ⟨[],l,fun b h=>(by cases h),by rw[hb];rfl⟩
  ·rcases d0Y l with h | ⟨A,B,hA,e⟩
   ·exact .inl (fun x hx=>by
     rcases List.mem_cons.1 hx with rfl | hx
     ·exact hb
     ·exact h x hx)
   ·exact .inr ⟨b::A,B,fun x hx=>(by
     rcases List.mem_cons.1 hx with rfl | hx
     ·exact hb
     ·exact hA x hx),by rw[e];rfl⟩
theorem n0u {l:List UInt8}(h:allDig l):o0j l:=fun b hb e=>by
 have:=a0E.1 (h b hb);rw[e]at this;simp at this
def txB (m:Bool)(n d:Nat):ByteArray:=⟨((if m=true then [45] else [])++(decDigits n++(if d=1 then [] else 47::decDigits d))).toArray⟩
def txQ (q:Rat):ByteArray:=txB (decide (q.num<0)) q.num.natAbs q.den
theorem b0b {a b:ByteArray}(h:a.data.toList=b.data.toList):a=b:=by
 apply ByteArray.ext
 exact Array.toList_inj.1 h
theorem b0w (m:Bool)(n d:Nat):(txB m n d).data.toList=(if m=true then [45] else [])++(decDigits n++(if d=1 then [] else 47::decDigits d)):=by simp[txB]
theorem k0q (m:Bool)(n:Nat):o0j ((if m=true then [45] else [])++decDigits n):=by
 intro b hb;rcases List.mem_append.1 hb with h | h
 ·cases m<;>simp at h
  rw[h];decide
 ·exact n0u (b0g n) b h
theorem m0h (m:Bool)(n d:Nat):Lib.cut (txB m n d).data.toList [47]=((if m=true then [45] else [])++decDigits n,if d=1 then [] else decDigits d,!decide (d=1)):=by
 rw[b0w,← List.append_assoc];by_cases h:d=1
 ·rw[if_pos h,List.append_nil,g0j (k0q m n),if_pos h];simp[h]
 ·rw[if_neg h,m0i (k0q m n),if_neg h];simp[h]
theorem r0B (m:Bool)(n d:Nat):(cW (txB m n d)).data.toList=(if m=true then [45] else [])++decDigits n:=by simp[cW,m0h]
theorem r0D (m:Bool)(n d:Nat):(cB (txB m n d)).data.toList=if d=1 then [] else decDigits d:=by simp[cB,m0h]
theorem r0C (m:Bool)(n d:Nat):cS (txB m n d) = !decide (d=1):=by simp[cS,m0h]
theorem r0a (m:Bool)(n d:Nat):qD (txB m n d)=b0h d:=by
 unfold qD;rw[r0C];by_cases h:d=1
 ·rw[h];rw[if_neg (by simp)];unfold b0h;rw[m0f]
 ·rw[if_pos (by simp[h])];apply b0b
  rw[r0D,if_neg h,a0D]
theorem l0h (n:Nat):List.isPrefixOf [(45:UInt8)] (decDigits n)=false:=by
 cases h:decDigits n with
 | nil=>rfl
 | cons b l=>
  have:=a0E.1 (b0g n b (by rw[h];exact List.mem_cons_self ..));have h3:((45:UInt8)==b)=false:=by
   rw[beq_eq_false_iff_ne];rintro rfl;simp at this
  simp[List.isPrefixOf,h3]
theorem p0F (m:Bool)(n d:Nat):iM (cW (txB m n d))=m:=by
 unfold iM Lib.hasPrefix;rw[r0B];cases m
 ·simpa using l0h n
 ·simp[List.isPrefixOf]
theorem p0G (m:Bool)(n d:Nat):iD (cW (txB m n d))=b0h n:=by
 apply b0b
 have h:=p0F m n d;unfold iM at h;unfold iD Lib.trimPrefix;rw[h,r0B,a0D];cases m<;>simp
theorem j0e (m:Bool)(n d:Nat):bN (iD (cW (txB m n d)))=n:=by rw[p0G,c0q]
theorem j0d (m:Bool)(n d:Nat):bN (qD (txB m n d))=d:=by rw[r0a,c0q]
theorem e0u {a b:Nat}(h:a≠b):b0h a≠b0h b:=fun e=>h (by rw[← c0q a,e,c0q])
theorem d0i:b0h 0=⟨#[48]⟩:=by unfold b0h;rw[c0A]
theorem b0X:b0h 1=⟨#[49]⟩:=by unfold b0h;rw[m0f]
theorem o0s (n:Nat):fB (b0h n)=true:=by unfold fB;rw[a0D];exact g0W n
theorem r0V {m:Bool}{n d:Nat}(hg:Nat.gcd n d=1)(hd:0<d)(hm:m=true→n≠0)(h1:nDigits n≤4000)(h2:nDigits d≤4000):qE (txB m n d)=0:=by
 refine r0W ?_ ?_ ?_
 ·unfold qB iB;rw[p0G,p0F,r0C,o0s];have e1:(m && decide (b0h n=⟨#[48]⟩))=false:=by
   cases m
   ·rfl
   ·rw[← d0i];simpa using e0u (hm rfl)
  rw[e1];by_cases h:d=1
  ·simp[h]
  ·have e2:cB (txB m n d)=b0h d:=by
    apply b0b
    rw[r0D,if_neg h,a0D]
   have hn:n≠0:=fun e=>by rw[e,Nat.gcd_zero_left]at hg;exact h hg
   rw[e2,o0s,← d0i,← b0X];have q1:=e0u hn;have q2:=e0u (show d≠0 by omega);have q3:=e0u h;simp[q1,q2,q3]
 ·unfold qL;rw[p0G,r0a,a0P,a0P];simp;omega
 ·unfold qG;rw[j0e,j0d];simp[hg]
def vQ (s:ByteArray):Rat:=qmk (iM (cW s)) (bN (iD (cW s))) (bN (qD s))
theorem s0i {s:ByteArray}(h:fB s=true)(h0:s≠⟨#[48]⟩):0<bN s:=by
 rcases Nat.eq_zero_or_pos (bN s) with e | e
 ·have:=h0F h;rw[e,d0i]at this;exact absurd this h0
 ·exact e
theorem k0g {s:ByteArray}(h:qE s=0):Nat.gcd (bN (iD (cW s))) (bN (qD s))=1∧0<bN (qD s)∧(iM (cW s)=true→bN (iD (cW s))≠0)∧nDigits (bN (iD (cW s)))≤4000∧nDigits (bN (qD s))≤4000∧s=txB (iM (cW s)) (bN (iD (cW s))) (bN (qD s)):=by
 obtain⟨h1,h2,h3⟩:=p0l h;have hW:=g0c (d0f h1);have hD:=n0k h1;have eW:=h0F hW;have eD:=h0F hD;have hm:iM (cW s)=true→bN (iD (cW s))≠0:=by
  intro hm e;have h4:=d0f h1;unfold iB at h4;rw[e,d0i]at eW;rw[hm,eW]at h4;simp at h4
 unfold qL at h2;simp only[Bool.or_eq_false_iff,decide_eq_false_iff_not]at h2;have l1:nDigits (bN (iD (cW s)))≤4000:=by
  have:=h2.1;rw[eW,a0P]at this;rw[eW,c0q]at *;omega
 have l2:nDigits (bN (qD s))≤4000:=by
  have:=h2.2;rw[eD,a0P]at this;rw[eD,c0q]at *;omega
 have es:(cW s).data.toList=(if iM (cW s)=true then [45] else [])++decDigits (bN (iD (cW s))):=by
  have e:(iD (cW s)).data.toList=decDigits (bN (iD (cW s))):=by rw[eW,c0q,a0D]
  rw[← e];unfold iD Lib.trimPrefix;cases hm2:Lib.hasPrefix (cW s).data.toList [45]
  ·have:iM (cW s)=false:=hm2;rw[this];simp
  ·have:iM (cW s)=true:=hm2;rw[this];have hp:List.isPrefixOf [45] (cW s).data.toList=true:=hm2;obtain⟨t,ht⟩:=List.isPrefixOf_iff_prefix.1 hp;rw[← ht];simp
 refine⟨?_,?_,hm,l1,l2,?_⟩
 ·unfold qG at h3;cases hS:cS s
  ·have:qD s=b0h 1:=by unfold qD;rw[hS,b0X];rfl
   rw[this,c0q,Nat.gcd_one_right]
  ·rw[hS]at h3;simpa using h3
 ·cases hS:cS s
  ·have:qD s=b0h 1:=by unfold qD;rw[hS,b0X];rfl
   rw[this,c0q];omega
  ·unfold qB at h1;rw[hS]at h1;simp only[Bool.and_eq_true,Bool.or_eq_true,Bool.not_true,Bool.false_eq_true,false_or,decide_eq_true_eq]at h1;have:qD s=cB s:=by unfold qD;rw[if_pos hS]
   rw[this];exact s0i h1.2.1.1.2 h1.2.1.2
 ·apply b0b
  rw[b0w];rcases d0Y s.data.toList with h4 | ⟨A,B,hA,e⟩
  ·have hc:=g0j h4;have hS:cS s=false:=by unfold cS;rw[hc]
   have hq:bN (qD s)=1:=by
    have:qD s=b0h 1:=by unfold qD;rw[hS,b0X];rfl
    rw[this,c0q]
   rw[hq,if_pos rfl,List.append_nil];have e1:(cW s).data.toList=s.data.toList:=by unfold cW;rw[hc]
   rw[← es,e1]
  ·have hc:=m0i (r:=B) hA;rw[← e]at hc;have hS:cS s=true:=by unfold cS;rw[hc]
   have hB:qD s=cB s:=by unfold qD;rw[if_pos hS]
   have e1:(cW s).data.toList=A:=by unfold cW;rw[hc]
   have e2:(cB s).data.toList=B:=by unfold cB;rw[hc]
   have e3:B=decDigits (bN (qD s)):=by rw[← e2,← hB,eD,c0q,a0D]
   have hne:bN (qD s)≠1:=by
    intro hb;unfold qB at h1;rw[hS]at h1;simp only[Bool.and_eq_true,Bool.or_eq_true,Bool.not_true,Bool.false_eq_true,false_or,decide_eq_true_eq]at h1;refine h1.2.2 ?_;rw[← hB,eD,hb,b0X]
   rw[if_neg hne,← e3,e,← List.append_assoc,← es,e1]
theorem q0X {m:Bool}{n d:Nat}(hg:Nat.gcd n d=1)(hd:0<d)(hm:m=true→n≠0):decide ((qmk m n d).num<0)=m∧(qmk m n d).num.natAbs=n∧(qmk m n d).den=d:=by
 have e1:=h0x (m:=m) (n:=n) hd;have e2:=k0O (m:=m) (n:=n) hd;rw[hg,Nat.div_one]at e1 e2;refine⟨?_,by rw[e1,b0P],e2⟩;rw[e1];rcases Nat.eq_zero_or_pos n with rfl | hn
 ·cases m
  ·rw[i0k];rfl
  ·exact absurd rfl (hm rfl)
 ·exact k0x hn
theorem h0o {s:ByteArray}(h:qE s=0):decide ((vQ s).num<0)=iM (cW s)∧(vQ s).num.natAbs=bN (iD (cW s))∧(vQ s).den=bN (qD s):=by
 obtain⟨h1,h2,h3,-⟩:=k0g h;exact q0X h1 h2 h3
theorem o0C {s:ByteArray}(h:qE s=0):s=txQ (vQ s):=by
 obtain⟨e1,e2,e3⟩:=h0o h;unfold txQ;rw[e1,e2,e3];exact (k0g h).2.2.2.2.2
def ovQ (q:Rat):Prop:=4000<nDigits q.num.natAbs∨4000<nDigits q.den
instance (q:Rat):Decidable (ovQ q):=by unfold ovQ;infer_instance
theorem k0k {s:ByteArray}(h:qE s=0):¬ ovQ (vQ s):=by
 obtain⟨e1,e2,e3⟩:=h0o h;obtain⟨-,-,-,l1,l2,-⟩:=k0g h;unfold ovQ;rw[e2,e3];omega
theorem s0h (q:Rat):Nat.gcd q.num.natAbs q.den=1:=q.reduced
theorem r0Y (q:Rat):decide (q.num<0)=true→q.num.natAbs≠0:=by
 intro h;have:=of_decide_eq_true h;omega
theorem k0Q {q:Rat}(h:¬ ovQ q):qE (txQ q)=0:=by
 unfold ovQ at h;exact r0V (s0h q) q.den_pos (r0Y q) (by omega) (by omega)
theorem k0j (q:Rat):vQ (txQ q)=q:=by
 unfold vQ txQ;rw[p0F,j0e,j0d,n0i]
def d0A (q:Rat):ByteArray:=if ovQ q then ⟨#[]⟩ else txQ q
def d0g (q:Rat):Int:=if ovQ q then 5 else 0
end Go.Proofs.YtlimaehdmcnjaaaGreatDoor
namespace Go.Proofs.YtlimaehdmcnjaaaGreatDoor
theorem d0H {q:Rat}(h0:q≠0):(decide (q⁻¹.num<0))=decide (q.num<0)∧q⁻¹.num.natAbs=q.den∧q⁻¹.den=q.num.natAbs:=by
 have hn:q.num≠0:=fun e=>h0 (Rat.num_eq_zero.1 e)
 have hd:=q.den_pos;by_cases hneg:q.num<0
 ·have:q⁻¹ = Rat.inv q:=rfl;rw[this];unfold Rat.inv;rw[dif_pos hneg];simp[hneg];omega
 ·have hp:q.num > 0:=by omega
  have:q⁻¹ = Rat.inv q:=rfl;rw[this];unfold Rat.inv;rw[dif_neg hneg,dif_pos hp];simp[hneg]
theorem o0I (p q:Int):sgn (decide (p<0) != decide (q<0)) (p.natAbs*q.natAbs)=p*q:=by
 have hp:=g0s p;have hq:=g0s q;generalize decide (p<0)=m at *
 generalize decide (q<0)=n at *
 generalize p.natAbs=a at *
 generalize q.natAbs=b at *
 subst hp hq;cases m<;>cases n<;>simp[sgn,Int.neg_mul,Int.mul_neg]
theorem h0y (p q:Rat):qmk (decide (p.num<0) != decide (q.num<0)) (p.num.natAbs*q.num.natAbs) (p.den*q.den)=p*q:=by
 unfold qmk;rw[o0I,Rat.mkRat_mul_mkRat _ _ _ _ |>.symm,Rat.mkRat_self,Rat.mkRat_self]
theorem i0m (m:Bool)(n d:Nat):sgn m (n*d)=sgn m n*(d:Int):=by cases m<;>simp[sgn,Int.neg_mul]
theorem k0P (p q:Rat):p+q=mkRat (sgn (decide (p.num<0)) (p.num.natAbs*q.den)+sgn (decide (q.num<0)) (q.num.natAbs*p.den)) (p.den*q.den):=by
 rw[i0m,i0m,g0s,g0s,Rat.add_def',Int.mul_comm q.num]
 try rw[Int.mul_comm q.num]
theorem i0l (m:Bool)(x y:Nat):sgn m x+sgn m y=sgn m (x+y):=by cases m<;>simp[sgn]<;>omega
theorem i0o {m1 m2:Bool}(h:m1≠m2){x y:Nat}(hl:x<y):sgn m1 x+sgn m2 y=sgn m2 (y-x):=by
 cases m1<;>cases m2<;>simp[sgn]at *<;>omega
theorem i0n {m1 m2:Bool}(h:m1≠m2){x y:Nat}(hl:y≤x):sgn m1 x+sgn m2 y=sgn m1 (x-y):=by
 cases m1<;>cases m2<;>simp[sgn]at *<;>omega
open Go.RowKit
open Go.Lib (decDigits nDigits)
theorem j0o (m1 m2:Bool)(x y:Nat):(sgn m1 x+sgn m2 y).natAbs≤x+y:=by
 cases m1<;>cases m2<;>simp[sgn]<;>omega
structure Dig (K:Nat)(q:Rat):Prop where
 n:q.num.natAbs<10 ^ K
 d:q.den<10 ^ K
theorem Dig.up {K L:Nat}{q:Rat}(h:Dig K q)(hl:K≤L):Dig L q:=⟨l0J h.n hl,l0J h.d hl⟩
theorem Dig.fits {K:Nat}{q:Rat}(h:Dig K q)(h0:0<K)(hk:K≤4000):¬ ovQ q:=by
 unfold ovQ;have h1:=a0q h0 h.n;have h2:=a0q h0 h.d;omega
theorem m0e {K:Nat}{z:Int}{d:Nat}(hd:0<d)(h1:z.natAbs<10 ^ K)(h2:d<10 ^ K):Dig K (mkRat z d):=by
 refine⟨?_,?_⟩
 ·rw[Rat.num_mkRat,if_neg (by omega)];exact Nat.lt_of_le_of_lt (Int.natAbs_ediv_le_natAbs _ _) h1
 ·rw[Rat.den_mkRat,if_neg (by omega)];exact Nat.lt_of_le_of_lt (Nat.div_le_self _ _) h2
theorem g0i {K L:Nat}{p q:Rat}(hp:Dig K p)(hq:Dig L q):Dig (K+L) (p*q):=by
 rw[← h0y];unfold qmk;exact m0e (Nat.mul_pos p.den_pos q.den_pos) (by rw[b0P];exact e0J hp.n hq.n) (e0J hp.d hq.d)
theorem e0Q {K L:Nat}{p q:Rat}(hp:Dig K p)(hq:Dig L q):Dig (K+L+1) (p+q):=by
 rw[k0P];refine m0e (Nat.mul_pos p.den_pos q.den_pos) ?_ (l0J (e0J hp.d hq.d) (by omega));refine Nat.lt_of_le_of_lt (j0o _ _ _ _) ?_;have h1:=e0J hp.n hq.d;have h2:=e0J hq.n hp.d;rw[Nat.add_comm L K]at h2;exact p0R h1 h2
theorem g0h {K:Nat}{q:Rat}(h:Dig K q):Dig K (-q):=⟨by rw[Rat.neg_num,Int.natAbs_neg];exact h.n,by rw[Rat.neg_den];exact h.d⟩
theorem c0o {K L:Nat}{p q:Rat}(hp:Dig K p)(hq:Dig L q):Dig (K+L+1) (p-q):=by rw[Rat.sub_eq_add_neg];exact e0Q hp (g0h hq)
theorem e0P {K:Nat}{q:Rat}(h0:q≠0)(h:Dig K q):Dig K q⁻¹ := ⟨by rw[(d0H h0).2.1];exact h.d,by rw[(d0H h0).2.2];exact h.n⟩
theorem m0d:Dig 1 (1:Rat):=⟨by decide,by decide⟩
def t1:ByteArray:=⟨#[49]⟩
theorem e0s {q:Rat}(h:¬ ovQ q):d0A q=txQ q:=if_neg h
theorem g0I {q:Rat}(h:¬ ovQ q):d0g q=0:=if_neg h
theorem b0K {n K:Nat}(h:nDigits n≤K):n<10 ^ K:=Nat.lt_of_lt_of_le (Go.Lib.lt_pow_nDigits n) (Nat.pow_le_pow_right (by omega) h)
theorem i0X {a:ByteArray}{K:Nat}(h:qE a=0)(hs:a.size≤K)(hK:1≤K):Dig K (vQ a):=by
 obtain⟨h1,h2,h3,h4,h5,h6⟩:=k0g h;obtain⟨-,e2,e3⟩:=h0o h;have hl:=b0k a;have ht:a.data.toList=(if iM (cW a)=true then [45] else [])++(decDigits (bN (iD (cW a)))++(if bN (qD a)=1 then [] else 47::decDigits (bN (qD a)))):=by
  conv=>lhs;rw[h6]
  exact b0w _ _ _
 rw[ht]at hl;simp only[List.length_append,Lib.decDigits_length]at hl;refine⟨by rw[e2];exact b0K (by omega),?_⟩;rw[e3];by_cases hd:bN (qD a)=1
 ·rw[hd];exact Nat.lt_of_lt_of_le (show 1<10 ^ 1 by decide) (Nat.pow_le_pow_right (by omega) hK)
 ·rw[if_neg hd]at hl;simp only[List.length_cons,Lib.decDigits_length]at hl;exact b0K (by omega)
structure Dn (D B:Nat)(q:Rat):Prop where
 pos:0<D
 ex:∃ z:Int,q*((D:Nat):Rat)=((z:Int):Rat)∧z.natAbs≤B*D
theorem b0N {D:Nat}(h:0<D):((D:Nat):Rat)≠0:=fun e=>by
 have h2:((D:Nat):Rat)=((0:Nat):Rat):=e;have:=Rat.natCast_inj.1 h2;omega
theorem i0E (D E:Nat):((D*E:Nat):Rat)=(D:Rat)*(E:Rat):=Rat.natCast_mul D E
theorem Dn.rat {D B:Nat}{q:Rat}(h:Dn D B q):∃ z:Int,q=mkRat z D∧z.natAbs≤B*D:=by
 obtain⟨z,h1,h2⟩:=h.ex;refine⟨z,?_,h2⟩;have hD:=b0N h.pos;rw[Rat.mkRat_eq_div]
 grind
theorem Dn.add {D B C:Nat}{p q:Rat}(hp:Dn D B p)(hq:Dn D C q):Dn D (B+C) (p+q):=by
 obtain⟨a,h1,h2⟩:=hp.ex;obtain⟨b,h3,h4⟩:=hq.ex;refine⟨hp.pos,a+b,?_,?_⟩
 ·rw[Rat.add_mul,h1,h3,Rat.intCast_add]
 ·rw[Nat.add_mul];exact Nat.le_trans (Int.natAbs_add_le a b) (Nat.add_le_add h2 h4)
theorem Dn.neg {D B:Nat}{q:Rat}(h:Dn D B q):Dn D B (-q):=by
 obtain⟨a,h1,h2⟩:=h.ex;exact⟨h.pos,-a,by rw[Rat.neg_mul,h1,Rat.intCast_neg],by rw[Int.natAbs_neg];exact h2⟩
theorem Dn.sub {D B C:Nat}{p q:Rat}(hp:Dn D B p)(hq:Dn D C q):Dn D (B+C) (p-q):=by
 rw[Rat.sub_eq_add_neg];exact hp.add hq.neg
theorem Dn.up {D B E:Nat}{q:Rat}(h:Dn D B q)(hE:0<E):Dn (D*E) B q:=by
 obtain⟨a,h1,h2⟩:=h.ex;refine⟨Nat.mul_pos h.pos hE,a*(E:Nat),?_,?_⟩
 ·rw[i0E,Rat.intCast_mul,← h1,Rat.intCast_natCast];grind
 ·rw[Int.natAbs_mul,Int.natAbs_natCast,← Nat.mul_assoc];exact Nat.mul_le_mul_right _ h2
theorem Dn.dvd {D B E:Nat}{q:Rat}(h:Dn D B q)(hE:0<E)(hd:D∣E):Dn E B q:=by
 obtain⟨k,rfl⟩:=hd;exact h.up (Nat.pos_of_mul_pos_left hE)
theorem Dn.upB {D B C:Nat}{q:Rat}(h:Dn D B q)(hC:B≤C):Dn D C q:=by
 obtain⟨a,h1,h2⟩:=h.ex;exact⟨h.pos,a,h1,Nat.le_trans h2 (Nat.mul_le_mul_right _ hC)⟩
theorem Dn.zero {D B:Nat}(h:0<D):Dn D B 0:=⟨h,0,by rw[Rat.zero_mul];rfl,by simp⟩
theorem Dn.over {D B:Nat}{q:Rat}(h:Dn D B q){k:Nat}(hk:0<k):Dn (D*k) B (q / ((k:Nat):Rat)):=by
 obtain⟨a,h1,h2⟩:=h.ex;have hkr:=b0N hk;refine⟨Nat.mul_pos h.pos hk,a,?_,?_⟩
 ·rw[i0E,← h1];grind
 ·rw[← Nat.mul_assoc];exact Nat.le_trans h2 (Nat.le_mul_of_pos_right _ hk)
theorem Dn.dig {D B K:Nat}{q:Rat}(h:Dn D B q)(h1:(B+1)*D<10 ^ K):Dig K q:=by
 obtain⟨z,rfl,hz⟩:=h.rat;rw[Nat.add_mul,Nat.one_mul]at h1;exact m0e h.pos (by omega) (by omega)
theorem Dig.dn {K:Nat}{q:Rat}(h:Dig K q):Dn q.den (10 ^ K) q:=by
 refine⟨q.den_pos,q.num,?_,?_⟩
 ·have h1:=(Rat.mkRat_self q).symm;rw[Rat.mkRat_eq_div]at h1;have h0:=b0N q.den_pos
  grind
 ·exact Nat.le_trans (Nat.le_of_lt h.n) (Nat.le_mul_of_pos_right _ q.den_pos)
theorem Dig.lim {K L:Nat}{q:Rat}(h:Dig K q)(hk:K≤9*L):(limbs q.num.natAbs).length≤L∧(limbs q.den).length≤L:=by
 have hp:10 ^ K≤1000000000 ^ L:=by
  rw[show (1000000000:Nat)=10 ^ 9 from rfl,← Nat.pow_mul];exact Nat.pow_le_pow_right (by omega) hk
 exact⟨a0e.2 (Nat.lt_of_lt_of_le h.n hp),a0e.2 (Nat.lt_of_lt_of_le h.d hp)⟩
def dnP (l:List Rat):Nat:=(l.map fun q=>q.den).prod
theorem g0g (q:Rat)(l:List Rat):dnP (q::l)=q.den*dnP l:=by simp[dnP]
theorem l0Z:∀ l:List Rat,0<dnP l
 | []=>Nat.one_pos
 | q::l=>by rw[g0g];exact Nat.mul_pos q.den_pos (l0Z l)
theorem m0a:∀ {l:List Rat} {q:Rat},q∈l→q.den∣dnP l
 | p::l,q,h=>by
  rw[g0g];rcases List.mem_cons.1 h with rfl | h
  ·exact Nat.dvd_mul_right _ _
  ·exact Nat.dvd_trans (m0a h) (Nat.dvd_mul_left _ _)
theorem o0t {K:Nat}:∀ {l:List Rat},(∀ q∈l,Dig K q)→dnP l≤10 ^ (K*l.length)
 | [],_=>by simp[dnP]
 | q::l,h=>by
  rw[g0g,List.length_cons,Nat.mul_succ,Nat.add_comm,Nat.pow_add];exact Nat.mul_le_mul (Nat.le_of_lt (h q (by simp)).d) (o0t fun p hp=>h p (by simp[hp]))
def h0c:List ByteArray→Int
 | []=>0
 | s::r=>if qE s=0 then h0c r else qE s
def a0O (l:List ByteArray):Int:=if l.length=0 then 3 else if 64<l.length then 4 else h0c l
def btE (l:List ByteArray)(t:ByteArray):Int:=if a0O l=0 then qE t else a0O l
def wrE:List Rat→Int
 | []=>0
 | q::r=>if d0g q=0 then wrE r else d0g q
def wrL (qs:List Rat):List ByteArray:=if wrE qs=0 then qs.map d0A else []
def cnQ (v:List Rat)(t:Rat):List Rat:=v.map fun a=>a+(t-rs v) / ((v.length:Nat):Rat)
def cnE (l:List ByteArray)(t:ByteArray):Int:=if btE l t=0 then wrE (cnQ (l.map vQ) (vQ t)) else btE l t
def cnR (l:List ByteArray)(t:ByteArray):List ByteArray:=if btE l t=0 then wrL (cnQ (l.map vQ) (vQ t)) else []
def smQ (v:List Rat)(t:Rat):List Rat:=smL t v (a0r (fun q=>q) v)
def smE (l:List ByteArray)(t:ByteArray):Int:=if btE l t=0 then (if vQ t<0 then 2 else wrE (smQ (l.map vQ) (vQ t))) else btE l t
def smR (l:List ByteArray)(t:ByteArray):List ByteArray:=if btE l t=0 then (if vQ t<0 then [] else wrL (smQ (l.map vQ) (vQ t))) else []
def mnE (l:List ByteArray):Int:=if a0O l=0 then wrE (mnL (l.map vQ)) else a0O l
def mnR (l:List ByteArray):List ByteArray:=if a0O l=0 then wrL (mnL (l.map vQ)) else []
def rdM (v:List Rat):Nat:=(rs (v.map fpt)).num.natAbs
def b0O:Rat:=((1000000000000:Nat):Rat)
def rdE (l:List ByteArray):Int:=if a0O l=0 then (if (rs (l.map vQ)).den=1 then (if (l.map vQ).any (fun q=>decide (b0O<q∨q < -b0O)) then 2 else 0) else 15) else a0O l
def e0p (l:List ByteArray):List Int:=if rdE l=0 then rdL (l.map vQ) (rdM (l.map vQ)) else []
theorem d0q:∀ {l:List ByteArray},h0c l=0 ↔ ∀ s∈l,qE s=0
 | []=>⟨fun _ s hs=>(by cases hs),fun _=>rfl⟩
 | s::r=>by
  rw[h0c];by_cases h:qE s=0
  ·rw[if_pos h,d0q];exact⟨fun h2 x hx=>(List.mem_cons.1 hx).elim (fun e=>e ▸ h) (h2 x),fun h2 x hx=>h2 x (List.mem_cons_of_mem _ hx)⟩
  ·rw[if_neg h];exact⟨fun h2=>absurd h2 h,fun h2=>absurd (h2 s (by simp)) h⟩
theorem e0M:∀ {l:List ByteArray} {i:Nat} {s:ByteArray},h0c (l.take i)=0→l[i]?=some s→qE s≠0→h0c l=qE s
 | [],i,s,_,hs,_=>by simp at hs
 | x::r,0,s,_,hs,h=>by
  obtain rfl:x=s:=by simpa using hs
  rw[h0c,if_neg h]
 | x::r,i+1,s,ht,hs,h=>by
  rw[List.take_succ_cons,h0c]at ht;by_cases hx:qE x=0
  ·rw[if_pos hx]at ht;rw[h0c,if_pos hx];exact e0M ht (by simpa using hs) h
  ·rw[if_neg hx]at ht;exact absurd ht hx
theorem h0b {l:List ByteArray}{i:Nat}{s:ByteArray}(ht:h0c (l.take i)=0)(hs:l[i]?=some s)(h:qE s=0):h0c (l.take (i+1))=0:=by
 rw[List.take_add_one,hs,d0q];intro x hx;rcases List.mem_append.1 hx with hx | hx
 ·exact d0q.1 ht x hx
 ·simp at hx;subst hx;exact h
theorem f0z:∀ {l:List Rat},wrE l=0 ↔ ∀ q∈l,d0g q=0
 | []=>⟨fun _ s hs=>(by cases hs),fun _=>rfl⟩
 | s::r=>by
  rw[wrE];by_cases h:d0g s=0
  ·rw[if_pos h,f0z];exact⟨fun h2 x hx=>(List.mem_cons.1 hx).elim (fun e=>e ▸ h) (h2 x),fun h2 x hx=>h2 x (List.mem_cons_of_mem _ hx)⟩
  ·rw[if_neg h];exact⟨fun h2=>absurd h2 h,fun h2=>absurd (h2 s (by simp)) h⟩
theorem f0A:∀ {l:List Rat} {i:Nat} {q:Rat},wrE (l.take i)=0→l[i]?=some q→d0g q≠0→wrE l=d0g q
 | [],i,s,_,hs,_=>by simp at hs
 | x::r,0,s,_,hs,h=>by
  obtain rfl:x=s:=by simpa using hs
  rw[wrE,if_neg h]
 | x::r,i+1,s,ht,hs,h=>by
  rw[List.take_succ_cons,wrE]at ht;by_cases hx:d0g x=0
  ·rw[if_pos hx]at ht;rw[wrE,if_pos hx];exact f0A ht (by simpa using hs) h
  ·rw[if_neg hx]at ht;exact absurd ht hx
theorem i0e {l:List Rat}{i:Nat}{q:Rat}(ht:wrE (l.take i)=0)(hs:l[i]?=some q)(h:d0g q=0):wrE (l.take (i+1))=0:=by
 rw[List.take_add_one,hs,f0z];intro x hx;rcases List.mem_append.1 hx with hx | hx
 ·exact f0z.1 ht x hx
 ·simp at hx;subst hx;exact h
theorem c0e {l:List ByteArray}(h:a0O l=0):0<l.length∧l.length≤64∧∀ s∈l,qE s=0:=by
 unfold a0O at h
 split at h
 ·cases h
 ·split at h
  ·cases h
  ·exact⟨by omega,by omega,d0q.1 h⟩
theorem o0B {l:List ByteArray}(h0:0<l.length)(h1:l.length≤64):a0O l=h0c l:=by
 unfold a0O;rw[if_neg (by omega),if_neg (by omega)]
theorem b0H {l:List Rat}{i:Nat}{q:Rat}(h:l[i]?=some q):rs (l.take (i+1))=rs (l.take i)+q:=by
 rw[List.take_add_one,h,a0Y];show _+(q+0)=_
 grind
theorem j0G (n:Nat)(hn:n≤100000000)(W:World):(Instr.makeSlice 136 (.int .i64 (n:Int)) (.int .i64 (n:Int))).run Tryz.prog W=.ok (.slice (some ⟨W.heap.size,0,none⟩) n n) (W.alloc (.cells (madeCells #[.int .u8 0] n) 5)):=
 run_make_row' (P:=Tryz.prog) 136 5 (.int .u8 0) 1 Tryz.underlying136 (by kernel_rfl) rfl .i64 .i64 n (by omega) (by omega) W
theorem f0N (w:World)(v:Value)(h:IsN .i64 w v 0):Calls Tryz.prog 76 #[v] w fun e w'=>e=.returned (m0E 0)∧Below w.heap.size w w':=by
 obtain⟨a,c,rfl,_⟩:=h.openI;have hl:(limbs 0).length=0:=by rw[limbs_zero];rfl
 rw[hl];have e:m0E 0=.string ⟨#[48]⟩:=by rw[m0E,c0A]
 have E:=hid e;clear h hl e;go_enter Tryz.func76,Tryz.ntmps76;go_wp2_with fail;go_ret
 exact⟨by rw[E.out];rfl,Below.refl _ _⟩
theorem g0E (w:World)(v:Value)(n:Nat)(h:IsN .i64 w v n)(h0:0<n)(hl:(limbs n).length≤1000000):Calls Tryz.prog 76 #[v] w fun e w'=>e=.returned (m0E n)∧Below w.heap.size w w':=by
 obtain⟨a,c,rfl,h1,h2,h3⟩:=h.openI;have H3:=hid h3;clear h3 h;obtain⟨L,hL⟩:∃ L,(limbs n).length=L:=⟨_,rfl⟩;have hLp:0<L:=by rw[← hL];exact List.length_pos_iff.2 (fun e=>by have:=a0Q.1 e;omega)
 rw[hL]at h1 hl ⊢;have HL:=hid hL;clear hL;have q0:((L:Int)==0)=false:=by simp;omega
 have hmk:∀ W:World,(Instr.makeSlice 136 (.int .i64 (9*(L:Int))) (.int .i64 (9*(L:Int)))).run Tryz.prog W=.ok (.slice (some ⟨W.heap.size,0,none⟩) (9*L) (9*L)) (W.alloc (.cells (madeCells #[.int .u8 0] (9*L)) 5)):=fun W=>by
  have:=j0G (9*L) (by omega) W;rwa[Int.natCast_mul]at this
 go_enter Tryz.func76,Tryz.ntmps76;go_wp2_with fail;clear hmk q0
 go_loopw [4,5,6] (fun ii nn kk wr=>∃ (i:Nat) (bs:List UInt8),ii=.int .i64 i∧i≤L∧Hid (WrI n i bs)∧Hid (BArr 5 wr w.heap.size bs)∧Hid (Below w.heap.size w wr)) (fun ii _ _ _=>L-(intOf ii).toNat)
 case atStart=>exact⟨0,_,rfl,Nat.zero_le _,WrI.start n,by rw[HL.out];exact BArr.made w 5 (9*L),(Below.refl _ _).alloc (Nat.le_refl _) _⟩
 case round=>
  obtain⟨i,bs,rfl,hi,hW,hO,hB⟩:=hrel;by_cases hlt:i<L
  ·obtain⟨x,hx⟩:∃ x,(limbs n)[L-1-i]?=some x:=⟨_,List.getElem?_eq_getElem (by rw[HL.out];omega)⟩;obtain⟨g,o,rfl,hg,hc⟩:=H3.out _ x hx;have d1:=(hB.out.cell (p:=⟨g,o+(L-1-i),none⟩) hg).trans hc;have hxl:=(a0j n).get hx;have HX:=hid hx;clear hx hc;go_wp2_with fail
   go_loopw [5,6] (fun nn kk wq=>∃ (k y:Nat) (t:Int) (bs:List UInt8),nn=.int .i64 y∧kk=.int .i64 t∧t=(k:Int)-1∧k≤9∧y<1000000000∧Hid (WrJ n i x k y bs)∧Hid (BArr 5 wq w.heap.size bs)∧Hid (Below w.heap.size w wq)) (fun _ kk _=>(intOf kk+1).toNat)
   case atStart=>exact⟨9,x,_,bs,rfl,rfl,by omega,by omega,hxl,hW.out.enter,hO,hB⟩
   case round=>
    obtain⟨k,y,t,bs2,rfl,rfl,ht,hk,hy,hJ,hO2,hB2⟩:=hrel;have hbl:=hid (show bs2.length=9*L from by rw[hJ.out.len,HL.out]);cases k with
    | zero=>
     obtain rfl:t = -1:=by omega
     clear ht;have HN:=hid (hJ.out.leave (by rw[HL.out];exact HX.out) (by rw[HL.out];exact hlt));go_wp2_with fail;go_roundw
     case rel=>exact⟨i+1,bs2,by go_num,by omega,HN,hO2,hB2⟩
     case measure=>simp[intOf]<;>omega
    | succ k=>
     obtain rfl:t=(k:Int):=by omega
     clear ht;have HN:=hid (hJ.out.next (by omega) (by rw[HL.out];exact hlt));obtain⟨z,hz⟩:∃ z,bs2[9*i+k]?=some z:=⟨_,List.getElem?_eq_getElem (by rw[hbl.out];omega)⟩;have d3:=hO2.out.cell hz;have d4:=hO2.out.free (9*i+k);clear hz;go_wp2_with fail;go_roundw
     case rel=>
      refine⟨k,y / 10,_,bs2.set (9*i+k) (UInt8.ofNat (48+y%10)),by go_num,rfl,by omega,by omega,by omega,HN,?_,a0A hB2.out (Nat.le_refl _) _⟩;have hz:(48+(y:Int)%10)=((UInt8.ofNat (48+y%10)).toNat:Int):=by rw[a0S (by omega)];omega
      rw[hz];exact hO2.out.set _ _
     case measure=>simp[intOf]<;>omega
  ·obtain rfl:i=L:=by omega
   obtain⟨hdig,hval⟩:=WrI.done (by have:=hW.out;rw[← HL.out]at this;exact this);have HD:=hid hdig;have HV:=hid hval;have hbl:=hid (show bs.length=9*i from by rw[hW.out.len,HL.out]);clear hdig hval;go_wp2_with fail
   go_loop [3] (fun b=>∃ r:Nat,r+1≤9*i∧b=.slice (some ⟨w.heap.size,r,none⟩) (9*i-r) (9*i-r)∧Hid (dv (bs.drop r)=n)) (fun b=>match b with | .slice _ m _=>m | _=>0)
   case atStart=>exact⟨0,by omega,rfl,by rw[Hid,List.drop_zero];exact HV.out⟩
   case round=>
    obtain⟨r,hr,rfl,hv⟩:=hrel;obtain⟨z,hz⟩:∃ z,bs[r]?=some z:=⟨_,List.getElem?_eq_getElem (by rw[hbl.out];omega)⟩;have d3:=hO.out.cell hz;obtain⟨m,hm⟩:∃ m,m=9*i-r:=⟨_,rfl⟩;rw[← hm];have hm1:1≤m:=by omega
    have hm9:m≤9000000:=by omega
    have HM:=hid hm;by_cases hgo:1<m∧z=48
    ·obtain⟨g1,rfl⟩:=hgo;have q1:decide ((1:Int)<(m:Int))=true:=by simp;omega
     have HN:=hid (h0d hz);clear hz hm;go_wp2_with fail;go_round
     case rel=>exact⟨r+1,by have:=HM.out;omega,by rw[show 9*i-(r+1)=m-1 by have:=HM.out;omega],by rw[Hid,HN.out];exact hv.out⟩
     case measure=>simp;omega
    ·have hfin:=hid (j0l HD.out hv.out (by rw[hbl.out];omega) (by
      rw[hbl.out];by_cases h1:1<m
      ·right
       rw[hz];intro e;injection e with e
       exact hgo ⟨h1,e⟩
      ·left;omega))
     have hcv:(convert 136 9 (.slice (some ⟨w.heap.size,r,none⟩) m m)).run Tryz.prog wr=.ok (m0E n) wr:=by
      have hlen:(bs.drop r).length=m:=by rw[List.length_drop,hbl.out,hm]
      have:=Go.run_convert_bytes_back (P:=Tryz.prog) wr 136 9 5 ⟨w.heap.size,r,none⟩ m (bs.drop r) Tryz.underlying136 Tryz.underlying5 Tryz.underlying9 (fun j hj=>by
       rw[Addr.add_lit];refine hO.out.cell ?_;have h2:r+j<bs.length:=by rw[hlen]at hj;rw[hbl.out];omega
       rw[List.getElem?_eq_getElem h2,List.getElem_drop])
      rw[hlen,hfin.out]at this;exact this
     by_cases h1:1<m
     ·have q1:decide ((1:Int)<(m:Int))=true:=by simp;omega
      have q2:((z.toNat:Int)==48)=false:=by
       rw[beq_eq_false_iff_ne];intro e;refine hgo ⟨h1,?_⟩;have:z.toNat=(48:UInt8).toNat:=by simp;omega
       exact UInt8.toNat_inj.1 this
      clear hz hm hgo h1;go_wp2_with fail;go_ret
      exact⟨rfl,hB.out⟩
     ·obtain rfl:m=1:=by omega
      clear hz hm hgo h1;go_wp2_with fail;go_ret
      exact⟨rfl,hB.out⟩
theorem b0y (w:World)(s:ByteArray)(hs:s.size≤9223372036854775807):Calls Tryz.prog 166 #[.string s] w fun e w'=>e=.returned (.int .i64 (c0m s.data.toList))∧w=w':=by
 have hsl:=hid (show s.data.toList.length=s.size from by simp);by_cases h0:s.size=0
 ·have hnil:s.data.toList = []:=List.eq_nil_of_length_eq_zero (by rw[hsl.out,h0]);obtain rfl:s=⟨#[]⟩:=by
   cases s with
   | mk d=>simp at hnil;rw[hnil]
  clear hsl h0 hnil hs;go_enter Tryz.func166,Tryz.ntmps166;go_wp2_with fail;go_ret
  exact⟨a0G (by rw[e0i];exact fun h=>h.1 rfl),rfl⟩
 ·have hpos:0<s.size:=by omega
  have hne:s.data.toList.isEmpty=false:=by
   rw[List.isEmpty_eq_false_iff];intro e;have:=hsl.out;rw[e]at this;simp at this;omega
  have hn:¬ s.toList = []:=by rw[Go.ByteArray.toList_eq];intro e;rw[e]at hne;cases hne
  have hn2:s.toList.isEmpty=false:=by rw[Go.ByteArray.toList_eq];exact hne
  have hb0:=hid (b0z hpos);clear hne;by_cases hz:s[0]=48∧1<s.size
  ·have q1:((s[0].toNat:Int)==48)=true:=by rw[hz.1];rfl
   have q2:decide ((1:Int)<(s.size:Int))=true:=by simp;omega
   have hbad:=hid (show ¬ b0S s.data.toList from fun h=>by
    rcases h.2.1 with h1 | h1
    ·have:=congrArg List.length h1;rw[hsl.out]at this;simp at this;omega
    ·rw[List.head?_eq_getElem?,hb0.out,hz.1]at h1;exact h1 rfl)
   clear hz;go_enter Tryz.func166,Tryz.ntmps166;go_wp2_with fail;go_ret
   exact⟨a0G (by rw[e0i hbad.out]),rfl⟩
  ·have hform:allDig s.data.toList→b0S s.data.toList:=fun hd=>by
    refine⟨fun e=>by have:=hsl.out;rw[e]at this;simp at this;omega,?_,hd⟩;by_cases h48:s[0]=48
    ·left
     have h1:s.data.toList.length=1:=by
      have:¬ 1<s.size:=fun h=>hz ⟨h48,h⟩
      rw[hsl.out];omega
     match hm:s.data.toList,h1 with
     | [c],_=>
      have:=hb0.out;rw[hm]at this;simp at this;rw[this,h48]
    ·right
     rw[List.head?_eq_getElem?,hb0.out];simpa using h48
   have HF:=hid hform;have hI:(((s[0].toNat:Int)==48)=false∧decide ((1:Int)<(s.size:Int))=decide ((1:Int)<(s.size:Int)))∨(((s[0].toNat:Int)==48)=true∧decide ((1:Int)<(s.size:Int))=false):=by
    by_cases h48:s[0]=48
    ·right
     have:¬ 1<s.size:=fun h=>hz ⟨h48,h⟩
     refine⟨by rw[h48];rfl,by simp;omega⟩
    ·left
     refine⟨?_,rfl⟩;rw[beq_eq_false_iff_ne];intro e;refine h48 ?_;have:s[0].toNat=(48:UInt8).toNat:=by simp;omega
     exact UInt8.toNat_inj.1 this
   clear hform hz;rcases hI with ⟨q1,-⟩ | ⟨q1,q2⟩
   all_goals
    go_enter Tryz.func166,Tryz.ntmps166;go_wp2_with fail;clear q1
    go_loop [3] (fun ii=>∃ i:Nat,ii=.int .i64 i∧i≤s.size∧Hid (∀ (j:Nat) (b:UInt8),j<i→s.data.toList[j]?=some b→e0X b=true)) (fun ii=>s.size-(intOf ii).toNat)
    case atStart=>exact⟨0,rfl,Nat.zero_le _,fun j b hj=>absurd hj (by omega)⟩
    case round=>
     obtain⟨i,rfl,hi,hI⟩:=hrel;by_cases hlt:i<s.size
     ·have hb:=hid (b0z hlt);have hbad:¬ e0X s[i]=true→¬ b0S s.data.toList:=fun h hf=>h (hf.2.2 _ (List.mem_of_getElem? hb.out))
      by_cases c1:s[i].toNat<48
      ·have q1:decide ((s[i].toNat:Int)<48)=true:=by simp;omega
       have hB:=hid (hbad (fun e=>by have:=a0E.1 e;omega));clear hbad c1;go_wp2_with fail;go_ret
       exact⟨a0G (by rw[e0i hB.out]),rfl⟩
      ·by_cases c2:57<s[i].toNat
       ·have q1:decide ((s[i].toNat:Int)<48)=false:=by simp;omega
        have q2:decide ((57:Int)<(s[i].toNat:Int))=true:=by simp;omega
        have hB:=hid (hbad (fun e=>by have:=a0E.1 e;omega));clear hbad c1 c2;go_wp2_with fail;go_ret
        exact⟨a0G (by rw[e0i hB.out]),rfl⟩
       ·have q1:decide ((s[i].toNat:Int)<48)=false:=by simp;omega
        have q2:decide ((57:Int)<(s[i].toNat:Int))=false:=by simp;omega
        have hD:=hid (a0E.2 (show 48≤s[i].toNat∧s[i].toNat≤57 by omega));clear hbad c1 c2;go_wp2_with fail;go_round
        case rel=>exact⟨i+1,by go_num,by omega,fun j b hj hjb=>by
         by_cases e:j=i
         ·subst e;have:=hb.out;rw[hjb]at this;cases this;exact hD.out
         ·exact hI.out j b (by omega) hjb⟩
        case measure=>simp[intOf]<;>omega
     ·obtain rfl:i=s.size:=by omega
      have hF:=hid (HF.out fun b hb=>by
       obtain⟨j,hj⟩:=List.getElem?_of_mem hb;exact hI.out j b (by have:=(List.getElem?_eq_some_iff.1 hj).1;rw[hsl.out]at this;exact this) hj)
      by_cases hlong:4000<s.size
      ·have q3:decide ((4000:Int)<(s.size:Int))=true:=by simp;omega
       have HL:=hid hlong;clear hlong;go_wp2_with fail;go_ret
       exact⟨a0G (by rw[l0W hF.out (by rw[hsl.out];exact HL.out)]),rfl⟩
      ·have q3:decide ((4000:Int)<(s.size:Int))=false:=by simp;omega
       have HL:=hid hlong;clear hlong;go_wp2_with fail;go_ret
       exact⟨a0G (by rw[p0V hF.out (by rw[hsl.out];exact HL.out)]),rfl⟩
end Go.Proofs.YtlimaehdmcnjaaaGreatDoor
namespace Go.Proofs.YtlimaehdmcnjaaaGreatDoor
open Go.RowKit
theorem d0a (w:World)(s:ByteArray)(hs:s.size≤9223372036854775807):Calls Tryz.prog 125 #[.string s] w fun e w'=>
 e=.returned (.bool (c0c s.data.toList))∧w=w':=by
 by_cases hf:c0c s.data.toList=true
 ·by_cases hl:4000<s.data.toList.length
  ·have H5:=hid (show c0m s.data.toList=5 from by rw[c0m,if_pos hf,if_pos hl]);have HF:=hid hf;rw[hf];clear hf hl;go_enter Tryz.func125,Tryz.ntmps125;go_wp2_with fail;refine (b0y _ s hs).mono ?_;rintro e w1 ⟨rfl,rfl⟩;rw[H5.out];go_wp2_with fail;go_ret
   exact⟨rfl,rfl⟩
  ·have H5:=hid (show c0m s.data.toList=0 from by rw[c0m,if_pos hf,if_neg hl]);have HF:=hid hf;rw[hf];clear hf hl;go_enter Tryz.func125,Tryz.ntmps125;go_wp2_with fail;refine (b0y _ s hs).mono ?_;rintro e w1 ⟨rfl,rfl⟩;rw[H5.out];go_wp2_with fail;go_ret
   exact⟨rfl,rfl⟩
 ·have H5:=hid (show c0m s.data.toList=3 from by rw[c0m,if_neg hf]);have hf':c0c s.data.toList=false:=by simpa using hf
  rw[hf'];clear hf hf';go_enter Tryz.func125,Tryz.ntmps125;go_wp2_with fail;refine (b0y _ s hs).mono ?_;rintro e w1 ⟨rfl,rfl⟩;rw[H5.out];go_wp2_with fail;go_ret
  exact⟨rfl,rfl⟩
def f0Z (l:List UInt8)(k:Nat):Prop:=k≤l.length∧(∀ (j:Nat) (b:UInt8),j<k→l[j]?=some b→b≠47)∧(k<l.length→l[k]?=some 47)
theorem n0b (w:World)(s:ByteArray)(hs:s.size≤9223372036854775807):Calls Tryz.prog 123 #[.string s] w fun e w'=>
 (∃ k:Nat,e=.returned (.int .i64 k)∧f0Z s.data.toList k)∧w=w':=by
 have hsl:=hid (show s.data.toList.length=s.size from by simp);go_enter Tryz.func123,Tryz.ntmps123;go_wp2_with fail
 go_loop [3] (fun ii=>∃ i:Nat,ii=.int .i64 i∧i≤s.size∧Hid (∀ (j:Nat) (b:UInt8),j<i→s.data.toList[j]?=some b→b≠47)) (fun ii=>s.size-(intOf ii).toNat)
 case atStart=>exact⟨0,rfl,Nat.zero_le _,fun j b hj=>absurd hj (by omega)⟩
 case round=>
  obtain⟨i,rfl,hi,hI⟩:=hrel;by_cases hlt:i<s.size
  ·have hb:=hid (b0z hlt);by_cases c1:s[i]=47
   ·have q1:((s[i].toNat:Int)==47)=true:=by rw[c1];rfl
    have hB:=hid c1;clear c1;go_wp2_with fail;go_ret
    exact⟨⟨i,rfl,by rw[hsl.out];omega,hI.out,fun _=>by rw[hb.out,hB.out]⟩,rfl⟩
   ·have q1:((s[i].toNat:Int)==47)=false:=by
     rw[beq_eq_false_iff_ne];intro e;refine c1 ?_;have:s[i].toNat=(47:UInt8).toNat:=by simp;omega
     exact UInt8.toNat_inj.1 this
    have hB:=hid c1;clear c1;go_wp2_with fail;go_round
    case rel=>exact⟨i+1,by go_num,by omega,fun j b hj hjb=>by
     by_cases e:j=i
     ·subst e;rw[hb.out]at hjb;cases hjb;exact hB.out
     ·exact hI.out j b (by omega) hjb⟩
    case measure=>simp[intOf]<;>omega
  ·have e1:i=s.size:=by omega
   subst e1;go_wp2_with fail;go_ret
   exact⟨⟨s.size,rfl,by rw[hsl.out];omega,hI.out,fun h=>by rw[hsl.out]at h;omega⟩,rfl⟩
theorem d0T (w:World)(s:ByteArray)(hs:s.size≤9223372036854775807)(h0:0<s.size)(h1:s[0]=45):Calls Tryz.prog 124 #[.string s] w fun e w'=>
 e=.returned (.tuple #[.bool true,.string (s.extract 1 s.size),.bool (c0c (s.extract 1 s.size).data.toList && !decide ((s.extract 1 s.size).data.toList = [48]))])∧w=w':=by
 have q0:decide ((0:Int)<(s.size:Int))=true:=by simp;omega
 have q1:((s[0].toNat:Int)==45)=true:=by rw[h1];rfl
 have H0:=hid h1;clear h1;have hts:(s.extract 1 s.size).size≤9223372036854775807:=by simp;omega
 obtain⟨t,ht⟩:∃ t,s.extract 1 s.size=t:=⟨_,rfl⟩;rw[ht]at hts ⊢;have HT:=hid ht;obtain⟨f,hf⟩:∃ f,c0c t.data.toList=f:=⟨_,rfl⟩;rw[hf];have HF:=hid hf;clear ht hf;go_enter Tryz.func124,Tryz.ntmps124;go_wp2_with fail;rw[HT.out];refine (d0a _ t hts).mono ?_;rintro e w1 ⟨rfl,rfl⟩;rw[HF.out];cases f
 ·go_wp2_with fail;exact bodyPost_ret (v:=.tuple #[.bool true,.string t,.bool false]) (by simp[results,Tryz.results124,go_sem]) rfl ⟨by simp,rfl⟩
 ·go_wp2_with fail;refine bodyPost_ret (v:=.tuple #[.bool true,.string t,.bool (!(t.toList == [48]))]) (by simp[results,Tryz.results124,go_sem]) rfl ⟨?_,rfl⟩;rw[Go.ByteArray.toList_eq];simp;exact Bool.eq_iff_iff.2 (by simp)
theorem d0S (w:World)(s:ByteArray)(hs:s.size≤9223372036854775807)(h1:∀ h:0<s.size,s[0]≠45):Calls Tryz.prog 124 #[.string s] w fun e w'=>
 e=.returned (.tuple #[.bool false,.string s,.bool (c0c s.data.toList)])∧w=w':=by
 obtain⟨f,hf⟩:∃ f,c0c s.data.toList=f:=⟨_,rfl⟩;rw[hf];have HF:=hid hf;clear hf;by_cases h0:0<s.size
 ·have q0:decide ((0:Int)<(s.size:Int))=true:=by simp;omega
  have q1:((s[0].toNat:Int)==45)=false:=by
   rw[beq_eq_false_iff_ne];intro e;refine h1 h0 ?_;have:s[0].toNat=(45:UInt8).toNat:=by simp;omega
   exact UInt8.toNat_inj.1 this
  clear h1;go_enter Tryz.func124,Tryz.ntmps124;go_wp2_with fail;refine (d0a _ s hs).mono ?_;rintro e w1 ⟨rfl,rfl⟩;rw[HF.out];cases f
  all_goals
   go_wp2_with fail;exact bodyPost_ret (v:=.tuple #[.bool false,.string s,.bool _]) (by simp[results,Tryz.results124,go_sem]) rfl ⟨rfl,rfl⟩
 ·obtain rfl:s=⟨#[]⟩:=by
   apply ByteArray.ext
   exact Array.eq_empty_of_size_eq_zero (by have:s.data.size=s.size:=rfl;omega)
  clear h1 h0 hs;go_enter Tryz.func124,Tryz.ntmps124;go_wp2_with fail;refine (d0a _ ⟨#[]⟩ (Nat.zero_le _)).mono ?_;rintro e w1 ⟨rfl,rfl⟩;rw[HF.out];cases f
  all_goals
   go_wp2_with fail;exact bodyPost_ret (v:=.tuple #[.bool false,.string ⟨#[]⟩,.bool _]) (by simp[results,Tryz.results124,go_sem]) rfl ⟨rfl,rfl⟩
open Go.Lib (decDigits nDigits)
theorem i0d {a b:ByteArray}:a.data.toList=b.data.toList↔a=b:=⟨b0b,fun e=>by rw[e]⟩
theorem j0r (w:World)(s:ByteArray)(hs:s.size≤9223372036854775807):Calls Tryz.prog 124 #[.string s] w fun e w'=>
 e=.returned (.tuple #[.bool (iM s),.string (iD s),.bool (iB s)])∧w=w':=by
 have hl:s.data.toList.length=s.size:=by simp
 by_cases h:∃ h0:0<s.size,s[0]=45
 ·obtain⟨h0,h1⟩:=h;have hg:=b0z h0;rw[h1]at hg;obtain⟨t,ht⟩:∃ t,s.data.toList=45::t:=by
   cases hc:s.data.toList with
   | nil=>rw[hc]at hg;simp at hg
   | cons b t=>rw[hc]at hg;simp at hg;exact⟨t,by rw[hg]⟩
  have hM:iM s=true:=by unfold iM Lib.hasPrefix;rw[ht];simp[List.isPrefixOf]
  have hD:iD s=s.extract 1 s.size:=by
   apply b0b
   rw[a0M,ht];unfold iD Lib.trimPrefix;rw[show Lib.hasPrefix s.data.toList [45]=true from hM,ht];have:s.size=t.length+1:=by rw[← hl,ht];simp
   simp[this]
  have H:=d0T w s hs h0 h1;rw[← hD]at H;have e:iB s=(c0c (iD s).data.toList && !decide ((iD s).data.toList = [48])):=by
   unfold iB fB;rw[hM,Bool.true_and];have:decide (iD s=⟨#[48]⟩)=decide ((iD s).data.toList = [48]):=decide_eq_decide.2 (by rw[← i0d]);rw[this]
  rw[hM,e];exact H
 ·have h1:∀ h:0<s.size,s[0]≠45:=fun h0 e=>h ⟨h0,e⟩
  have hM:iM s=false:=by
   unfold iM Lib.hasPrefix;cases hc:s.data.toList with
   | nil=>rfl
   | cons b t=>
    have h0:0<s.size:=by rw[← hl,hc];simp
    have hg:=b0z h0;rw[hc]at hg;simp at hg;have h3:((45:UInt8)==b)=false:=by rw[beq_eq_false_iff_ne,hg];exact fun e=>h1 h0 e.symm
    simp[List.isPrefixOf,h3]
  have hD:iD s=s:=by
   apply b0b
   unfold iD Lib.trimPrefix;rw[show Lib.hasPrefix s.data.toList [45]=false from hM];simp
  have H:=d0S w s hs h1;have e:iB s=c0c s.data.toList:=by unfold iB fB;rw[hM,hD];simp
  rw[hM,hD,e];exact H
theorem g0r {s:ByteArray}{k:Nat}(h:f0Z s.data.toList k):k≤s.size∧cW s=s.extract 0 k∧cS s=decide (k<s.size)∧(k<s.size→cB s=s.extract (k+1) s.size):=by
 obtain⟨h1,h2,h3⟩:=h;have hl:s.data.toList.length=s.size:=by simp
 rcases d0Y s.data.toList with hn | ⟨A,B,hA,e⟩
 ·have hk:k=s.size:=by
   rcases Nat.lt_or_ge k s.data.toList.length with hlt | hge
   ·exact absurd rfl (hn 47 (List.mem_of_getElem? (h3 hlt)))
   ·omega
  have hc:=g0j hn;subst hk;refine⟨Nat.le_refl _,?_,?_,fun h=>absurd h (Nat.lt_irrefl _)⟩
  ·apply b0b;rw[a0M];unfold cW;rw[hc,List.drop_zero,Nat.sub_zero,← hl,List.take_length]
  ·unfold cS;rw[hc];simp
 ·have hL:s.data.toList.length=A.length+1+B.length:=by rw[e];simp;omega
  have hk:k=A.length:=by
   rcases Nat.lt_trichotomy k A.length with hlt | heq | hgt
   ·have:=h3 (by omega);rw[e,List.getElem?_append_left hlt]at this;exact absurd rfl (hA 47 (List.mem_of_getElem? this))
   ·exact heq
   ·exact absurd rfl (h2 A.length 47 hgt (by rw[e];simp))
  have hc:=m0i (r:=B) hA;rw[← e]at hc;subst hk;refine⟨by omega,?_,?_,fun _=>?_⟩
  ·apply b0b;rw[a0M,e];unfold cW;rw[hc];simp
  ·unfold cS;rw[hc];simp;omega
  ·apply b0b;rw[a0M];unfold cB;rw[hc]
   have:s.size-(A.length+1)=B.length:=by omega
   rw[this,e,show A++47::B=(A ++ [47])++B by simp,List.drop_left' (by simp),List.take_length]
end Go.Proofs.YtlimaehdmcnjaaaGreatDoor
namespace Go.Proofs.YtlimaehdmcnjaaaGreatDoor
open Go.RowKit
theorem b0n (w:World)(v u:Value)(a b:Nat)(ha:IsN .i64 w v a)(hb:IsN .i64 w u b):
 Calls Tryz.prog 88 #[v,u] w fun e w'=>e=.returned (.int .i64 (b0e a b))∧Below w.heap.size w w':=by
 obtain⟨a1,c1,rfl,h1,h2,h3⟩:=ha.openI;obtain⟨a2,c2,rfl,k1,k2,k3⟩:=hb.openI;have H3:=hid h3;have K3:=hid k3;clear h3 k3 ha hb;by_cases hne:(limbs a).length=(limbs b).length
 ·obtain⟨n,ea⟩:∃ n,(limbs a).length=n:=⟨_,rfl⟩;have eb:(limbs b).length=n:=hne.symm.trans ea;rw[ea]at h1 ⊢;rw[eb]at k1 ⊢;have HA:=hid ea;have HB:=hid eb;clear hne ea eb;go_enter Tryz.func88,Tryz.ntmps88;go_wp2_with fail
  go_loopw [5] (fun i wr=>∃ (k:Nat) (t:Int),k≤n∧i=.int .i64 t∧t=(k:Int)-1∧Hid ((limbs a).drop k=(limbs b).drop k)∧Hid (Below w.heap.size w wr)) (fun i _=>(intOf i+1).toNat)
  case atStart=>exact⟨n,_,Nat.le_refl _,rfl,rfl,by rw[Hid,List.drop_of_length_le (by rw[HA.out];exact Nat.le_refl _),List.drop_of_length_le (by rw[HB.out];exact Nat.le_refl _)],Below.refl _ _⟩
  case round=>
   obtain⟨k,t,hk,rfl,ht,hd,hB⟩:=hrel;cases k with
   | zero=>
    obtain rfl:t = -1:=by omega
    clear ht;go_wp2_with fail;go_ret
    have:a=b:=d0k hd.out;subst this;exact⟨a0G c0O.symm,hB.out⟩
   | succ k=>
    obtain rfl:t=(k:Int):=by omega
    clear ht;obtain⟨x,hx⟩:∃ x,(limbs a)[k]?=some x:=⟨_,List.getElem?_eq_getElem (by rw[HA.out];omega)⟩;obtain⟨y,hy⟩:∃ y,(limbs b)[k]?=some y:=⟨_,List.getElem?_eq_getElem (by rw[HB.out];omega)⟩;obtain⟨g,o,rfl,hg,hc⟩:=H3.out k x hx;obtain⟨g',o',rfl,hg',hc'⟩:=K3.out k y hy;have d1:=(hB.out.cell (p:=⟨g,o+k,none⟩) hg).trans hc;have d2:=(hB.out.cell (p:=⟨g',o'+k,none⟩) hg').trans hc';have HX:=hid hx;have HY:=hid hy;clear hx hy hc hc';have b1:(0:Int)≤(k:Int):=by omega
    have b2:(k:Int)<(n:Int):=by omega
    rcases Nat.lt_trichotomy x y with hlt | heq | hgt
    ·have q1:decide (x<y)=true:=by simpa using hlt
     go_wp2_with fail;go_quiet (fail)
     go_wp2_with fail;go_ret
     exact⟨a0G (b0t (d0h (HA.out.trans HB.out.symm) HX.out HY.out hd.out hlt)).symm,a0i hB.out _⟩
    ·have q1:decide (x<y)=false:=by simp;omega
     have q2:decide (y<x)=false:=by simp;omega
     go_wp2_with fail;go_quiet (fail)
     go_wp2_with fail;go_quiet (fail)
     go_wp2_with fail;go_roundw
     case rel=>exact⟨k,_,by omega,rfl,rfl,d0O HX.out (by rw[HY.out,heq]) hd.out,a0i hB.out _⟩
     case measure=>simp[intOf]<;>omega
    ·have q1:decide (x<y)=false:=by simp;omega
     have q2:decide (y<x)=true:=by simpa using hgt
     go_wp2_with fail;go_quiet (fail)
     go_wp2_with fail;go_quiet (fail)
     go_wp2_with fail;go_ret
     exact⟨a0G (b0M (d0h (HB.out.trans HA.out.symm) HY.out HX.out hd.out.symm hgt)).symm,a0i (a0i hB.out _) _⟩
 ·rcases Nat.lt_or_gt_of_ne hne with hlt | hgt
  ·have HL:=hid (b0J hlt);have q0:(((limbs a).length:Int) != ((limbs b).length:Int))=true:=by simp;omega
   have q1:decide ((limbs a).length<(limbs b).length)=true:=by simpa using hlt
   clear hne;go_enter Tryz.func88,Tryz.ntmps88;go_wp2_with fail;go_ret
   exact⟨a0G (b0t HL.out).symm,Below.refl _ _⟩
  ·have HL:=hid (b0J hgt);have q0:(((limbs a).length:Int) != ((limbs b).length:Int))=true:=by simp;omega
   have q1:decide ((limbs a).length<(limbs b).length)=false:=by simp;omega
   clear hne;go_enter Tryz.func88,Tryz.ntmps88;go_wp2_with fail;go_ret
   exact⟨a0G (b0M HL.out).symm,Below.refl _ _⟩
theorem c0v (n:Nat)(hn:n≤3000000)(W:World):(Instr.makeSlice 77 (.int .i64 (n:Int)) (.int .i64 (n:Int))).run Tryz.prog W=.ok (.slice (some ⟨W.heap.size,0,none⟩) n n) (W.alloc (.cells (madeCells #[.int .i64 0] n) 3)):=
 run_make_row' (P:=Tryz.prog) 77 3 (.int .i64 0) 8 Tryz.underlying77 (by kernel_rfl) rfl .i64 .i64 n (by omega) (by omega) W
theorem b0i (w:World)(v u:Value)(a b:Nat)(ha:IsN .i64 w v a)(hb:IsN .i64 w u b)(hla:(limbs a).length≤1000000)(hlb:(limbs b).length≤1000000):
 Calls Tryz.prog 110 #[v,u] w fun e w'=>g0l .i64 (a*b) e w'∧Below w.heap.size w w':=by
 obtain⟨a1,c1,rfl,h1,h2,h3⟩:=ha.openI;obtain⟨a2,c2,rfl,k1,k2,k3⟩:=hb.openI;have H3:=hid h3;have K3:=hid k3;clear h3 k3 ha hb;obtain⟨n,ea⟩:∃ n,(limbs a).length=n:=⟨_,rfl⟩;obtain⟨m,eb⟩:∃ m,(limbs b).length=m:=⟨_,rfl⟩;rw[ea]at h1 hla ⊢;rw[eb]at k1 hlb ⊢;have HA:=hid ea;have HB:=hid eb;clear ea eb;have hmk:∀ W:World,(Instr.makeSlice 77 (.int .i64 ((n:Int)+m)) (.int .i64 ((n:Int)+m))).run Tryz.prog W=.ok (.slice (some ⟨W.heap.size,0,none⟩) (n+m) (n+m)) (W.alloc (.cells (madeCells #[.int .i64 0] (n+m)) 3)):=fun W=>by
  have:=c0v (n+m) (by omega) W;rwa[Int.natCast_add]at this
 go_enter Tryz.func110,Tryz.ntmps110;go_wp2_with fail;clear hmk
 go_loopw [6] (fun i wr=>∃ (k:Nat) (o:List Nat),i=.int .i64 k∧k≤n∧Hid (MulI a b k o)∧Hid (Arr .i64 3 wr w.heap.size o)∧Hid (Below w.heap.size w wr)) (fun i _=>n-(intOf i).toNat)
 case atStart=>exact⟨0,_,rfl,Nat.zero_le _,MulI.start a b,by rw[HA.out,HB.out];exact Arr.made w .i64 3 (n+m),(Below.refl _ _).alloc (Nat.le_refl _) _⟩
 case round=>
  obtain⟨i,o,rfl,hin,hM,hO,hB⟩:=hrel;by_cases hlt:i<n
  ·obtain⟨x,hx⟩:∃ x,(limbs a)[i]?=some x:=⟨_,List.getElem?_eq_getElem (by rw[HA.out];exact hlt)⟩;obtain⟨g,og,rfl,hg,hc⟩:=H3.out _ x hx;have HX:=hid hx;have HC:=hid hc;clear hx hc;have hsize:=hid (show o.length=n+m from by rw[hM.out.len,HA.out,HB.out]);go_wp2_with fail;obtain⟨wo,rfl⟩:∃ wo:World,wo=wr:=⟨_,rfl⟩
   go_loopw [7,8,9] (fun cc kk nn wq=>∃ (c k:Nat) (o:List Nat),cc=.int .i64 c∧kk=.int .i64 k∧k≤m∧Hid (MulJ a b i x k c o)∧Hid (Arr .i64 3 wq w.heap.size o)∧Hid (Below w.heap.size w wq)) (fun _ kk _ _=>m-(intOf kk).toNat)
   case atStart=>exact⟨0,0,o,rfl,rfl,Nat.zero_le _,hM.out.enter,hO,hB⟩
   case round=>
    obtain⟨c,k,o,rfl,rfl,hkm,hJ,hO,hB⟩:=hrel;have hsz:Hid (o.length=n+m):=by rw[Hid,hJ.out.len,HA.out,HB.out]
    by_cases hkl:k<m
    ·obtain⟨y,hy⟩:∃ y,(limbs b)[k]?=some y:=⟨_,List.getElem?_eq_getElem (by rw[HB.out];exact hkl)⟩;obtain⟨g',og',rfl,hg',hd⟩:=K3.out _ y hy;obtain⟨old,ho⟩:∃ old,o[i+k]?=some old:=⟨_,List.getElem?_eq_getElem (by rw[hsz.out];omega)⟩;have d1:=(hB.out.cell (p:=⟨g,og+i,none⟩) hg).trans HC.out;have d2:=(hB.out.cell (p:=⟨g',og'+k,none⟩) hg').trans hd;have d3:=hO.out.cell ho;have d4:=hO.out.free (i+k);have hb1:=c0h (hJ.out.sm.get ho) ((a0j a).get HX.out) ((a0j b).get hy) hJ.out.c1;have HN:=hid (hJ.out.next HX.out hy ho);have hol:=hJ.out.sm.get ho;have hcl:=hJ.out.c1;have HP:=hid (show ((x:Int)*(y:Int))=((x*y:Nat):Int) from (Int.natCast_mul x y).symm);obtain⟨p,hp⟩:∃ p,x*y=p:=⟨_,rfl⟩;rw[hp]at hb1 HN HP;have hp2:=hb1.2;have hb1:=hb1.1;clear hd hy ho hp;have e1:(0:Int)≤(i:Int)+k:=by omega
     have e2:(i:Int)+k<(n:Int)+m:=by omega
     have f1:(0:Int)≤(i:Int):=by omega
     have f2:(i:Int)<(n:Int):=by omega
     have f3:(0:Int)≤(k:Int):=by omega
     have f4:(k:Int)<(m:Int):=by omega
     have e3:IntKind.i64.wrap ((i:Int)+k)=(i:Int)+k:=IntWalk.i64_in _ (by omega);have e4:((i:Int)+k).toNat=i+k:=by omega
     have e5:IntKind.i64.wrap ((x:Int)*(y:Int))=(p:Int):=by rw[HP.out];exact IntWalk.i64_in _ (by omega)
     have e6:IntKind.i64.wrap ((old:Int)+(p:Int))=(old:Int)+(p:Int):=IntWalk.i64_in _ (by omega);have e7:IntKind.i64.wrap ((old:Int)+(p:Int)+(c:Int))=(old:Int)+(p:Int)+(c:Int):=IntWalk.i64_in _ (by omega);go_wp2_with fail;go_quiet (fail)
     clear e3 e4 e5 e6 e7;go_wp2_with fail;go_roundw
     case rel=>
      have hz:(((old:Int)+p+c)%1000000000)=(((old+p+c)%1000000000:Nat):Int):=by omega
      rw[hz];exact⟨(old+p+c) / 1000000000,k+1,_,by go_num,by go_num,by omega,HN,(hO.out.drewN _).set (i+k) _,a0A (a0i hB.out _) (Nat.le_refl _) _⟩
     case measure=>simp[intOf]<;>omega
    ·obtain rfl:k=m:=by omega
     have HJ:=hid (show MulI a b (i+1) (o.set (i+k) c) from by have:=hJ.out;rw[← HB.out]at this ⊢;exact this.leave HX.out);obtain⟨z,hz⟩:∃ z,o[i+k]?=some z:=⟨_,List.getElem?_eq_getElem (by rw[hsz.out];omega)⟩;have d3:=hO.out.cell hz;have d4:=hO.out.free (i+k);clear hz;go_wp2_with fail;go_roundw
     case rel=>exact⟨i+1,_,by go_num,by omega,HJ,hO.out.set (i+k) c,a0A hB.out (Nat.le_refl _) _⟩
     case measure=>simp[intOf]<;>omega
  ·obtain rfl:i=n:=by omega
   have hv:=hid (show val o=a*b from MulI.done (by have:=hM.out;rw[← HA.out]at this;exact this));have hl:=hid (show o.length=i+m from by rw[hM.out.len,HA.out,HB.out])
   have hr:=hid (show Row wr (.slice (some ⟨w.heap.size,0,none⟩) (i+m) (i+m)) (ints .i64 o) from by
    have:=hO.out.row (n:=i+m) (c:=i+m) (by rw[hl.out];exact Nat.le_refl _) (Nat.le_refl _) (by unfold maxLen;omega);rwa[List.take_of_length_le (by rw[hl.out];exact Nat.le_refl _)]at this)
   go_wp2_with (go_at_call 122;refine (h0v _ _ o hM.out.sm hr.out).mono ?_;rintro e w1 ⟨⟨v1,rfl,hv1⟩,rfl⟩)
   go_ret
   exact⟨⟨v1,rfl,by rw[← hv.out];exact hv1⟩,hB.out⟩
theorem d0d (w:World)(s:ByteArray)(hd:allDig s.data.toList)(hs:s.size≤1000000):
 Calls Tryz.prog 73 #[.string s] w fun e w'=>RetFr w.heap.size .i64 (dv s.data.toList) e w'∧Below w.heap.size w w':=by
 obtain⟨i0,hi,hz0,hz1,hz2⟩:=info_parts e0e;have HD:=hid hd;clear hd;have hsl:=hid (show s.data.toList.length=s.size from by simp);go_enter Tryz.func73,Tryz.ntmps73;go_wp2_with fail
 go_loopw [3,4,5,6] (fun o ee nn ii wr=>∃ (l:List Nat) (t:Int) (e:Nat),ee=.int .i64 t∧t≤s.size ∧ -9<t∧e=t.toNat∧l.length≤s.size∧l.length+e≤s.size∧Hid (ReadI s.data.toList e l)∧Hid (wr.ownsRow w.heap.size 3 1 o l.length (ints .i64 l))∧Hid (Below w.heap.size w wr))
  (fun _ ee _ _ _=>(intOf ee).toNat)
 case atStart=>exact⟨[],_,s.size,rfl,by omega,by omega,by simp,by simp,by simp,by have:=ReadI.start s.data.toList;rw[hsl.out]at this;exact this,World.ownsRow_nil _ _ _ _,Below.refl _ _⟩
 case round=>
  obtain⟨l,t,e,rfl,ht1,ht2,he,hl1,hl2,hR,hO,hB⟩:=hrel;obtain⟨ao,co,rfl⟩:=a0t hO.out;by_cases h0:e=0
  ·have q0:decide ((0:Int)<t)=false:=by simp;omega
   subst h0;have hv:=hid hR.out.done;clear he;go_wp2_with fail;refine (b0R _ _ _ l hR.out.sm (Row.of_owns hO.out)).mono ?_;rintro e w1 ⟨⟨m,rfl,hv1⟩,rfl⟩;go_wp2_with fail;go_ret
   refine⟨⟨_,rfl,by rw[← hv.out];exact hv1,fun g hg=>(hO.out.lt g ?_).1⟩,hB.out⟩;cases ao with
   | none=>simp[Value.ownBlock]at hg
   | some ad=>simpa[Value.ownBlock]using hg
  ·obtain rfl:t=(e:Int):=by omega
   clear he;have q0:decide ((0:Int)<(e:Int))=true:=by simp;omega
   obtain⟨L,hL⟩:∃ L,s.data.toList=L:=⟨_,rfl⟩;obtain⟨s0,hs0⟩:∃ s0,s0=e-9:=⟨_,rfl⟩;have HS0:=hid hs0;have h3:s0≤e:=by omega
   have h4:e≤s0+9:=by omega
   have hI:(9<e∧(e:Int)-9=(s0:Int))∨(e≤9∧(0:Int)=(s0:Int)):=by omega
   clear hs0;rcases hI with ⟨h9,hse⟩ | ⟨h9,hse⟩
   all_goals
    have HSE:=hid hse;clear hse;go_wp2_with fail
    go_loop [5,6] (fun nn ii=>∃ (i x:Nat),ii=.int .i64 i∧nn=.int .i64 x∧s0≤i∧i≤e∧x<1000000000∧Hid (x=dv ((L.drop s0).take (i-s0)))) (fun _ ii=>e-(intOf ii).toNat)
    case atStart=>exact⟨s0,0,by have hh:=HSE.out;first | (rw[← hh];done) | (congr 1;omega),rfl,Nat.le_refl _,h3,by omega,by simp[Hid]⟩
    case round=>
     obtain⟨i,x,rfl,rfl,hi1,hi2,hx,hxd⟩:=hrel;by_cases hlt:i<e
     ·have hsz:i<s.size:=by omega
      have hb:=b0z hsz;rw[hL]at hb;have hdig:=a0E.1 (HD.out s[i] (List.mem_of_getElem? (by rw[hL];exact hb)));have hd1:=hdig.1;have hd2:=hdig.2;have hcs:=hid (j0V hb hi1);have hlt9:=hid (j0a (L:=L) (a:=s0) (k:=i+1-s0) (by rw[← hL];exact HD.out) (by omega));clear hb hdig;go_wp2_with fail;go_round
      case rel=>
       refine⟨i+1,10*x+(s[i].toNat-48),by go_num,?_,by omega,by omega,?_,?_⟩
       ·congr 1;omega
       ·have:=hlt9.out;rw[hcs.out,← hxd.out]at this;exact this
       ·rw[Hid,hcs.out,← hxd.out]
      case measure=>simp[intOf]<;>omega
     ·obtain rfl:i=e:=by omega
      have HN:=hid (hR.out.next HD.out);rw[hL,← HS0.out,← hxd.out]at HN;go_wp2_with (at_builtin;refine wpList_append_own _ rfl _ _ 77 rfl w.heap.size 3 i0 (.int .i64 0) 1 8 Tryz.underlying77 hi hz0 hz1 hz2 rfl (by decide) _ l.length _ rfl (hO.out.alloc _) ⟨wr.heap.size,0,none⟩ 1 1 [.int .i64 (x:Int)] rfl rfl (cell_one_new wr (.int .i64 (x:Int)) 3) (by simp[Value.oneCell']) (by unfold maxLen;omega) (by omega) (by have:=hB.out.size;simp;omega) ?_;intro v' w3 hown3 hgrow3 _;have HO3:=hid hown3;have HG3:=hid hgrow3;clear hown3 hgrow3)
      obtain⟨n1,n2⟩:=a0y hO.out hB.out HO3.out HG3.out;have N1:=hid n1;have N2:=hid n2;clear n1 n2 HO3 HG3;obtain⟨a3,k3,rfl⟩:=a0t N1.out;have hS:=HS0.out;go_wp2_with fail;go_roundw
      case rel=>exact⟨l ++ [x],_,s0,rfl,by omega,by omega,by omega,by simp<;>omega,by simp<;>omega,by rw[hL];exact HN,N1,N2⟩
      case measure=>simp[intOf]<;>omega
theorem p0i (w:World)(s:ByteArray)(hd:allDig s.data.toList)(hs:s.size≤1000000):
 Calls Tryz.prog 73 #[.string s] w fun e w'=>g0l .i64 (dv s.data.toList) e w'∧Below w.heap.size w w':=(d0d w s hd hs).mono fun e w' h=>⟨h.1.ret,h.2⟩
open Go.Lib (decDigits nDigits)
theorem c0j {n K:Nat}(h:nDigits n≤9*K):(limbs n).length≤K:=by
 refine a0e.2 ?_;have h1:=Go.Lib.lt_pow_nDigits n;have h2:10 ^ nDigits n≤10 ^ (9*K):=Nat.pow_le_pow_right (by omega) h;rw[Nat.pow_mul]at h2;exact Nat.lt_of_lt_of_le h1 h2
theorem b0E {a b p q:Nat}(ha:(limbs a).length≤p)(hb:(limbs b).length≤q):(limbs (a*b)).length≤p+q:=by
 refine a0e.2 ?_;have h1:=a0e.1 ha;have h2:=a0e.1 hb;rw[Nat.pow_add];exact Nat.mul_lt_mul'' h1 h2
theorem a0V (w:World)(v:Value)(n:Nat)(h:IsN .i64 w v n)(hl:(limbs n).length≤1000000):Calls Tryz.prog 76 #[v] w fun e w'=>e=.returned (m0E n)∧Below w.heap.size w w':=by
 rcases Nat.eq_zero_or_pos n with rfl | h0
 ·exact f0N w v h
 ·exact g0E w v n h h0 hl
theorem e0L {s:ByteArray}(h:c0m s.data.toList=0):∃ a,s=b0h a∧nDigits a≤4000:=by
 obtain⟨a,e,h2⟩:=h0a.1 h;refine⟨a,?_,h2⟩;cases s with
 | mk d=>
  have:d=(decDigits a).toArray:=by rw[← e]
  rw[this];rfl
theorem c0J (w:World)(a:Nat)(h:nDigits a≤9000):Calls Tryz.prog 73 #[.string (b0h a)] w fun e w'=>g0l .i64 a e w'∧Below w.heap.size w w':=by
 have:=p0i w (b0h a) (by rw[a0D];exact b0g a) (by rw[a0P];omega);rwa[a0D,b0G]at this
theorem h0T (w:World):IsN .i64 (w.alloc (.cells #[.int .i64 1] 3)) (.slice (some ⟨w.heap.size,0,none⟩) 1 1) 1:=by
 unfold IsN;rw[e0y];exact Row.of_blk (b:=w.heap.size) (n:=1) (c:=1) (cs:=#[.int .i64 1]) (Blk.new w _ _) rfl (by unfold maxLen;omega) (fun i x hx=>by simpa[ints]using hx) (Nat.le_refl _) (by unfold maxLen;omega)
end Go.Proofs.YtlimaehdmcnjaaaGreatDoor
namespace Go.Proofs.YtlimaehdmcnjaaaGreatDoor
open Go.RowKit
def s0o (k:IntKind)(n m:Nat)(e:Ending)(w':World):Prop:=∃ v,e=.returned (.tuple #[v,.int k (m:Int)])∧IsN k w' v n
def s0p (B:Nat)(k:IntKind)(n m:Nat)(e:Ending)(w':World):Prop:=∃ v,e=.returned (.tuple #[v,.int k (m:Int)])∧IsN k w' v n∧∀ g,v.ownBlock=some g→B≤g
theorem g0B (w:World)(a:Option Addr)(n c:Nat)(l:List Nat)(hn:l.length=n)(hs:Sm l)(h:Row w (.slice a n c) (ints .i64 l)):
 Calls Tryz.prog 122 #[.slice a n c] w fun e w'=>q0t .i64 a c (val l) e w'∧w=w':=by
 subst hn;exact b0R w a c l hs h
theorem g0C (w:World)(v:Value)(a d:Nat)(ha:IsN .i64 w v a)(hd0:0<d)(hd1:d<1000000000)(hla:(limbs a).length≤1000000):
 Calls Tryz.prog 151 #[v,.int .i64 d] w fun e w'=>s0p w.heap.size .i64 (a / d) (a%d) e w'∧Below w.heap.size w w':=by
 obtain⟨a1,c1,rfl,h1,h2,h3⟩:=ha.openI;have H3:=hid h3;clear h3 ha;obtain⟨n,ea⟩:∃ n,(limbs a).length=n:=⟨_,rfl⟩;rw[ea]at h1 hla ⊢;have HA:=hid ea;clear ea;have hmk:=fun W=>c0v n (by omega) W
 have hdz:((d:Int)==0)=false:=by simp;omega
 go_enter Tryz.func151,Tryz.ntmps151;go_wp2_with fail;clear hmk
 go_loopw [7,8,9] (fun rr ii nn wr=>∃ (j r:Nat) (t:Int) (o:List Nat),rr=.int .i64 r∧ii=.int .i64 t∧t=(j:Int)-1∧j≤n∧Hid (SmallI a d j r o)∧Hid (Arr .i64 3 wr w.heap.size o)∧Hid (Below w.heap.size w wr)) (fun _ ii _ _=>(intOf ii+1).toNat)
 case atStart=>exact⟨n,0,_,_,rfl,rfl,rfl,Nat.le_refl _,by have:=SmallI.start (a:=a) hd0;rw[HA.out]at this;exact this,Arr.made w .i64 3 n,(Below.refl _ _).alloc (Nat.le_refl _) _⟩
 case round=>
  obtain⟨j,r,t,o,rfl,rfl,ht,hj,hS,hO,hB⟩:=hrel;have hsz:Hid (o.length=n):=by rw[Hid,hS.out.len,HA.out]
  cases j with
  | zero=>
   obtain rfl:t = -1:=by omega
   clear ht;have hv:=hid hS.out.done
   have hr:=hid (show Row wr (.slice (some ⟨w.heap.size,0,none⟩) n n) (ints .i64 o) from by
    have:=hO.out.row (n:=n) (c:=n) (by rw[hsz.out];exact Nat.le_refl _) (Nat.le_refl _) (by unfold maxLen;omega);rwa[List.take_of_length_le (by rw[hsz.out];exact Nat.le_refl _)]at this)
   go_wp2_with (go_at_call 122;refine (g0B _ _ _ _ o hsz.out hS.out.sm hr.out).mono ?_;rintro e w1 ⟨⟨m1,rfl,hv1⟩,rfl⟩)
   go_ret2
   exact⟨⟨_,o0X (by rw[hv.out.2]),by rw[← hv.out.1];exact hv1,fun g e=>by simp[Value.ownBlock]at e;omega⟩,hB.out⟩
  | succ j=>
   obtain rfl:t=(j:Int):=by omega
   clear ht;obtain⟨x,hx⟩:∃ x,(limbs a)[j]?=some x:=⟨_,List.getElem?_eq_getElem (by rw[HA.out];omega)⟩;obtain⟨g,og,rfl,hg,hc⟩:=H3.out _ x hx;have d1:=(hB.out.cell (p:=⟨g,og+j,none⟩) hg).trans hc;obtain⟨z,hz⟩:∃ z,o[j]?=some z:=⟨_,List.getElem?_eq_getElem (by rw[hsz.out];omega)⟩;have d3:=hO.out.cell hz;have d4:=hO.out.free j;have HN:=hid (hS.out.next hx);have hxl:=(a0j a).get hx;have hrl:=hS.out.rd;clear hx hc hz;go_wp2_with fail;go_roundw
   case rel=>
    have e1:(((r:Int)*1000000000+x) / d)=(((r*1000000000+x) / d:Nat):Int):=by rw[Int.natCast_ediv];rfl
    have e2:(((r:Int)*1000000000+x)%d)=(((r*1000000000+x)%d:Nat):Int):=by rw[Int.natCast_emod];rfl
    rw[e1];exact⟨j,_,_,_,by rw[e2],rfl,by omega,by omega,HN,hO.out.set j _,a0A hB.out (Nat.le_refl _) _⟩
   case measure=>simp[intOf]<;>omega
theorem n0g (w:World)(v:Value)(a d:Nat)(ha:IsN .i64 w v a)(hd0:0<d)(hd1:d<1000000000)(hla:(limbs a).length≤1000000):
 Calls Tryz.prog 151 #[v,.int .i64 d] w fun e w'=>s0o .i64 (a / d) (a%d) e w'∧Below w.heap.size w w':=
 (g0C w v a d ha hd0 hd1 hla).mono fun _ _ h=>by
  obtain⟨⟨v,h1,h2,-⟩,h3⟩:=h;exact⟨⟨v,h1,h2⟩,h3⟩
def r0H (k:IntKind)(t:TypeId)(B n len:Nat)(e:Ending)(w':World):Prop:=∃ g o,e=.returned (.slice (some ⟨g,0,none⟩) len len)∧B≤g∧Arr k t w' g o∧o.length=len∧Sm o∧val o=n
theorem g0D (w:World)(v:Value)(a d:Nat)(ha:IsN .i64 w v a)(hd1:d<1000000000)(hla:(limbs a).length≤1000000):
 Calls Tryz.prog 152 #[v,.int .i64 d] w fun e w'=>r0H .i64 3 w.heap.size (a*d) ((limbs a).length+1) e w'∧Below w.heap.size w w':=by
 obtain⟨a1,c1,rfl,h1,h2,h3⟩:=ha.openI;have H3:=hid h3;clear h3 ha;obtain⟨n,ea⟩:∃ n,(limbs a).length=n:=⟨_,rfl⟩;rw[ea]at h1 hla ⊢;have HA:=hid ea;clear ea;have hmk:∀ W:World,(Instr.makeSlice 77 (.int .i64 ((n:Int)+1)) (.int .i64 ((n:Int)+1))).run Tryz.prog W=.ok (.slice (some ⟨W.heap.size,0,none⟩) (n+1) (n+1)) (W.alloc (.cells (madeCells #[.int .i64 0] (n+1)) 3)):=fun W=>by
  have:=c0v (n+1) (by omega) W;rwa[Int.natCast_add]at this
 go_enter Tryz.func152,Tryz.ntmps152;go_wp2_with fail;clear hmk
 go_loopw [6,7,8] (fun cc ii nn wr=>∃ (i c:Nat) (o:List Nat),cc=.int .i64 c∧ii=.int .i64 i∧i≤n∧Hid (ScaleI a d i c o)∧Hid (Arr .i64 3 wr w.heap.size o)∧Hid (Below w.heap.size w wr)) (fun _ ii _ _=>n-(intOf ii).toNat)
 case atStart=>exact⟨0,0,_,rfl,rfl,Nat.zero_le _,ScaleI.start a d,by rw[HA.out];exact Arr.made w .i64 3 (n+1),(Below.refl _ _).alloc (Nat.le_refl _) _⟩
 case round=>
  obtain⟨i,c,o,rfl,rfl,hin,hS,hO,hB⟩:=hrel;have hsz:Hid (o.length=n+1):=by rw[Hid,hS.out.len,HA.out]
  by_cases hlt:i<n
  ·obtain⟨x,hx⟩:∃ x,(limbs a)[i]?=some x:=⟨_,List.getElem?_eq_getElem (by rw[HA.out];exact hlt)⟩;obtain⟨g,og,rfl,hg,hc⟩:=H3.out _ x hx;have d1:=(hB.out.cell (p:=⟨g,og+i,none⟩) hg).trans hc;obtain⟨z,hz⟩:∃ z,o[i]?=some z:=⟨_,List.getElem?_eq_getElem (by rw[hsz.out];omega)⟩;have d3:=hO.out.cell hz;have d4:=hO.out.free i;have HN:=hid (hS.out.next hd1 hx);have hb1:=c0h (old:=0) (by omega) ((a0j a).get hx) hd1 hS.out.c1;have hcl:=hS.out.c1;clear hx hc hz;have HP:=hid (show ((x:Int)*(d:Int))=((x*d:Nat):Int) from (Int.natCast_mul x d).symm);obtain⟨p,hp⟩:∃ p,x*d=p:=⟨_,rfl⟩;rw[hp]at hb1 HN HP;have hp2:=hb1.2;clear hb1 hp;have e5:IntKind.i64.wrap ((x:Int)*(d:Int))=(p:Int):=by rw[HP.out];exact IntWalk.i64_in _ (by omega)
   have e5':wrap64 ((x:Int)*(d:Int))=(p:Int):=by rw[HP.out];exact IntWalk.wrap64_in _ (by omega)
   go_wp2_with fail;clear e5 e5';go_roundw
   case rel=>
    have hz:(((p:Int)+c)%1000000000)=(((p+c)%1000000000:Nat):Int):=by omega
    rw[hz];exact⟨i+1,(p+c) / 1000000000,_,by go_num,by go_num,by omega,HN,hO.out.set i _,a0A hB.out (Nat.le_refl _) _⟩
   case measure=>simp[intOf]<;>omega
  ·obtain rfl:i=n:=by omega
   obtain⟨z,hz⟩:∃ z,o[i]?=some z:=⟨_,List.getElem?_eq_getElem (by rw[hsz.out];omega)⟩;have d3:=hO.out.cell hz;have d4:=hO.out.free i;clear hz;have hD:=hid (show val (o.set i c)=a*d∧Sm (o.set i c)∧(o.set i c).length=i+1 from by have:=hS.out;rw[← HA.out]at this ⊢;exact this.done);go_wp2_with fail;go_ret
   exact⟨⟨w.heap.size,_,rfl,Nat.le_refl _,hO.out.set i c,hD.out.2.2,hD.out.2.1,hD.out.1⟩,a0A hB.out (Nat.le_refl _) _⟩
end Go.Proofs.YtlimaehdmcnjaaaGreatDoor
namespace Go.Proofs.YtlimaehdmcnjaaaGreatDoor
theorem l0R {g U V U' V' u v P:Nat}(hU:U=u*P+U')(hV:V=v*P+V')(hV':V'<P)(hg:g*v≤u)(hgv:g≤v)(hv:0<v):g*V<U+V:=by
 have hP:0<P:=by omega
 have h2:g*V=g*v*P+g*V':=by rw[hV,Nat.mul_add,Nat.mul_assoc]
 have h3:g*v*P≤u*P:=Nat.mul_le_mul_right _ hg;rcases Nat.eq_zero_or_pos g with rfl | hg0
 ·have:0<v*P:=Nat.mul_pos hv hP;omega
 ·have h5:g*V'<g*P:=Nat.mul_lt_mul_of_pos_left hV' hg0;have h6:g*P≤v*P:=Nat.mul_le_mul_right _ hgv;omega
theorem l0T {q top v1 U V P:Nat}(hU:U<(top+1)*P)(hV:v1*P≤V)(hq:q*V≤U)(h1:0<v1):q≤top / v1:=by
 rw[Nat.le_div_iff_mul_le h1];refine Nat.le_of_lt_succ (Nat.lt_of_mul_lt_mul_right (a:=P) ?_);have:q*v1*P≤q*V:=by rw[Nat.mul_assoc];exact Nat.mul_le_mul_left _ hV
 show q*v1*P<(top+1)*P
 omega
theorem n0M {q g u v U V U' P:Nat}(hU:U=u*P+U')(hU':U'<P)(hV:v*P≤V)(hq:q*V≤U)(hg:u<g*v):q≤g-1:=by
 refine Nat.le_sub_one_of_lt (Nat.lt_of_not_le fun h=>?_);have h1:g*V≤q*V:=Nat.mul_le_mul_right _ h;have h2:g*v*P≤g*V:=by rw[Nat.mul_assoc];exact Nat.mul_le_mul_left _ hV
 have h3:(u+1)*P≤g*v*P:=Nat.mul_le_mul_right _ hg;rw[Nat.add_mul]at h3;omega
theorem i0V {g r top v1 v2 u2:Nat}(htop:top=g*v1+r):g*(v1*1000000000+v2)≤top*1000000000+u2↔g*v2≤r*1000000000+u2:=by
 subst htop;rw[Nat.mul_add,Nat.add_mul,Nat.mul_assoc];generalize g*(v1*1000000000)=x
 omega
theorem n0N {g r top v1 v2 u0 u1 u2:Nat}(htop:top=g*v1+r)(ht:top=u0*1000000000+u1)(hu1:u1<1000000000)(hv2:v2<1000000000)(hle:u0≤v1)(hr:1000000000≤r):
 g<1000000000∧g*v2≤r*1000000000+u2:=by
 have hg:g<1000000000:=Nat.lt_of_not_le fun h=>by
  have h1:1000000000*v1≤g*v1:=Nat.mul_le_mul_right _ h;have h2:u0*1000000000≤v1*1000000000:=Nat.mul_le_mul_right _ hle;omega
 have h3:g*v2≤1000000000*1000000000:=Nat.mul_le_mul (by omega) (by omega);exact⟨hg,by omega⟩
theorem l0V {g top v1 u0 u1:Nat}(h1:0<v1)(ht:top=u0*1000000000+u1)(hu1:u1<1000000000)(hle:u0≤v1)(hg:g≤top / v1):g≤2000000000:=by
 refine Nat.le_trans hg ?_;refine Nat.div_le_of_le_mul ?_;have:u0*1000000000≤v1*1000000000:=Nat.mul_le_mul_right _ hle;omega
theorem l0U {g U V:Nat}(hq:U / V≤g)(hle:g*V≤U)(hV:0<V):g=U / V:=
 Nat.le_antisymm ((Nat.le_div_iff_mul_le hV).2 hle) hq
theorem p0U {g U V:Nat}(hV:0<V)(hu:g*V<U+V)(hgt:U<g*V)(hq:U / V≤g):U / V=g-1∧0<g:=by
 have hg:0<g:=Nat.pos_of_ne_zero fun e=>by subst e;omega
 refine⟨?_,hg⟩;obtain⟨k,rfl⟩:∃ k,g=k+1:=⟨g-1,by omega⟩;rw[Nat.add_mul]at hu hgt;refine Nat.le_antisymm ?_ ?_
 ·refine Nat.le_of_lt_succ ((Nat.div_lt_iff_lt_mul hV).2 ?_);rw[Nat.add_sub_cancel,Nat.succ_mul];omega
 ·rw[Nat.le_div_iff_mul_le hV,Nat.add_sub_cancel];omega
theorem l0g {g U V W T c un p:Nat}(h:W+g*V=T+p*c)(hU:U=T+p*un)(hc:c≤un)(hq:U / V≤g)(hV:0<V)(hVp:V≤p):
 g=U / V∧W=U%V∧un=c:=by
 have h1:p*c≤p*un:=Nat.mul_le_mul_left _ hc;have hle:g*V≤U:=by omega
 have hg:=l0U hq hle hV;have hm:=Nat.div_add_mod U V;have hlt:=Nat.mod_lt U hV;rw[← hg,Nat.mul_comm]at hm;have h2:W+p*un=U%V+p*c:=by omega
 have h3:un=c:=by
  rcases Nat.lt_or_ge c un with hlt' | hge
  ·have:p*(c+1)≤p*un:=Nat.mul_le_mul_left _ hlt';rw[Nat.mul_add]at this;omega
  ·omega
 subst h3;exact⟨hg,by omega,rfl⟩
theorem j0D {g U V W T c un p W' k:Nat}(h:W+g*V=T+p*c)(hU:U=T+p*un)(hc:un<c)(hq:U / V≤g)(hu:g*V<U+V)(hV:0<V)(hVp:V≤p)(hW:W<p)
 (hadd:W'+p*k=W+V) (hW':W'<p):U / V=g-1∧0<g∧W'=U%V:=by
 have h1:p*(un+1)≤p*c:=Nat.mul_le_mul_left _ hc;rw[Nat.mul_add]at h1;have hgt:U<g*V:=by omega
 obtain⟨hq1,hg⟩:=p0U hV hu hgt hq;refine⟨hq1,hg,?_⟩;have hm:=Nat.div_add_mod U V;have hlt:=Nat.mod_lt U hV;rw[hq1]at hm;obtain⟨t,rfl⟩:∃ t,g=t+1:=⟨g-1,by omega⟩;rw[Nat.add_sub_cancel,Nat.mul_comm]at hm;rw[Nat.add_mul]at h;obtain⟨d,rfl⟩:∃ d,c=un+d:=⟨c-un,by omega⟩;rw[Nat.mul_add]at h
 -- W+V=U%V+p*d
 have h2:W+V=U%V+p*d:=by omega
 have h3:W'+p*k=U%V+p*d:=by omega
 have hp:0<p:=by omega
 have h4:(W'+p*k)%p=(U%V+p*d)%p:=by rw[h3]
 rw[Nat.add_mul_mod_self_left,Nat.add_mul_mod_self_left,Nat.mod_eq_of_lt hW',Nat.mod_eq_of_lt (by omega)]at h4;exact h4
theorem m0b {U V n j:Nat}{u w' Q:List Nat}(hj:j+n+1≤u.length)(hz:∀ i,j+1+n≤i→u.getD i 0=0)
 (h:U=V*(1000000000 ^ (j+1)*val Q)+val u) (hlt:val (u.drop (j+1))<V) (hu:Sm u) (hw:w'.length=n+1) (hv:val w'=val ((u.drop j).take (n+1))%V):
 val ((u.drop j).take (n+1))<1000000000*V∧U=V*(1000000000 ^ j*val (val ((u.drop j).take (n+1)) / V::Q))+val (u.take j++w'++u.drop (j+n+1)) ∧
 val ((u.take j++w'++u.drop (j+n+1)).drop j)<V∧∀ i,j+1+n≤i→(u.take j++w'++u.drop (j+n+1)).getD i 0=0:=by
 have hV:0<V:=by omega
 have hrest:u.drop (j+n+1)=List.replicate (u.length-(j+n+1)) 0:=by
  rw[List.eq_replicate_iff];refine⟨by simp,fun x hx=>?_⟩;obtain⟨k,hk⟩:=List.getElem?_of_mem hx;rw[List.getElem?_drop]at hk;have:=hz (j+n+1+k) (by omega);rw[List.getD_eq_getElem?_getD,hk]at this;exact this
 have hW:val ((u.drop j).take (n+1))=val (u.drop j):=by
  have h1:=b0p (u.drop j) (n+1) (by simp;omega);rw[List.drop_drop,show j+(n+1)=j+n+1 by omega,hrest,b0o]at h1;omega
 have hd:val (u.drop j)=u.getD j 0+1000000000*val (u.drop (j+1)):=by
  rw[List.getD_eq_getElem?_getD];have hjl:j<u.length:=by omega
  rw[List.getElem?_eq_getElem hjl,b0v (List.getElem?_eq_getElem hjl)]
  rfl
 have hx:=hu.getD j;have hs:=b0p u j (by omega);have htl:(u.take j).length=j:=List.length_take_of_le (by omega);have hlen:(u.take j++w').length=j+n+1:=by rw[List.length_append,htl,hw];omega
 have hnew:val (u.take j++w'++u.drop (j+n+1))=val (u.take j)+1000000000 ^ j*val w':=by
  rw[hrest,a0U,b0o,a0U,htl];omega
 refine⟨by rw[hW,hd];omega,?_,?_,?_⟩
 ·rw[hnew,hv,h,hs,← hW,a0F];generalize val ((u.drop j).take (n+1))=W
  have hm:=Nat.div_add_mod W V;have hm2:=congrArg (1000000000 ^ j * ·) hm;simp only[Nat.mul_add]at hm2;rw[Nat.pow_succ,Nat.mul_add,Nat.mul_add,Nat.mul_left_comm V (1000000000 ^ j) (W / V)];have e:V*(1000000000 ^ j*1000000000*val Q)=V*(1000000000 ^ j*(1000000000*val Q)):=by rw[Nat.mul_assoc (1000000000 ^ j)]
  omega
 ·rw[List.append_assoc,List.drop_left' htl,hrest,a0U,b0o,hv];have:=Nat.mod_lt (val ((u.drop j).take (n+1))) hV;omega
 ·intro i hi;rw[List.getD_eq_getElem?_getD,List.getElem?_append_right (by omega),hlen,List.getElem?_drop];have:=hz (j+n+1+(i-(j+n+1))) (by omega);rw[List.getD_eq_getElem?_getD]at this;exact this
theorem m0c {a b s Q R:Nat}(hs:0<s)(h:a*s=b*s*Q+R)(hR:R<b*s):Q=a / b∧R / s=a%b:=by
 have hb:0<b:=Nat.pos_of_ne_zero fun e=>by subst e;omega
 have e1:a*s=s*(b*Q)+R:=by rw[h,Nat.mul_comm b s,Nat.mul_assoc]
 have h1:b*Q≤a:=by
  have h2:s*(b*Q)≤s*a:=by rw[Nat.mul_comm s a];omega
  exact Nat.le_of_mul_le_mul_left h2 hs
 obtain⟨t,rfl⟩:∃ t,a=b*Q+t:=⟨a-b*Q,by omega⟩;have hRt:R=t*s:=by
  rw[Nat.add_mul,Nat.mul_comm (b*Q) s]at e1;omega
 have ht:t<b:=by
  rw[hRt]at hR;exact Nat.lt_of_mul_lt_mul_right hR
 subst hRt;rw[Nat.mul_div_cancel _ hs,Nat.mul_add_mod,Nat.mod_eq_of_lt ht,Nat.mul_add_div hb,Nat.div_eq_of_lt ht];exact⟨rfl,rfl⟩
theorem m0Y {ui c g vi:Nat}(hu:ui<1000000000)(hc:c≤g)(hg:g<1000000000)(hv:vi<1000000000):∃ (T M:Int) (z c':Nat),(ui:Int)-c-((g*vi:Nat):Int)=T∧T.tmod 1000000000=M∧(M+1000000000)%1000000000=(z:Int)∧((z:Int)-T) / 1000000000=(c':Int) ∧
 z<1000000000∧c'≤g∧z+c+g*vi=ui+1000000000*c'∧T≤z ∧ -1000000000000000000≤T∧T<1000000000 ∧ -1000000000<M∧M<1000000000:=by
 have hm:g*vi≤g*999999999:=Nat.mul_le_mul_left _ (by omega);obtain⟨T,hT⟩:∃ T:Int,(ui:Int)-c-((g*vi:Nat):Int)=T:=⟨_,rfl⟩;generalize g*vi=p at *
 have h1:=Int.mul_tdiv_add_tmod T 1000000000;have h2:=Int.tmod_lt_of_pos T (b:=1000000000) (by omega);have h3:=Int.lt_tmod_of_pos T (b:=1000000000) (by omega);obtain⟨M,hM⟩:∃ M,T.tmod 1000000000=M:=⟨_,rfl⟩;rw[hM]at h1 h2 h3;generalize T.tdiv 1000000000=q at *
 refine⟨T,M,((M+1000000000)%1000000000).toNat,((((M+1000000000)%1000000000)-T) / 1000000000).toNat,hT,hM,?_,?_,?_,?_,?_,?_,?_,?_,?_,?_⟩<;>omega
theorem n0v {s u v:List Nat}{g i c z c':Nat}(hl:s.length=i)(h:val s+g*val (v.take i)=val (u.take i)+1000000000 ^ i*c)
 (hz:z+c+g*v.getD i 0=u.getD i 0+1000000000*c'):val (s ++ [z])+g*val (v.take (i+1))=val (u.take (i+1))+1000000000 ^ (i+1)*c':=by
 rw[c0s,hl,a0m,a0m,Nat.pow_succ];have h2:=congrArg (1000000000 ^ i * ·) hz;simp only[Nat.mul_add]at h2 ⊢;rw[Nat.mul_left_comm (1000000000 ^ i) g]at h2;rw[Nat.mul_assoc (1000000000 ^ i) 1000000000 c'];generalize 1000000000 ^ i=p at *
 omega
theorem h0p {o:List Nat}{j i z:Nat}(h:j+i<o.length):((o.set (j+i) z).drop j).take (i+1)=(o.drop j).take i ++ [z]:=by
 apply List.ext_getElem?
 intro k;simp only[List.getElem?_take,List.getElem?_drop,List.getElem?_append,List.getElem?_set,List.length_take,List.length_drop];by_cases hk:k<i
 ·rw[if_pos (by omega),if_neg (by omega),if_pos (by omega),if_pos hk]
 ·by_cases hk2:k=i
  ·subst hk2;simp[h,show ¬ (k<min k (o.length-j)) by omega,show k-min k (o.length-j)=0 by omega]
  ·simp[show ¬ (k<i+1) by omega,show ¬ (k<min i (o.length-j)) by omega];omega
theorem c0H {o:List Nat}{j i z:Nat}:(o.set (j+i) z).take j=o.take j:=by rw[List.take_set_of_le (by omega)]
theorem c0S {o:List Nat}{j i z:Nat}:(o.set (j+i) z).drop (j+i+1)=o.drop (j+i+1):=by rw[List.drop_set_of_lt (by omega)]
theorem mb (x p:Nat):x*1000000000*p=1000000000*(x*p):=by rw[Nat.mul_comm x,Nat.mul_assoc]
theorem mb' (x p:Nat):x*(1000000000*p)=1000000000*(x*p):=Nat.mul_left_comm _ _ _
structure EstS (U V u0 u1 u2 v1 v2 P U' V':Nat):Prop where
 hU:U=((u0*1000000000+u1)*1000000000+u2)*P+U'
 hV:V=(v1*1000000000+v2)*P+V'
 lU:U'<P
 lV:V'<P
 b0:u0<1000000000
 b1:u1<1000000000
 b2:u2<1000000000
 c1:v1<1000000000
 c2:v2<1000000000
 v0:0<v1
 le:u0≤v1
 lt:U<1000000000*V
theorem g0o {l:List Nat}{n:Nat}(hl:l.length=n+1)(hn:2≤n):val l=((l.getD n 0*1000000000+l.getD (n-1) 0)*1000000000+l.getD (n-2) 0)*1000000000 ^ (n-2)+val (l.take (n-2)):=by
 obtain⟨m,rfl⟩:∃ m,n=m+2:=⟨n-2,by omega⟩;have h0:val l=val (l.take (m+2+1)):=by rw[List.take_of_length_le (by omega)]
 rw[h0,a0m,a0m l (m+1),a0m l m];simp only[show m+2-1=m+1 by omega,show m+2-2=m by omega,Nat.pow_succ];generalize 1000000000 ^ m=p
 have e0:p*1000000000*1000000000*l.getD (m+2) 0=1000000000*(1000000000*(l.getD (m+2) 0*p)):=by rw[Nat.mul_comm,Nat.mul_comm (p*1000000000),mb',Nat.mul_comm p,mb']
 have e1:p*1000000000*l.getD (m+1) 0=1000000000*(l.getD (m+1) 0*p):=by rw[Nat.mul_comm,Nat.mul_comm p,mb']
 have e2:p*l.getD m 0=l.getD m 0*p:=Nat.mul_comm _ _;rw[e0,e1,e2,Nat.add_mul,mb,Nat.add_mul,mb];omega
theorem k0h {l:List Nat}{n:Nat}(hl:l.length=n)(hn:2≤n):val l=(l.getD (n-1) 0*1000000000+l.getD (n-2) 0)*1000000000 ^ (n-2)+val (l.take (n-2)):=by
 obtain⟨m,rfl⟩:∃ m,n=m+2:=⟨n-2,by omega⟩;have h0:val l=val (l.take (m+1+1)):=by rw[List.take_of_length_le (by omega)]
 rw[h0,a0m l (m+1),a0m l m];simp only[show m+2-1=m+1 by omega,show m+2-2=m by omega,Nat.pow_succ];generalize 1000000000 ^ m=p
 have e1:p*1000000000*l.getD (m+1) 0=1000000000*(l.getD (m+1) 0*p):=by rw[Nat.mul_comm,Nat.mul_comm p,mb']
 have e2:p*l.getD m 0=l.getD m 0*p:=Nat.mul_comm _ _;rw[e1,e2,Nat.add_mul,mb];omega
theorem l0S {l v:List Nat}{n:Nat}(hl:l.length=n+1)(hv:v.length=n)(hn:2≤n)(sl:Sm l)(sv:Sm v)(h0:0<v.getD (n-1) 0)(hlt:val l<1000000000*val v):
 EstS (val l) (val v) (l.getD n 0) (l.getD (n-1) 0) (l.getD (n-2) 0) (v.getD (n-1) 0) (v.getD (n-2) 0) (1000000000 ^ (n-2)) (val (l.take (n-2))) (val (v.take (n-2))):=by
 have h1:=c0f (sl.take (n-2));have h2:=c0f (sv.take (n-2));rw[List.length_take_of_le (by omega)]at h1 h2;refine⟨g0o hl hn,k0h hv hn,h1,h2,sl.getD _,sl.getD _,sl.getD _,sv.getD _,sv.getD _,h0,?_,hlt⟩;have e1:=g0o hl hn;have e2:=k0h hv hn;have b1:=sl.getD (n-1);have b2:=sv.getD (n-2);generalize l.getD n 0=u0 at *
 generalize l.getD (n-1) 0=u1 at *
 generalize l.getD (n-2) 0=u2 at *
 generalize v.getD (n-1) 0=v1 at *
 generalize v.getD (n-2) 0=v2 at *
 generalize 1000000000 ^ (n-2)=p at *
 refine Nat.le_of_not_lt fun hgt=>?_
 have h3:(v1+1)*1000000000*1000000000*p≤u0*1000000000*1000000000*p:=Nat.mul_le_mul_right _ (Nat.mul_le_mul_right _ (Nat.mul_le_mul_right _ hgt));have h4:v2*p≤999999999*p:=Nat.mul_le_mul_right _ (by omega);have h5:(v1+1)*p≤u0*p:=Nat.mul_le_mul_right _ hgt;rw[Nat.add_mul,mb,Nat.add_mul,mb]at e1;rw[Nat.add_mul,mb]at e2;rw[Nat.add_mul]at h5;clear h3;omega
structure EstI (U V u0 u1 v1 G R:Nat):Prop where
 top:u0*1000000000+u1=G*v1+R
 q:U / V≤G
 g2:G≤2000000000
 r2:R≤2000000000
section
variable {U V u0 u1 u2 v1 v2 P U' V' G R : Nat}
theorem EstS.pos (h:EstS U V u0 u1 u2 v1 v2 P U' V'):0<V:=by have:=h.lt;omega
theorem EstI.start (h:EstS U V u0 u1 u2 v1 v2 P U' V'):EstI U V u0 u1 v1 ((u0*1000000000+u1) / v1) ((u0*1000000000+u1)%v1):=by
 have hr:=Nat.mod_lt (u0*1000000000+u1) h.v0;refine⟨(Nat.div_add_mod' _ _).symm,?_,l0V h.v0 rfl h.b1 h.le (Nat.le_refl _),by have:=h.c1;omega⟩;refine l0T (P:=1000000000*P) (U:=U) (V:=V) ?_ ?_ (Nat.div_mul_le_self U V) h.v0
 ·have h0:=h.hU;have h1:=h.lU;have h2:=h.b2;obtain⟨t,ht⟩:∃ t,u0*1000000000+u1=t:=⟨_,rfl⟩;rw[ht]at h0 ⊢;have h3:u2*P≤999999999*P:=Nat.mul_le_mul_right _ (by omega);have e1:=Nat.add_mul (t*1000000000) u2 P;have e2:=mb t P;have e3:=Nat.add_mul t 1 (1000000000*P);have e4:=mb' t P;omega
 ·have h0:=h.hV;have e1:=Nat.add_mul (v1*1000000000) v2 P;have e2:=mb v1 P;have e4:=mb' v1 P;omega
theorem EstI.big (h:EstS U V u0 u1 u2 v1 v2 P U' V')(k:EstI U V u0 u1 v1 G R)(hR:R<1000000000)(hG:1000000000≤G):EstI U V u0 u1 v1 (G-1) (R+v1):=by
 obtain⟨g,rfl⟩:∃ g,G=g+1:=⟨G-1,by omega⟩;have ht:=k.top;rw[Nat.add_mul]at ht;refine⟨by rw[Nat.add_sub_cancel];omega,?_,by have:=k.g2;omega,by have:=h.c1;omega⟩;have:U / V<1000000000:=(Nat.div_lt_iff_lt_mul h.pos).2 h.lt;omega
theorem EstI.less (h:EstS U V u0 u1 u2 v1 v2 P U' V')(k:EstI U V u0 u1 v1 G R)(hR:R<1000000000)(hG:R*1000000000+u2<G*v2):EstI U V u0 u1 v1 (G-1) (R+v1)∧0<G:=by
 have hg0:0<G:=Nat.pos_of_ne_zero fun e=>by subst e;omega
 have ht:=k.top;have hq:U / V≤G-1:=by
  refine n0M (u:=(u0*1000000000+u1)*1000000000+u2) (v:=v1*1000000000+v2) h.hU h.lU (by rw[h.hV];omega) (Nat.div_mul_le_self U V) ?_;refine Nat.lt_of_not_le fun hle=>?_
  have:=(i0V ht).1 hle;omega
 obtain⟨g,rfl⟩:∃ g,G=g+1:=⟨G-1,by omega⟩;rw[Nat.add_mul]at ht;exact⟨⟨by rw[Nat.add_sub_cancel];omega,hq,by have:=k.g2;omega,by have:=h.c1;omega⟩,hg0⟩
theorem EstI.done (h:EstS U V u0 u1 u2 v1 v2 P U' V')(k:EstI U V u0 u1 v1 G R)(hd:1000000000≤R∨(G<1000000000∧G*v2≤R*1000000000+u2)):G<1000000000∧G*V<U+V:=by
 have hgd:G<1000000000∧G*v2≤R*1000000000+u2:=by
  rcases hd with hd | hd
  ·exact n0N k.top rfl h.b1 h.c2 h.le hd
  ·exact hd
 refine⟨hgd.1,l0R h.hU h.hV h.lV ((i0V k.top).2 hgd.2) ?_ ?_⟩
 ·have:=h.v0;omega
 ·have:=h.v0;omega
end
structure MsubI (us vs:List Nat)(j n G i c:Nat)(o:List Nat):Prop where
 sm:Sm o
 len:o.length=us.length
 lo:o.take j=us.take j
 hi:o.drop (j+i)=us.drop (j+i)
 c1:c≤G
 eq:val ((o.drop j).take i)+G*val (vs.take i)=val (((us.drop j).take (n+1)).take i)+1000000000 ^ i*c
theorem MsubI.start {us vs:List Nat}{j n G:Nat}(h:Sm us):MsubI us vs j n G 0 0 us:=⟨h,rfl,rfl,rfl,Nat.zero_le _,by simp⟩
theorem b0f {o us:List Nat}{m:Nat}(h:o.drop m=us.drop m):o.getD m 0=us.getD m 0:=by
 have:=congrArg (fun l:List Nat=>l[0]?) h;simp only[List.getElem?_drop,Nat.add_zero]at this;rw[List.getD_eq_getElem?_getD,List.getD_eq_getElem?_getD,this]
theorem c0n {o us:List Nat}{m:Nat}(h:o.drop m=us.drop m):o.drop (m+1)=us.drop (m+1):=by
 have:=congrArg (List.drop 1) h;simpa[List.drop_drop]using this
theorem c0r {us:List Nat}{j n i:Nat}(hi:i≤n):((us.drop j).take (n+1)).getD i 0=us.getD (j+i) 0:=by
 rw[List.getD_eq_getElem?_getD,List.getD_eq_getElem?_getD,List.getElem?_take,if_pos (by omega),List.getElem?_drop]
theorem MsubI.next {us vs o:List Nat}{j n G i c z c':Nat}(h:MsubI us vs j n G i c o)(hi:i≤n)(hl:j+n+1≤us.length)(hz:z<1000000000)(hc:c'≤G)(he:z+c+G*vs.getD i 0=us.getD (j+i) 0+1000000000*c'):
 MsubI us vs j n G (i+1) c' (o.set (j+i) z):=by
 have hlt:j+i<o.length:=by rw[h.len];omega
 refine⟨h.sm.set _ hz,by rw[List.length_set,h.len],by rw[c0H,h.lo],by rw[← Nat.add_assoc,c0S,c0n h.hi],hc,?_⟩;rw[h0p hlt];refine n0v ?_ h.eq ?_
 ·rw[List.length_take_of_le (by simp;omega)]
 ·rw[he,c0r hi]
theorem q0y {o us:List Nat}{j n z:Nat}(hl:o.length=us.length)(hn:j+n+1≤us.length)(lo:o.take j=us.take j)(hi:o.drop (j+n)=us.drop (j+n)):
 o.set (j+n) z=us.take j++((o.drop j).take n ++ [z])++us.drop (j+n+1):=by
 have h1:o.set (j+n) z=(o.set (j+n) z).take j++((o.set (j+n) z).drop j).take (n+1)++(o.set (j+n) z).drop (j+n+1):=by
  rw[List.append_assoc,show j+n+1=j+(n+1) by omega,← List.drop_drop,List.take_append_drop,List.take_append_drop]
 rw[h1,c0H,h0p (by omega),c0S,lo,c0n hi]
structure WinOut (us:List Nat)(j n R:Nat)(o:List Nat):Prop where
 ex:∃ win:List Nat,o=us.take j++win++us.drop (j+n+1)∧win.length=n+1∧Sm win∧val win=R
theorem WinOut.mk' {o us:List Nat}{j n R:Nat}(hl:o.length=us.length)(hn:j+n+1≤us.length)(lo:o.take j=us.take j)(hi:o.drop (j+n)=us.drop (j+n))(sm:Sm o)(hv:val ((o.drop j).take n)=R):WinOut us j n R (o.set (j+n) 0):=by
 refine⟨_,q0y hl hn lo hi,?_,((sm.drop j).take n).append (Sm.cons (by omega) Sm.nil),?_⟩
 ·rw[List.length_append,List.length_take_of_le (by simp;omega)];rfl
 ·rw[a0U,hv];simp[a0F]
theorem MsubI.fits {us vs o:List Nat}{j n G c U V u0:Nat}(h:MsubI us vs j n G n c o)(hn:j+n+1≤us.length)(lv:vs.length=n)(sv:Sm vs)(hU:val ((us.drop j).take (n+1))=U)(hV:val vs=V)(h0:us.getD (j+n) 0=u0)(hq:U / V≤G)(hV0:0<V)(hc:c≤u0):
 G=U / V∧u0=c∧WinOut us j n (U%V) (o.set (j+n) 0):=by
 have he:=h.eq;rw[a0B (l:=vs) (by rw[lv];exact Nat.le_refl _),hV]at he;have hs:U=val (((us.drop j).take (n+1)).take n)+1000000000 ^ n*u0:=by
  have hl:((us.drop j).take (n+1)).length=n+1:=List.length_take_of_le (by simp;omega);have:=a0m ((us.drop j).take (n+1)) n;rw[a0B (by omega),hU]at this;rw[this,c0r (Nat.le_refl _),h0]
 have hVp:V≤1000000000 ^ n:=by have:=c0f sv;rw[lv,hV]at this;omega
 obtain⟨h1,h2,h3⟩:=l0g he hs hc hq hV0 hVp;exact⟨h1,h3,WinOut.mk' h.len hn h.lo h.hi h.sm h2⟩
structure AddI (o vs:List Nat)(j i k:Nat)(p:List Nat):Prop where
 sm:Sm p
 len:p.length=o.length
 lo:p.take j=o.take j
 hi:p.drop (j+i)=o.drop (j+i)
 k1:k≤1
 eq:val ((p.drop j).take i)+1000000000 ^ i*k=val ((o.drop j).take i)+val (vs.take i)
theorem AddI.start {o vs:List Nat}{j:Nat}(h:Sm o):AddI o vs j 0 0 o:=⟨h,rfl,rfl,rfl,Nat.zero_le _,by simp⟩
theorem AddI.next {o vs p:List Nat}{j i k:Nat}(h:AddI o vs j i k p)(so:Sm o)(sv:Sm vs)(hl:j+i<o.length):
 AddI o vs j (i+1) ((o.getD (j+i) 0+vs.getD i 0+k) / 1000000000) (p.set (j+i) ((o.getD (j+i) 0+vs.getD i 0+k)%1000000000)):=by
 have b1:=so.getD (j+i);have b2:=sv.getD i;have b3:=h.k1;have hlt:j+i<p.length:=by rw[h.len];omega
 refine⟨h.sm.set _ (by omega),by rw[List.length_set,h.len],by rw[c0H,h.lo],by rw[← Nat.add_assoc,c0S,c0n h.hi],by omega,?_⟩;rw[h0p hlt];have hg:(o.drop j).getD i 0=o.getD (j+i) 0:=by rw[List.getD_eq_getElem?_getD,List.getElem?_drop,List.getD_eq_getElem?_getD]
 have:=j0h (s:=(p.drop j).take i) (a:=o.drop j) (b:=vs) (i:=i) (c:=k) (by rw[List.length_take_of_le (by simp;omega)]) h.eq;rw[hg,show o.getD (j+i) 0+k+vs.getD i 0=o.getD (j+i) 0+vs.getD i 0+k by omega]at this;exact this
theorem MsubI.lacks {us vs o:List Nat}{j n G c U V u0:Nat}(h:MsubI us vs j n G n c o)(hn:j+n+1≤us.length)(lv:vs.length=n)(sv:Sm vs)(hU:val ((us.drop j).take (n+1))=U)(hV:val vs=V)(h0:us.getD (j+n) 0=u0)(hq:U / V≤G)(hu:G*V<U+V)(hV0:0<V)(hc:u0<c):
 c=u0+1∧∀ k p,AddI o vs j n k p→k=1∧U / V=G-1∧0<G∧WinOut us j n (U%V) (p.set (j+n) 0):=by
 have he:=h.eq;rw[a0B (l:=vs) (by rw[lv];exact Nat.le_refl _),hV]at he;have hs:U=val (((us.drop j).take (n+1)).take n)+1000000000 ^ n*u0:=by
  have hl:((us.drop j).take (n+1)).length=n+1:=List.length_take_of_le (by simp;omega);have:=a0m ((us.drop j).take (n+1)) n;rw[a0B (by omega),hU]at this;rw[this,c0r (Nat.le_refl _),h0]
 have hVp:V≤1000000000 ^ n:=by have:=c0f sv;rw[lv,hV]at this;omega
 have hW:val ((o.drop j).take n)<1000000000 ^ n:=by
  have:=c0f ((h.sm.drop j).take n);rwa[List.length_take_of_le (by rw[List.length_drop,h.len];omega)]at this
 have hc1:c=u0+1:=by
  obtain⟨d,rfl⟩:∃ d,c=u0+1+d:=⟨c-(u0+1),by omega⟩;rcases Nat.eq_zero_or_pos d with rfl | hd
  ·rfl
  ·exfalso
   have h1:1000000000 ^ n*1≤1000000000 ^ n*d:=Nat.mul_le_mul_left _ hd;rw[Nat.mul_add,Nat.mul_add]at he;omega
 refine⟨hc1,fun k p ha=>?_⟩;have hadd:=ha.eq;rw[a0B (l:=vs) (by rw[lv];exact Nat.le_refl _),hV]at hadd;have hp:val ((p.drop j).take n)<1000000000 ^ n:=by
  have:=c0f ((ha.sm.drop j).take n);rwa[List.length_take_of_le (by rw[List.length_drop,ha.len,h.len];omega)]at this
 obtain⟨h1,h2,h3⟩:=j0D he hs hc hq hu hV0 hVp hW hadd hp;refine⟨?_,h1,h2,WinOut.mk' (by rw[ha.len,h.len]) hn (by rw[ha.lo,h.lo]) (by rw[ha.hi,h.hi]) ha.sm h3⟩
 -- the carry: W+V=U mod V+B^n
 have hm:=Nat.div_add_mod U V;rw[h1]at hm;obtain⟨t,rfl⟩:∃ t,G=t+1:=⟨G-1,by omega⟩;rw[Nat.add_sub_cancel,Nat.mul_comm]at hm;rw[Nat.add_mul,hc1,Nat.mul_add]at he;rw[h3]at hadd;have hk:=ha.k1;have hP:0<1000000000 ^ n:=Nat.pow_pos (by omega);rcases (show k=0∨k=1 by omega) with rfl | rfl
 ·exfalso;omega
 ·rfl
theorem f0D {b n x:Nat}(hn:(limbs b).length=n+1)(hx:(limbs b)[n]?=some x):0<x∧x<1000000000∧b<1000000000 ^ n*(x+1):=by
 refine⟨Nat.pos_of_ne_zero (c0w b x ?_),(a0j b).get hx,?_⟩
 ·rw[List.getLast?_eq_getElem?,hn];exact hx
 ·have h1:=b0u hx;rw[a0B (by omega),a0p]at h1;have h2:=c0f ((a0j b).take n);rw[List.length_take_of_le (by omega)]at h2;rw[Nat.mul_add];omega
theorem g0u {b n x:Nat}(hn:(limbs b).length=n+1)(hx:(limbs b)[n]?=some x):
 (limbs (b*(1000000000 / (x+1)))).length=n+1∧0<1000000000 / (x+1)∧1000000000 / (x+1)<1000000000:=by
 obtain⟨h0,h1,h2⟩:=f0D hn hx;have h3:(x+1)*(1000000000 / (x+1))≤1000000000:=Nat.mul_div_le _ _;have h4:0<1000000000 / (x+1):=Nat.div_pos (by omega) (by omega);have h5:1000000000 / (x+1)<1000000000:=Nat.div_lt_self (by omega) (by omega);generalize 1000000000 / (x+1)=d at *
 refine⟨?_,h4,h5⟩;have hge:1000000000 ^ n≤b:=a0L.1 (by omega);have hlo:1000000000 ^ n≤b*d:=Nat.le_trans hge (Nat.le_mul_of_pos_right b h4);have hup:b*d<1000000000 ^ (n+1):=by
  have e1:b*d<1000000000 ^ n*(x+1)*d:=Nat.mul_lt_mul_of_pos_right h2 h4;rw[Nat.mul_assoc]at e1;have e2:1000000000 ^ n*((x+1)*d)≤1000000000 ^ n*1000000000:=Nat.mul_le_mul_left _ h3;rw[Nat.pow_succ];omega
 have h6:=a0e.2 hup;have h7:=a0L.2 hlo;omega
theorem g0O {m n:Nat}(h:(limbs m).length=n+1):0<(limbs m).getD n 0:=by
 have hlt:n<(limbs m).length:=by omega
 have:=c0w m (limbs m)[n] (by rw[List.getLast?_eq_getElem?,h];exact List.getElem?_eq_getElem hlt);rw[List.getD_eq_getElem?_getD,List.getElem?_eq_getElem hlt];exact Nat.pos_of_ne_zero this
structure DivI (U V n L k:Nat)(o Q:List Nat):Prop where
 so:Sm o
 lo:o.length=L
 hi:∀ i,k+n≤i→o.getD i 0=0
 eq:U=V*(1000000000 ^ k*val (Q.drop k))+val o
 lt:val (o.drop k)<V
 sq:Sm Q
 lq:Q.length=L-n
 vn:V≤1000000000 ^ n
theorem DivI.start {U V n L:Nat}{o:List Nat}(vn:V≤1000000000 ^ n)(so:Sm o)(lo:o.length=L)(hn:n≤L)(hU:val o=U)(lt:val (o.drop (L-n))<V):DivI U V n L (L-n) o (List.replicate (L-n) 0):=by
 refine⟨so,lo,fun i hi=>?_,?_,lt,Sm.zeros _,by simp,vn⟩
 ·rw[List.getD_eq_getElem?_getD,List.getElem?_eq_none (by omega)];rfl
 ·rw[List.drop_of_length_le (by simp)];simp[hU]
theorem DivI.win {U V n L j:Nat}{o Q:List Nat}(h:DivI U V n L (j+1) o Q)(hj:j+n+1≤L):val ((o.drop j).take (n+1))<1000000000*V:=by
 have hw:((List.replicate n 0 ++ [0]:List Nat)).length=n+1:=by simp
 have hrest:o.drop (j+n+1)=List.replicate (L-(j+n+1)) 0:=by
  rw[List.eq_replicate_iff];refine⟨by simp[h.lo],fun x hx=>?_⟩;obtain⟨k,hk⟩:=List.getElem?_of_mem hx;rw[List.getElem?_drop]at hk;have:=h.hi (j+n+1+k) (by omega);rw[List.getD_eq_getElem?_getD,hk]at this;exact this
 have hW:val ((o.drop j).take (n+1))=val (o.drop j):=by
  have h1:=b0p (o.drop j) (n+1) (by simp[h.lo];omega);rw[List.drop_drop,show j+(n+1)=j+n+1 by omega,hrest,b0o]at h1;omega
 have hjl:j<o.length:=by rw[h.lo];omega
 have hd:=b0v (List.getElem?_eq_getElem hjl);have hx:=h.so.get (List.getElem?_eq_getElem hjl);have:=h.lt;rw[hW,hd];omega
theorem DivI.next {U V n L j:Nat}{o o' Q:List Nat}(h:DivI U V n L (j+1) o Q)(hj:j+n+1≤L)(hw:WinOut o j n (val ((o.drop j).take (n+1))%V) o'):
 DivI U V n L j o' (Q.set j (val ((o.drop j).take (n+1)) / V)):=by
 obtain⟨win,rfl,h1,h2,h3⟩:=hw.ex;have hjq:j<Q.length:=by rw[h.lq];omega
 have hz:∀ i,j+1+n≤i→o.getD i 0=0:=fun i hi=>h.hi i (by omega)
 obtain⟨r1,r2,r3,r4⟩:=m0b (U:=U) (V:=V) (n:=n) (j:=j) (u:=o) (w':=win) (Q:=Q.drop (j+1)) (by rw[h.lo];exact hj) hz h.eq h.lt h.so h1 h3;have hV:0<V:=by have:=h.lt;omega
 have hq:val ((o.drop j).take (n+1)) / V<1000000000:=(Nat.div_lt_iff_lt_mul hV).2 r1;have e:(Q.set j (val ((o.drop j).take (n+1)) / V)).drop j=val ((o.drop j).take (n+1)) / V::Q.drop (j+1):=by
  rw[List.drop_eq_getElem_cons (by simpa using hjq),List.drop_set_of_lt (by omega)];simp
 refine⟨((h.so.take j).append h2).append (h.so.drop _),?_,fun i hi=>?_,by rw[e];exact r2,r3,h.sq.set _ hq,by rw[List.length_set,h.lq],h.vn⟩
 ·simp only[List.length_append,List.length_take,List.length_drop,h1,h.lo];omega
 ·by_cases hi2:j+1+n≤i
  ·exact r4 i hi2
  ·-- the window's highest limb: the remainder is below V,and V has n limbs
   obtain rfl:i=j+n:=by omega
   have htl:(o.take j).length=j:=List.length_take_of_le (by rw[h.lo];omega);rw[List.getD_eq_getElem?_getD,List.append_assoc,List.getElem?_append_right (by omega),htl,show j+n-j=n by omega,List.getElem?_append_left (by omega),← List.getD_eq_getElem?_getD];have e2:=a0m win n;rw[a0B (by omega),h3]at e2;have e3:=Nat.mod_lt (val ((o.drop j).take (n+1))) hV;have e4:=h.vn;rcases Nat.eq_zero_or_pos (win.getD n 0) with hz0 | hz0
   ·exact hz0
   ·exfalso
    have:1000000000 ^ n*1≤1000000000 ^ n*win.getD n 0:=Nat.mul_le_mul_left _ hz0;omega
theorem DivI.done {U V n L:Nat}{o Q:List Nat}(h:DivI U V n L 0 o Q)(hn:n≤L):U=V*val Q+val o∧val o<V∧val (o.take n)=val o:=by
 have he:=h.eq;have hl:=h.lt;rw[List.drop_zero]at hl;rw[List.drop_zero,Nat.pow_zero,Nat.one_mul]at he;refine⟨he,hl,?_⟩;have hs:=b0p o n (by rw[h.lo];exact hn);have hrest:o.drop n=List.replicate (L-n) 0:=by
  rw[List.eq_replicate_iff];refine⟨by simp[h.lo],fun x hx=>?_⟩;obtain⟨k,hk⟩:=List.getElem?_of_mem hx;rw[List.getElem?_drop]at hk;have:=h.hi (n+k) (by omega);rw[List.getD_eq_getElem?_getD,hk]at this;exact this
 rw[hrest,b0o]at hs;omega
theorem j0q {o:List Nat}{a b d L n:Nat}(hl:o.length=L+1)(hv:val o=a*d)(ha:a<1000000000 ^ L)(hn:n≤L+1)(h1:0<n)(hb:1000000000 ^ (n-1)≤b)(hd:0<d):val (o.drop (L+1-n))<b*d:=by
 have hs:=b0p o (L+1-n) (by omega);rw[hv]at hs;have h2:a*d<1000000000 ^ L*d:=Nat.mul_lt_mul_of_pos_right ha hd;have h3:1000000000 ^ L=1000000000 ^ (L+1-n)*1000000000 ^ (n-1):=by rw[← Nat.pow_add];congr 1;omega
 rw[h3,Nat.mul_assoc]at h2;have h4:1000000000 ^ (L+1-n)*val (o.drop (L+1-n))<1000000000 ^ (L+1-n)*(1000000000 ^ (n-1)*d):=by omega
 have h5:=Nat.lt_of_mul_lt_mul_left h4;have h6:1000000000 ^ (n-1)*d≤b*d:=Nat.mul_le_mul_right _ hb;omega
structure StepIn (us vs:List Nat)(j n:Nat):Prop where
 n2:2≤n
 nm:n≤1000001
 lv:vs.length=n
 lu:j+n+1≤us.length
 um:us.length≤3000000
 su:Sm us
 sv:Sm vs
 top:0<vs.getD (n-1) 0
 lt:val ((us.drop j).take (n+1))<1000000000*val vs
theorem StepIn.est {us vs:List Nat}{j n:Nat}(h:StepIn us vs j n):EstS (val ((us.drop j).take (n+1))) (val vs) (us.getD (j+n) 0) (us.getD (j+(n-1)) 0) (us.getD (j+(n-2)) 0) (vs.getD (n-1) 0) (vs.getD (n-2) 0) (1000000000 ^ (n-2)) (val (((us.drop j).take (n+1)).take (n-2))) (val (vs.take (n-2))):=by
 have hl:((us.drop j).take (n+1)).length=n+1:=List.length_take_of_le (by have:=h.lu;simp;omega);have:=l0S hl h.lv h.n2 ((h.su.drop j).take _) h.sv h.top h.lt;rwa[c0r (Nat.le_refl _),c0r (by omega),c0r (by omega)]at this
theorem a0R {l:List Nat}{i:Nat}(h:i<l.length):l[i]?=some (l.getD i 0):=by
 rw[List.getD_eq_getElem?_getD,List.getElem?_eq_getElem h];rfl
open Go.RowKit
def q0s (us vs:List Nat)(gu j n:Nat)(w:World)(e:Ending)(w':World):Prop:=
 e=.returned (.int .i64 ((val ((us.drop j).take (n+1)) / val vs:Nat):Int))∧∃ o,WinOut us j n (val ((us.drop j).take (n+1))%val vs) o∧Arr .i64 3 w' gu o∧w.grownBy w' (some gu)
theorem p0h (w:World)(gu j cu:Nat)(us:List Nat)(gv ov cv:Nat)(vs:List Nat)(n:Nat)(hS:StepIn us vs j n)(hU:Arr .i64 3 w gu us)(hV:Row w (.slice (some ⟨gv,ov,none⟩) n cv) (ints .i64 vs))(hne:gv≠gu):
 Calls Tryz.prog 153 #[.slice (some ⟨gu,j,none⟩) (n+1) cu,.slice (some ⟨gv,ov,none⟩) n cv] w fun e w'=>q0s us vs gu j n w e w':=by
 have n2:=hS.n2;have nm:=hS.nm;have lu:=hS.lu;have um:=hS.um;have cv':∀ i,i<n→w.cell? ⟨gv,ov+i,none⟩=some (.int .i64 (vs.getD i 0:Nat)):=fun i hi=>by
  obtain⟨g,o,e,hg,hc⟩:=hV.at (c0y (a0R (l:=vs) (i:=i) (by rw[hS.lv];exact hi)));simp at e;obtain⟨rfl,rfl⟩:=e;exact hc
 have cu':∀ i,i≤n→w.cell? ⟨gu,j+i,none⟩=some (.int .i64 (us.getD (j+i) 0:Nat)):=fun i hi=>hU.cell (a0R (by omega))
 have hE:=hid hS.est;have a0:=cu' n (Nat.le_refl _);have a1:=cu' (n-1) (by omega);have a2:=cu' (n-2) (by omega);have b1:=cv' (n-1) (by omega);have b2:=cv' (n-2) (by omega);have CV:=hid cv';have CU:=hid cu';have HS:=hid hS;have HU:=hid hU;clear cv' cu' hS hU hV;obtain⟨u0,hu0⟩:∃ x,us.getD (j+n) 0=x:=⟨_,rfl⟩;obtain⟨u1,hu1⟩:∃ x,us.getD (j+(n-1)) 0=x:=⟨_,rfl⟩;obtain⟨u2,hu2⟩:∃ x,us.getD (j+(n-2)) 0=x:=⟨_,rfl⟩;obtain⟨v1,hv1⟩:∃ x,vs.getD (n-1) 0=x:=⟨_,rfl⟩;obtain⟨v2,hv2⟩:∃ x,vs.getD (n-2) 0=x:=⟨_,rfl⟩;rw[hu0,hu1,hu2,hv1,hv2]at hE;rw[hu0]at a0;rw[hu1]at a1;rw[hu2]at a2;rw[hv1]at b1;rw[hv2]at b2;have HU0:=hid hu0;clear hu0 hu1 hu2 hv1 hv2;have l0:=hE.out.b0;have l1:=hE.out.b1;have l2:=hE.out.b2;have l3:=hE.out.c1;have l4:=hE.out.c2;have l5:=hE.out.v0;have dz:((v1:Int)==0)=false:=by simp;omega
 have f1:(0:Int)≤(n:Int)-1:=by omega
 have f2:(n:Int)-1<(n:Int)+1:=by omega
 have f3:(n:Int)-1<(n:Int):=by omega
 have f4:(0:Int)≤(n:Int)-2:=by omega
 have f5:(n:Int)-2<(n:Int)+1:=by omega
 have f6:(n:Int)-2<(n:Int):=by omega
 have f7:(0:Int)≤(n:Int):=by omega
 have f8:(n:Int)<(n:Int)+1:=by omega
 have e1:IntKind.i64.wrap ((n:Int)-1)=(n:Int)-1:=IntWalk.i64_in _ (by omega);have e2:IntKind.i64.wrap ((n:Int)-2)=(n:Int)-2:=IntWalk.i64_in _ (by omega);have e3:((n:Int)-1).toNat=n-1:=by omega
 have e4:((n:Int)-2).toNat=n-2:=by omega
 have e5:IntKind.i64.wrap ((u0:Int)*1000000000)=(u0:Int)*1000000000:=IntWalk.i64_in _ (by omega);have e6:IntKind.i64.wrap ((u0:Int)*1000000000+u1)=(u0:Int)*1000000000+u1:=IntWalk.i64_in _ (by omega);go_enter Tryz.func153,Tryz.ntmps153;go_wp2_with fail;go_quiet (fail)
 clear e5 e6;go_wp2_with fail;go_quiet (fail)
 go_upto_block 0 with (fail)
 rename_i nq1 nq2
 obtain⟨V,hV⟩:∃ V,val vs=V:=⟨_,rfl⟩;obtain⟨U,hU⟩:∃ U,val ((us.drop j).take (n+1))=U:=⟨_,rfl⟩;rw[hU,hV]at hE;have HVU:=hid (And.intro hU hV);clear hU hV
 go_cut [7] (fun gg wx=>∃ (G q:Nat),gg=.int .i64 G∧wx=w.drewN q∧G<1000000000∧Hid (U / V≤G∧G*V<U+V))
 case first=>
  go_wp2_with fail
  go_loopw [7,8] (fun gg rr wr=>∃ G R q:Nat,gg=.int .i64 G∧rr=.int .i64 R∧wr=w.drewN q∧Hid (EstI U V u0 u1 v1 G R)) (fun gg _ _=>(intOf gg).toNat)
  case atStart=>
   exact⟨_,_,_,by rw[Int.natCast_ediv];rfl,by rw[Int.natCast_emod];rfl,by rw[World.drewN_drewN],EstI.start hE.out⟩
  case round=>
   obtain⟨G,R,q,rfl,rfl,rfl,hI⟩:=hrel;have g2:=hI.out.g2;have r2:=hI.out.r2;by_cases hR:R<1000000000
   ·have q1:decide ((R:Int)<1000000000)=true:=by simp;omega
    by_cases hG:1000000000≤G
    ·have q2:decide ((1000000000:Int)≤(G:Int))=true:=by simp;omega
     have HN:=hid (hI.out.big hE.out hR hG);go_wp2_with fail
     go_big_quiet (fail)
     clear q1 q2;go_wp2_with fail;go_quiet (fail)
     go_wp2_with fail;go_roundw
     case rel=>exact⟨G-1,R+v1,_,by go_num,by go_num,by rw[World.drewN_drewN,World.drewN_drewN],HN⟩
     case measure=>simp[intOf]<;>omega
    ·have q2:decide ((1000000000:Int)≤(G:Int))=false:=by simp;omega
     obtain⟨p,hp⟩:∃ p,G*v2=p:=⟨_,rfl⟩;have hpb:p≤999999999*999999999:=by rw[← hp];exact Nat.mul_le_mul (by omega) (by omega)
     have HPI:=hid (show ((G:Int)*(v2:Int))=(p:Int) from by rw[← Int.natCast_mul,hp]);by_cases hT:R*1000000000+u2<p
     ·have q3:decide ((R:Int)*1000000000+u2<(p:Int))=true:=by simp;omega
      have HN:=hid (hI.out.less hE.out hR (by rw[hp];exact hT));have hg0:=HN.out.2;clear hp hT;obtain⟨x5,x6,x7⟩:IntKind.i64.wrap ((G:Int)*(v2:Int))=(p:Int)∧IntKind.i64.wrap ((R:Int)*1000000000)=(R:Int)*1000000000∧IntKind.i64.wrap ((R:Int)*1000000000+u2)=(R:Int)*1000000000+u2:=by
       refine⟨by rw[HPI.out];exact IntWalk.i64_in _ (by omega),IntWalk.i64_in _ (by omega),IntWalk.i64_in _ (by omega)⟩
      go_wp2_with fail
      go_big_quiet (fail)
      clear q1 q2 q3 x5 x6 x7;go_wp2_with fail;go_quiet (fail)
      go_wp2_with fail;go_roundw
      case rel=>exact⟨G-1,R+v1,_,by go_num,by go_num,by rw[World.drewN_drewN,World.drewN_drewN],HN.out.1⟩
      case measure=>simp[intOf]<;>omega
     ·have q3:decide ((R:Int)*1000000000+u2<(p:Int))=false:=by simp;omega
      have HD:=hid (hI.out.done hE.out (.inr ⟨by omega,by rw[hp];omega⟩));have HQ:=hid hI.out.q;clear hp hT;obtain⟨x5,x6,x7⟩:IntKind.i64.wrap ((G:Int)*(v2:Int))=(p:Int)∧IntKind.i64.wrap ((R:Int)*1000000000)=(R:Int)*1000000000∧IntKind.i64.wrap ((R:Int)*1000000000+u2)=(R:Int)*1000000000+u2:=by
       refine⟨by rw[HPI.out];exact IntWalk.i64_in _ (by omega),IntWalk.i64_in _ (by omega),IntWalk.i64_in _ (by omega)⟩
      go_wp2_with fail
      go_big_quiet (fail)
      clear q1 q2 q3 x5 x6 x7;go_wp2_with fail
      go_meet
      exact⟨G,_,rfl,by rw[World.drewN_drewN],HD.out.1,HQ.out,HD.out.2⟩
   ·have q1:decide ((R:Int)<1000000000)=false:=by simp;omega
    have HD:=hid (hI.out.done hE.out (.inl (by omega)));have HQ:=hid hI.out.q;go_wp2_with fail
    go_big_quiet (fail)
    clear q1;go_wp2_with fail
    go_meet
    exact⟨G,_,rfl,by rw[World.drewN_drewN],HD.out.1,HQ.out,HD.out.2⟩
 case rest=>
  obtain⟨G,q,rfl,rfl,hG,hQ⟩:=hcut;have hE1:=hE;clear a0 a1 a2 b1 b2 dz f1 f2 f3 f4 f5 f6 f7 f8 e1 e2 e3 e4 hE l0 l1 l2 l3 l4 l5;go_wp2_with fail
  go_loopw [9,10,11,12] (fun bb ii tt xx wr=>∃ (i c:Nat) (o:List Nat),bb=.int .i64 c∧ii=.int .i64 i∧i≤n∧Hid (MsubI us vs j n G i c o)∧Hid (Arr .i64 3 wr gu o)∧Hid (w.grownBy wr (some gu))) (fun _ ii _ _ _=>n-(intOf ii).toNat)
  case atStart=>exact⟨0,0,us,rfl,rfl,Nat.zero_le _,MsubI.start HS.out.su,HU.out.drewN q,d0p (World.grownBy.refl w _) q⟩
  case round=>
   obtain⟨i,c,o,rfl,rfl,hin,hM,hO,hB⟩:=hrel;have hol:=hid hM.out.len;have hcG:=hM.out.c1;by_cases hlt:i<n
   ·have d1:=hO.out.cell (a0R (l:=o) (i:=j+i) (by rw[hol.out];omega));have d4:=hO.out.free (j+i);have d2:=c0b hB.out (CV.out i hlt) hne;have hvl:=HS.out.sv.getD i;have hul:=HS.out.su.getD (j+i);rw[b0f hM.out.hi]at d1;obtain⟨T,M,z,c',hT,hM1,hz,hc',z1,z2,z3,z4,z5,z6,z7,z8⟩:=m0Y hul hcG hG hvl;have HN:=hid (hM.out.next (by omega) lu z1 z2 z3);obtain⟨ui,hui⟩:∃ x,us.getD (j+i) 0=x:=⟨_,rfl⟩;obtain⟨vi,hvi⟩:∃ x,vs.getD i 0=x:=⟨_,rfl⟩;rw[hui]at d1 hul hT;rw[hvi]at d2 hvl hT;clear hui hvi z3;obtain⟨p,hp⟩:∃ p,G*vi=p:=⟨_,rfl⟩;have hpb:p≤999999999*999999999:=by rw[← hp];exact Nat.mul_le_mul (by omega) (by omega)
    have HPI:=hid (show ((G:Int)*(vi:Int))=(p:Int) from by rw[← Int.natCast_mul,hp]);rw[hp]at hT;have HT:=hid hT;have HM1:=hid hM1;have HZ:=hid hz;have HC:=hid hc';clear hp hT hM1 hz hc';have f1:(0:Int)≤(i:Int):=by omega
    have f2:(i:Int)<(n:Int):=by omega
    have f3:(i:Int)<(n:Int)+1:=by omega
    obtain⟨x5,x6,x7⟩:IntKind.i64.wrap ((G:Int)*(vi:Int))=(p:Int)∧IntKind.i64.wrap ((ui:Int)-c)=(ui:Int)-c∧IntKind.i64.wrap ((ui:Int)-c-p)=T:=by
     refine⟨by rw[HPI.out];exact IntWalk.i64_in _ (by omega),IntWalk.i64_in _ (by omega),by rw[HT.out];exact IntWalk.i64_in _ (by omega)⟩
    go_wp2_with fail;go_quiet (fail)
    clear x5 x6 x7;have y1:=HM1.out;have y2:=HZ.out;have y3:=HC.out;go_wp2_with fail;clear y1 y2 y3;go_roundw
    case rel=>exact⟨i+1,c',_,by rw[HC.out],by go_num,by omega,HN,(hO.out.drewN _).set (j+i) z,c0d (d0p hB.out _) _ _⟩
    case measure=>simp[intOf]<;>omega
   ·obtain rfl:i=n:=by omega
    have hg0:=b0f hM.out.hi;have d1:=hO.out.cell (a0R (l:=o) (i:=j+i) (by rw[hol.out];omega));have d4:=hO.out.free (j+i);rw[hg0,HU0.out]at d1;have hV0:=hE1.out.pos;have l0:=hE1.out.b0;clear hg0;by_cases hc:c≤u0
    ·obtain⟨r1,r2,r3⟩:=hM.out.fits lu HS.out.lv HS.out.sv HVU.out.1 HVU.out.2 HU0.out hQ.out.1 hV0 hc;have R1:=hid r1;have R3:=hid r3;subst r2;clear r1 r3 hc;go_wp2_with fail;refine wp_loop_rounds 1 ?_;rw[rounds_succ];go_wp2_with fail;go_ret
     refine⟨a0G (by rw[HVU.out.1,HVU.out.2,← R1.out]),_,by rw[HVU.out.1,HVU.out.2];exact R3.out,hO.out.set (j+i) 0,c0d hB.out _ _⟩
    ·obtain⟨hc1,hadd⟩:=hM.out.lacks lu HS.out.lv HS.out.sv HVU.out.1 HVU.out.2 HU0.out hQ.out.1 hQ.out.2 hV0 (by omega);have HADD:=hid hadd;have hsub:((u0:Int)-(c:Int)) = -1:=by omega
     have hcb:(c:Int)≤1000000000:=by omega
     have HN:=hid (hO.out.setN (j+i) (-1));have HG:=hid (c0d hB.out (j+i) (.int .i64 (-1)));clear hadd hc hc1;go_wp2_with fail;refine wp_loop_rounds 2 ?_;rw[rounds_succ];clear hsub;obtain⟨wx,hwx⟩:∃ wx,wr.setCell ⟨gu,j+i,none⟩ (.int .i64 (-1))=wx:=⟨_,rfl⟩;rw[hwx]at HN HG ⊢;clear hwx d1 d4;have k1:=HN.out.self (m:=j+i) (by rw[hol.out];omega);go_wp2_with fail
     go_loopw [13,14,15] (fun cc ii tt wq=>∃ (y k:Nat) (p:List Nat),cc=.int .i64 k∧ii=.int .i64 y∧y≤i∧Hid (AddI o vs j y k p)∧Hid (ArrN .i64 3 wq gu p (j+i) (-1))∧Hid (w.grownBy wq (some gu))) (fun _ ii _ _=>i-(intOf ii).toNat)
     case atStart=>exact⟨0,0,o,rfl,rfl,Nat.zero_le _,AddI.start hM.out.sm,HN,HG⟩
     case round=>
      obtain⟨y,k,p,rfl,rfl,hyi,hA,hP,hB2⟩:=hrel;have hpl:=hid (show p.length=us.length from by rw[hA.out.len,hol.out]);by_cases hlt2:y<i
      ·have d1:=hP.out.cell (i:=j+y) (by omega) (a0R (l:=p) (i:=j+y) (by rw[hpl.out];omega));have d4:=hP.out.free (j+y);have d2:=c0b hB2.out (CV.out y hlt2) hne;rw[b0f hA.out.hi]at d1;have HN2:=hid (hA.out.next hM.out.sm HS.out.sv (by rw[hol.out];omega));have hvl:=HS.out.sv.getD y;have hul:=hM.out.sm.getD (j+y);have hk1:=hA.out.k1;obtain⟨ui,hui⟩:∃ x,o.getD (j+y) 0=x:=⟨_,rfl⟩;obtain⟨vi,hvi⟩:∃ x,vs.getD y 0=x:=⟨_,rfl⟩;rw[hui]at d1 hul;rw[hvi]at d2 hvl;rw[hui,hvi]at HN2;clear hui hvi;have f1:(0:Int)≤(y:Int):=by omega
       have f2:(y:Int)<(i:Int):=by omega
       have f3:(y:Int)<(i:Int)+1:=by omega
       have hkI:(k:Int)≤1:=by omega
       obtain⟨x5,x6⟩:IntKind.i64.wrap ((ui:Int)+vi)=(ui:Int)+vi∧IntKind.i64.wrap ((ui:Int)+vi+k)=(ui:Int)+vi+k:=by
        refine⟨IntWalk.i64_in _ (by omega),IntWalk.i64_in _ (by omega)⟩
       go_wp2_with fail;go_quiet (fail)
       clear x5 x6;go_wp2_with fail;go_roundw
       case rel=>
        have hz:(((ui:Int)+vi+k)%1000000000)=(((ui+vi+k)%1000000000:Nat):Int):=by omega
        rw[hz];exact⟨y+1,_,_,by go_num,by go_num,by omega,HN2,(hP.out.drewN _).set (by omega) _,c0d (d0p hB2.out _) _ _⟩
       case measure=>simp[intOf]<;>omega
      ·obtain rfl:y=i:=by omega
       obtain⟨r0,r1,r2,r3⟩:=HADD.out k p hA.out;subst r0;have R1:=hid r1;have R3:=hid r3;have k1:=hP.out.self (m:=j+y) (by rw[hpl.out];omega);have k2:=hP.out.free (j+y);clear r1 r3;go_wp2_with fail;rw[rounds_succ];go_wp2_with fail;go_ret
       refine⟨a0G (by rw[HVU.out.1,HVU.out.2,R1.out];omega),_,by rw[HVU.out.1,HVU.out.2];exact R3.out,hP.out.back 0,c0d hB2.out _ _⟩
end Go.Proofs.YtlimaehdmcnjaaaGreatDoor
