import Derived.Test.YtfkpfpobmobnbaaGreatDoorPb2
import Derived.Deep.DeepCutAuto
import Derived.Deep.CutBlock
import Derived.Deep.RegionHeld3
import Derived.Scope
set_option linter.all false
set_option maxRecDepth 100000
set_option maxHeartbeats 8000000
namespace Go.Proofs.YtfkpfpobmobnbaaGreatDoor
open Go.Proofs.Tryz Go.RowKit
open Go.Lib (decDigits nDigits)
section
def s0H {g U V U' V' u v P:Nat}(hU:U=u*P+U')(hV:V=v*P+V')(hV':V'<P)(hg:g*v<=u)(hgv:g<=v)(hv:0<v):g*V<U+V:=by
 have hP:0<P:=by omega
 have h2:g*V=g*v*P+g*V':=by rw[hV,Al,A9]
 have h3:g*v*P<=u*P:=Ab _ hg;rcases H8 g with rfl | hg0
 .have:0<v*P:=Eb hv hP;omega
 .have h5:g*V'<g*P:=Nat.mul_lt_mul_of_pos_left hV' hg0;have h6:g*P<=v*P:=Ab _ hgv;omega
def Ln:=@Nat.le_div_iff_mul_le
def Oe:=@Nat.le_of_lt_succ
def s0J {q top v1 U V P:Nat}(hU:U<(top+1)*P)(hV:v1*P<=V)(hq:q*V<=U)(h1:0<v1):q<=top / v1:=by
 rw[Ln h1];refine Oe (Nat.lt_of_mul_lt_mul_right (a:=P) ?_);have:q*v1*P<=q*V:=by rw[A9];exact Ad _ hV
 show q*v1*P<(top+1)*P
 omega
def v0C {q g u v U V U' P:Nat}(hU:U=u*P+U')(hU':U'<P)(hV:v*P<=V)(hq:q*V<=U)(hg:u<g*v):q<=g-1:=by
 refine Nat.le_sub_one_of_lt (Lr fun h=>?_);have h1:g*V<=q*V:=Ab _ h;have h2:g*v*P<=g*V:=by rw[A9];exact Ad _ hV
 have h3:(u+1)*P<=g*v*P:=Ab _ hg;rw[Bo]at h3;omega
def o0j {g r top v1 v2 u2:Nat}(htop:top=g*v1+r):g*(v1*1000000000+v2)<=top*1000000000+u2↔g*v2<=r*1000000000+u2:=by
 subst htop;rw[Al,Bo,A9];generalize g*(v1*1000000000)=x
 omega
def v0D {g r top v1 v2 u0 u1 u2:Nat}(htop:top=g*v1+r)(ht:top=u0*1000000000+u1)(hu1:u1<1000000000)(hv2:v2<1000000000)(hle:u0<=v1)(hr:1000000000<=r):
 g<1000000000/\g*v2<=r*1000000000+u2:=by
 have hg:g<1000000000:=Lr fun h=>by
  have h1:1000000000*v1<=g*v1:=Ab _ h;omega
 have h3:g*v2<=1000000000*1000000000:=Ar (by omega) (by omega);exact⟨hg,by omega⟩
def s0L {g top v1 u0 u1:Nat}(h1:0<v1)(ht:top=u0*1000000000+u1)(hu1:u1<1000000000)(hle:u0<=v1)(hg:g<=top / v1):g<=2000000000:=by
 refine J0 hg ?_;refine Nat.div_le_of_le_mul ?_;have:u0*1000000000<=v1*1000000000:=Ab _ hle;omega
def s0K {g U V:Nat}(hq:U / V<=g)(hle:g*V<=U)(hV:0<V):g=U / V:=
 Nat.le_antisymm ((Ln hV).2 hle) hq
def Fb:=@Nat.add_sub_cancel
def y0Y {g U V:Nat}(hV:0<V)(hu:g*V<U+V)(hgt:U<g*V)(hq:U / V<=g):U / V=g-1/\0<g:=by
 have hg:0<g:=Cs fun e=>by subst e;omega
 refine⟨?_,hg⟩;obtain⟨k,rfl⟩:∃ k,g=k+1:=⟨g-1,by omega⟩;rw[Bo]at hu hgt;refine Nat.le_antisymm ?_ ?_
 .refine Oe ((Ek hV).2 ?_);rw[Fb,Jp];omega
 .rw[Ln hV,Fb];omega
def r0U {g U V W T c un p:Nat}(h:W+g*V=T+p*c)(hU:U=T+p*un)(hc:c<=un)(hq:U / V<=g)(hV:0<V)(hVp:V<=p):
 g=U / V/\W=U%V/\un=c:=by
 have h1:p*c<=p*un:=Ad _ hc;have hle:g*V<=U:=by omega
 have hg:=s0K hq hle hV;have hm:=Ig U V;have hlt:=Il U hV;rw[<- hg,M9]at hm;have h2:W+p*un=U%V+p*c:=by omega
 have h3:un=c:=by
  rcases Ct c un with hlt' | hge
  .have:p*(c+1)<=p*un:=Ad _ hlt';rw[Al]at this;omega
  .omega
 subst h3;exact⟨hg,by omega,rfl⟩
def p0v {g U V W T c un p W' k:Nat}(h:W+g*V=T+p*c)(hU:U=T+p*un)(hc:un<c)(hq:U / V<=g)(hu:g*V<U+V)(hV:0<V)(hVp:V<=p)(hW:W<p)
 (hadd:W'+p*k=W+V) (hW':W'<p):U / V=g-1/\0<g/\W'=U%V:=by
 have h1:p*(un+1)<=p*c:=Ad _ hc;rw[Al]at h1;have hgt:U<g*V:=by omega
 obtain⟨hq1,hg⟩:=y0Y hV hu hgt hq;refine⟨hq1,hg,?_⟩;have hm:=Ig U V;have hlt:=Il U hV;rw[hq1]at hm;obtain⟨t,rfl⟩:∃ t,g=t+1:=⟨g-1,by omega⟩;rw[Fb,M9]at hm;rw[Bo]at h;obtain⟨d,rfl⟩:∃ d,c=un+d:=⟨c-un,by omega⟩;rw[Al]at h
 -- W+V=U%V+p*d
 have h3:W'+p*k=U%V+p*d:=by omega
 have h4:(W'+p*k)%p=(U%V+p*d)%p:=by rw[h3]
 rw[Nat.add_mul_mod_self_left,Nat.add_mul_mod_self_left,Bw hW',Bw (by omega)]at h4;exact h4
def Ex:=@List.drop_drop
def G8:=@List.getElem?_append_right
def s0U {U V n j:Nat}{u w' Q:List Nat}(hj:j+n+1<=u.length)(hz:∀ i,j+1+n<=i->u.getD i 0=0)
 (h:U=V*(1000000000 ^ (j+1)*val Q)+val u) (hlt:val (u.drop (j+1))<V) (hu:Sm u) (hw:w'.length=n+1) (hv:val w'=val ((u.drop j).take (n+1))%V):
 val ((u.drop j).take (n+1))<1000000000*V/\U=V*(1000000000 ^ j*val (val ((u.drop j).take (n+1)) / V::Q))+val (u.take j++w'++u.drop (j+n+1)) /\
 val ((u.take j++w'++u.drop (j+n+1)).drop j)<V/\∀ i,j+1+n<=i->(u.take j++w'++u.drop (j+n+1)).getD i 0=0:=by
 have hV:0<V:=by omega
 have hrest:u.drop (j+n+1)=List.replicate (u.length-(j+n+1)) 0:=by
  rw[If];refine⟨by simp,fun x hx=>?_⟩;obtain⟨k,hk⟩:=Bi hx;rw[Bm]at hk;have:=hz (j+n+1+k) (by omega);rw[Z3,hk]at this;exact this
 have hW:val ((u.drop j).take (n+1))=val (u.drop j):=by
  have h1:=c0h (u.drop j) (n+1) (by simp;omega);rw[Ex,show j+(n+1)=j+n+1 by omega,hrest,c0g]at h1;omega
 have hd:val (u.drop j)=u.getD j 0+1000000000*val (u.drop (j+1)):=by
  rw[Z3];have hjl:j<u.length:=by omega
  rw[Q0 hjl,c0n (Q0 hjl)]
  rfl
 have hx:=hu.getD j;have hs:=c0h u j (by omega);have htl:(u.take j).length=j:=M6 (by omega);have hlen:(u.take j++w').length=j+n+1:=by rw[J5,htl,hw];omega
 have hnew:val (u.take j++w'++u.drop (j+n+1))=val (u.take j)+1000000000 ^ j*val w':=by
  rw[hrest,b0B,c0g,b0B,htl];omega
 refine⟨by rw[hW,hd];omega,?_,?_,?_⟩
 .rw[hnew,hv,h,hs,<- hW,a0P];generalize val ((u.drop j).take (n+1))=W
  have hm:=Ig W V;have hm2:=congrArg (1000000000 ^ j * ·) hm;simp only[Al]at hm2;rw[E9,Al,Al,Gk V (1000000000 ^ j) (W / V)];have e:V*(1000000000 ^ j*1000000000*val Q)=V*(1000000000 ^ j*(1000000000*val Q)):=by rw[A9 (1000000000 ^ j)]
  omega
 .rw[Au,List.drop_left' htl,hrest,b0B,c0g,hv];have:=Il (val ((u.drop j).take (n+1))) hV;omega
 .intro i hi;rw[Z3,G8 (by omega),hlen,Bm];have:=hz (j+n+1+(i-(j+n+1))) (by omega);rw[Z3]at this;exact this
def s0V {a b s Q R:Nat}(hs:0<s)(h:a*s=b*s*Q+R)(hR:R<b*s):Q=a / b/\R / s=a%b:=by
 have hb:0<b:=Cs fun e=>by subst e;omega
 have e1:a*s=s*(b*Q)+R:=by rw[h,M9 b s,A9]
 have h1:b*Q<=a:=by
  have h2:s*(b*Q)<=s*a:=by rw[M9 s a];omega
  exact Nat.le_of_mul_le_mul_left h2 hs
 obtain⟨t,rfl⟩:∃ t,a=b*Q+t:=⟨a-b*Q,by omega⟩;have hRt:R=t*s:=by
  rw[Bo,M9 (b*Q) s]at e1;omega
 have ht:t<b:=by
  rw[hRt]at hR;exact Nat.lt_of_mul_lt_mul_right hR
 subst hRt;rw[Nat.mul_div_cancel _ hs,Nat.mul_add_mod,Bw ht,Mo hb,Ds ht];exact⟨rfl,rfl⟩
def u0u {ui c g vi:Nat}(hu:ui<1000000000)(hc:c<=g)(hg:g<1000000000)(hv:vi<1000000000):∃ (T M:Int) (z c':Nat),(ui:Int)-c-((g*vi:Nat):Int)=T/\T.tmod 1000000000=M/\(M+1000000000)%1000000000=(z:Int)/\((z:Int)-T) / 1000000000=(c':Int) /\
 z<1000000000/\c'<=g/\z+c+g*vi=ui+1000000000*c'/\T<=z /\ -1000000000000000000<=T/\T<1000000000 /\ -1000000000<M/\M<1000000000:=by
 have hm:g*vi<=g*999999999:=Ad _ (by omega);obtain⟨T,hT⟩:∃ T:Int,(ui:Int)-c-((g*vi:Nat):Int)=T:=⟨_,rfl⟩;generalize g*vi=p at *
 have h1:=Int.mul_tdiv_add_tmod T 1000000000;have h2:=Int.tmod_lt_of_pos T (b:=1000000000) (by omega);have h3:=Int.lt_tmod_of_pos T (b:=1000000000) (by omega);obtain⟨M,hM⟩:=gn (T.tmod 1000000000);rw[hM]at h1 h2 h3;generalize T.tdiv 1000000000=q at *
 refine⟨T,M,((M+1000000000)%1000000000).toNat,((((M+1000000000)%1000000000)-T) / 1000000000).toNat,hT,hM,?_,?_,?_,?_,?_,?_,?_,?_,?_,?_⟩<;>omega
def v0e {s u v:List Nat}{g i c z c':Nat}(hl:s.length=i)(h:val s+g*val (v.take i)=val (u.take i)+1000000000 ^ i*c)
 (hz:z+c+g*v.getD i 0=u.getD i 0+1000000000*c'):val (s ++ [z])+g*val (v.take (i+1))=val (u.take (i+1))+1000000000 ^ (i+1)*c':=by
 rw[d0T,hl,a0s,a0s,E9];have h2:=congrArg (1000000000 ^ i * ·) hz;simp only[Al]at h2 |-;rw[Gk (1000000000 ^ i) g]at h2;rw[A9 (1000000000 ^ i) 1000000000 c'];generalize 1000000000 ^ i=p at *
 omega
def Aq:=@List.ext_getElem?
def Db:=@List.getElem?_set
def m0a {o:List Nat}{j i z:Nat}(h:j+i<o.length):((o.set (j+i) z).drop j).take (i+1)=(o.drop j).take i ++ [z]:=by
 apply Aq
 intro k;simp only[Cd,Bm,List.getElem?_append,Db,Ba,Af];by_cases hk:k<i
 .rw[J3 (by omega),J2 (by omega),J3 (by omega),J3 hk]
 .by_cases hk2:k=i
  .subst hk2;simp[h,show ¬ (k<min k (o.length-j)) by omega,show k-min k (o.length-j)=0 by omega]
  .simp[show ¬ (k<i+1) by omega,show ¬ (k<min i (o.length-j)) by omega];omega
def e0u {o:List Nat}{j i z:Nat}:(o.set (j+i) z).take j=o.take j:=by rw[Jk (by omega)]
def e0H {o:List Nat}{j i z:Nat}:(o.set (j+i) z).drop (j+i+1)=o.drop (j+i+1):=by rw[Hk (by omega)]
def mb (x p:Nat):x*1000000000*p=1000000000*(x*p):=by rw[M9 x,A9]
def mb' (x p:Nat):x*(1000000000*p)=1000000000*(x*p):=Gk _ _ _
structure EstS (U V u0 u1 u2 v1 v2 P U' V':Nat):Prop where
 hU:U=((u0*1000000000+u1)*1000000000+u2)*P+U'
 hV:V=(v1*1000000000+v2)*P+V'
 lU:U'<P
 lV:V'<P
 b0:u0<1000000000
 b1:u1<1000000000
 b2:u2<1000000000
 c1:v1<1000000000
 c2:v2<1000000000
 v0:0<v1
 le:u0<=v1
 lt:U<1000000000*V
def k0m {l:List Nat}{n:Nat}(hl:l.length=n+1)(hn:2<=n):val l=((l.getD n 0*1000000000+l.getD (n-1) 0)*1000000000+l.getD (n-2) 0)*1000000000 ^ (n-2)+val (l.take (n-2)):=by
 obtain⟨m,rfl⟩:∃ m,n=m+2:=⟨n-2,by omega⟩;have h0:val l=val (l.take (m+2+1)):=by rw[E7 (by omega)]
 rw[h0,a0s,a0s l (m+1),a0s l m];simp only[show m+2-1=m+1 by omega,show m+2-2=m by omega,E9];generalize 1000000000 ^ m=p
 have e0:p*1000000000*1000000000*l.getD (m+2) 0=1000000000*(1000000000*(l.getD (m+2) 0*p)):=by rw[M9,M9 (p*1000000000),mb',M9 p,mb']
 have e1:p*1000000000*l.getD (m+1) 0=1000000000*(l.getD (m+1) 0*p):=by rw[M9,M9 p,mb']
 have e2:p*l.getD m 0=l.getD m 0*p:=M9 _ _;rw[e0,e1,e2,Bo,mb,Bo,mb];omega
def q0j {l:List Nat}{n:Nat}(hl:l.length=n)(hn:2<=n):val l=(l.getD (n-1) 0*1000000000+l.getD (n-2) 0)*1000000000 ^ (n-2)+val (l.take (n-2)):=by
 obtain⟨m,rfl⟩:∃ m,n=m+2:=⟨n-2,by omega⟩;have h0:val l=val (l.take (m+1+1)):=by rw[E7 (by omega)]
 rw[h0,a0s l (m+1),a0s l m];simp only[show m+2-1=m+1 by omega,show m+2-2=m by omega,E9];generalize 1000000000 ^ m=p
 have e1:p*1000000000*l.getD (m+1) 0=1000000000*(l.getD (m+1) 0*p):=by rw[M9,M9 p,mb']
 have e2:p*l.getD m 0=l.getD m 0*p:=M9 _ _;rw[e1,e2,Bo,mb];omega
def s0I {l v:List Nat}{n:Nat}(hl:l.length=n+1)(hv:v.length=n)(hn:2<=n)(sl:Sm l)(sv:Sm v)(h0:0<v.getD (n-1) 0)(hlt:val l<1000000000*val v):
 EstS (val l) (val v) (l.getD n 0) (l.getD (n-1) 0) (l.getD (n-2) 0) (v.getD (n-1) 0) (v.getD (n-2) 0) (1000000000 ^ (n-2)) (val (l.take (n-2))) (val (v.take (n-2))):=by
 have h1:=d0B (sl.take (n-2));have h2:=d0B (sv.take (n-2));rw[M6 (by omega)]at h1 h2;refine⟨k0m hl hn,q0j hv hn,h1,h2,sl.getD _,sl.getD _,sl.getD _,sv.getD _,sv.getD _,h0,?_,hlt⟩;have e1:=k0m hl hn;have e2:=q0j hv hn;have b2:=sv.getD (n-2);generalize l.getD n 0=u0 at *
 generalize l.getD (n-1) 0=u1 at *
 generalize l.getD (n-2) 0=u2 at *
 generalize v.getD (n-1) 0=v1 at *
 generalize v.getD (n-2) 0=v2 at *
 generalize 1000000000 ^ (n-2)=p at *
 refine Nat.le_of_not_lt fun hgt=>?_
 have h4:v2*p<=999999999*p:=Ab _ (by omega);have h5:(v1+1)*p<=u0*p:=Ab _ hgt;rw[Bo,mb,Bo,mb]at e1;rw[Bo,mb]at e2;rw[Bo]at h5;omega
structure EstI (U V u0 u1 v1 G R:Nat):Prop where
 top:u0*1000000000+u1=G*v1+R
 q:U / V<=G
 g2:G<=2000000000
 r2:R<=2000000000
section
variable {U V u0 u1 u2 v1 v2 P U' V' G R : Nat}
theorem EstS.pos (h:EstS U V u0 u1 u2 v1 v2 P U' V'):0<V:=by have:=h.lt;omega
theorem EstI.start (h:EstS U V u0 u1 u2 v1 v2 P U' V'):EstI U V u0 u1 v1 ((u0*1000000000+u1) / v1) ((u0*1000000000+u1)%v1):=by
 have hr:=Il (u0*1000000000+u1) h.v0;refine⟨(Nat.div_add_mod' _ _).symm,?_,s0L h.v0 rfl h.b1 h.le nr,by have:=h.c1;omega⟩;refine s0J (P:=1000000000*P) (U:=U) (V:=V) ?_ ?_ (Nat.div_mul_le_self U V) h.v0
 .have h0:=h.hU;have h1:=h.lU;have h2:=h.b2;obtain⟨t,ht⟩:=gn (u0*1000000000+u1);rw[ht]at h0 |-;have h3:u2*P<=999999999*P:=Ab _ (by omega);have e1:=Bo (t*1000000000) u2 P;have e2:=mb t P;have e3:=Bo t 1 (1000000000*P);have e4:=mb' t P;omega
 .have h0:=h.hV;have e1:=Bo (v1*1000000000) v2 P;have e2:=mb v1 P;have e4:=mb' v1 P;omega
theorem EstI.big (h:EstS U V u0 u1 u2 v1 v2 P U' V')(k:EstI U V u0 u1 v1 G R)(hR:R<1000000000)(hG:1000000000<=G):EstI U V u0 u1 v1 (G-1) (R+v1):=by
 obtain⟨g,rfl⟩:∃ g,G=g+1:=⟨G-1,by omega⟩;have ht:=k.top;rw[Bo]at ht;refine⟨by rw[Fb];omega,?_,by have:=k.g2;omega,by have:=h.c1;omega⟩;have:U / V<1000000000:=(Ek h.pos).2 h.lt;omega
theorem EstI.less (h:EstS U V u0 u1 u2 v1 v2 P U' V')(k:EstI U V u0 u1 v1 G R)(hR:R<1000000000)(hG:R*1000000000+u2<G*v2):EstI U V u0 u1 v1 (G-1) (R+v1)/\0<G:=by
 have hg0:0<G:=Cs fun e=>by subst e;omega
 have ht:=k.top;have hq:U / V<=G-1:=by
  refine v0C (u:=(u0*1000000000+u1)*1000000000+u2) (v:=v1*1000000000+v2) h.hU h.lU (by rw[h.hV];omega) (Nat.div_mul_le_self U V) ?_;refine Lr fun hle=>?_
  have:=(o0j ht).1 hle;omega
 obtain⟨g,rfl⟩:∃ g,G=g+1:=⟨G-1,by omega⟩;rw[Bo]at ht;exact⟨⟨by rw[Fb];omega,hq,by have:=k.g2;omega,by have:=h.c1;omega⟩,hg0⟩
theorem EstI.done (h:EstS U V u0 u1 u2 v1 v2 P U' V')(k:EstI U V u0 u1 v1 G R)(hd:1000000000<=R\/(G<1000000000/\G*v2<=R*1000000000+u2)):G<1000000000/\G*V<U+V:=by
 have hgd:G<1000000000/\G*v2<=R*1000000000+u2:=by
  rcases hd with hd | hd
  .exact v0D k.top rfl h.b1 h.c2 h.le hd
  .exact hd
 refine⟨hgd.1,s0H h.hU h.hV h.lV ((o0j k.top).2 hgd.2) ?_ ?_⟩
 .have:=h.v0;omega
 .have:=h.v0;omega
end
structure MsubI (us vs:List Nat)(j n G i c:Nat)(o:List Nat):Prop where
 sm:Sm o
 len:o.length=us.length
 lo:o.take j=us.take j
 hi:o.drop (j+i)=us.drop (j+i)
 c1:c<=G
 eq:val ((o.drop j).take i)+G*val (vs.take i)=val (((us.drop j).take (n+1)).take i)+1000000000 ^ i*c
theorem MsubI.start {us vs:List Nat}{j n G:Nat}(h:Sm us):MsubI us vs j n G 0 0 us:=⟨h,rfl,rfl,rfl,K5 _,by simp⟩
def b0Q {o us:List Nat}{m:Nat}(h:o.drop m=us.drop m):o.getD m 0=us.getD m 0:=by
 have:=congrArg (fun l:List Nat=>l[0]?) h;simp only[Bm,At]at this;rw[Z3,Z3,this]
def d0P {o us:List Nat}{m:Nat}(h:o.drop m=us.drop m):o.drop (m+1)=us.drop (m+1):=by
 have:=congrArg (List.drop 1) h;simpa[Ex]using this
def d0S {us:List Nat}{j n i:Nat}(hi:i<=n):((us.drop j).take (n+1)).getD i 0=us.getD (j+i) 0:=by
 rw[Z3,Z3,Cd,J3 (by omega),Bm]
theorem MsubI.next {us vs o:List Nat}{j n G i c z c':Nat}(h:MsubI us vs j n G i c o)(hi:i<=n)(hl:j+n+1<=us.length)(hz:z<1000000000)(hc:c'<=G)(he:z+c+G*vs.getD i 0=us.getD (j+i) 0+1000000000*c'):
 MsubI us vs j n G (i+1) c' (o.set (j+i) z):=by
 have hlt:j+i<o.length:=by rw[h.len];omega
 refine⟨h.sm.set _ hz,by rw[Bj,h.len],by rw[e0u,h.lo],by rw[<- Dh,e0H,d0P h.hi],hc,?_⟩;rw[m0a hlt];refine v0e ?_ h.eq ?_
 .rw[M6 (by simp;omega)]
 .rw[he,d0S hi]
def z0Z {o us:List Nat}{j n z:Nat}(hl:o.length=us.length)(hn:j+n+1<=us.length)(lo:o.take j=us.take j)(hi:o.drop (j+n)=us.drop (j+n)):
 o.set (j+n) z=us.take j++((o.drop j).take n ++ [z])++us.drop (j+n+1):=by
 have h1:o.set (j+n) z=(o.set (j+n) z).take j++((o.set (j+n) z).drop j).take (n+1)++(o.set (j+n) z).drop (j+n+1):=by
  rw[Au,show j+n+1=j+(n+1) by omega,<- Ex,Ej,Ej]
 rw[h1,e0u,m0a (by omega),e0H,lo,d0P hi]
structure WinOut (us:List Nat)(j n R:Nat)(o:List Nat):Prop where
 ex:∃ win:List Nat,o=us.take j++win++us.drop (j+n+1)/\win.length=n+1/\Sm win/\val win=R
theorem WinOut.mk' {o us:List Nat}{j n R:Nat}(hl:o.length=us.length)(hn:j+n+1<=us.length)(lo:o.take j=us.take j)(hi:o.drop (j+n)=us.drop (j+n))(sm:Sm o)(hv:val ((o.drop j).take n)=R):WinOut us j n R (o.set (j+n) 0):=by
 refine⟨_,z0Z hl hn lo hi,?_,((sm.drop j).take n).append (Sm.cons (by omega) Sm.nil),?_⟩
 .rw[J5,M6 (by simp;omega)];rfl
 .rw[b0B,hv];simp[a0P]
theorem MsubI.fits {us vs o:List Nat}{j n G c U V u0:Nat}(h:MsubI us vs j n G n c o)(hn:j+n+1<=us.length)(lv:vs.length=n)(sv:Sm vs)(hU:val ((us.drop j).take (n+1))=U)(hV:val vs=V)(h0:us.getD (j+n) 0=u0)(hq:U / V<=G)(hV0:0<V)(hc:c<=u0):
 G=U / V/\u0=c/\WinOut us j n (U%V) (o.set (j+n) 0):=by
 have he:=h.eq;rw[a0I (l:=vs) (by rw[lv];exact O4 _),hV]at he;have hs:U=val (((us.drop j).take (n+1)).take n)+1000000000 ^ n*u0:=by
  have hl:((us.drop j).take (n+1)).length=n+1:=M6 (by simp;omega);have:=a0s ((us.drop j).take (n+1)) n;rw[a0I (by omega),hU]at this;rw[this,d0S nr,h0]
 have hVp:V<=1000000000 ^ n:=by have:=d0B sv;rw[lv,hV]at this;omega
 obtain⟨h1,h2,h3⟩:=r0U he hs hc hq hV0 hVp;exact⟨h1,h3,WinOut.mk' h.len hn h.lo h.hi h.sm h2⟩
structure AddI (o vs:List Nat)(j i k:Nat)(p:List Nat):Prop where
 sm:Sm p
 len:p.length=o.length
 lo:p.take j=o.take j
 hi:p.drop (j+i)=o.drop (j+i)
 k1:k<=1
 eq:val ((p.drop j).take i)+1000000000 ^ i*k=val ((o.drop j).take i)+val (vs.take i)
theorem AddI.start {o vs:List Nat}{j:Nat}(h:Sm o):AddI o vs j 0 0 o:=⟨h,rfl,rfl,rfl,K5 _,by simp⟩
theorem AddI.next {o vs p:List Nat}{j i k:Nat}(h:AddI o vs j i k p)(so:Sm o)(sv:Sm vs)(hl:j+i<o.length):
 AddI o vs j (i+1) ((o.getD (j+i) 0+vs.getD i 0+k) / 1000000000) (p.set (j+i) ((o.getD (j+i) 0+vs.getD i 0+k)%1000000000)):=by
 have b1:=so.getD (j+i);have b2:=sv.getD i;have b3:=h.k1;have hlt:j+i<p.length:=by rw[h.len];omega
 refine⟨h.sm.set _ (by omega),by rw[Bj,h.len],by rw[e0u,h.lo],by rw[<- Dh,e0H,d0P h.hi],by omega,?_⟩;rw[m0a hlt];have hg:(o.drop j).getD i 0=o.getD (j+i) 0:=by rw[Z3,Bm,Z3]
 have:=o0I (s:=(p.drop j).take i) (a:=o.drop j) (b:=vs) (i:=i) (c:=k) (by rw[M6 (by simp;omega)]) h.eq;rw[hg,show o.getD (j+i) 0+k+vs.getD i 0=o.getD (j+i) 0+vs.getD i 0+k by omega]at this;exact this
theorem MsubI.lacks {us vs o:List Nat}{j n G c U V u0:Nat}(h:MsubI us vs j n G n c o)(hn:j+n+1<=us.length)(lv:vs.length=n)(sv:Sm vs)(hU:val ((us.drop j).take (n+1))=U)(hV:val vs=V)(h0:us.getD (j+n) 0=u0)(hq:U / V<=G)(hu:G*V<U+V)(hV0:0<V)(hc:u0<c):
 c=u0+1/\∀ k p,AddI o vs j n k p->k=1/\U / V=G-1/\0<G/\WinOut us j n (U%V) (p.set (j+n) 0):=by
 have he:=h.eq;rw[a0I (l:=vs) (by rw[lv];exact O4 _),hV]at he;have hs:U=val (((us.drop j).take (n+1)).take n)+1000000000 ^ n*u0:=by
  have hl:((us.drop j).take (n+1)).length=n+1:=M6 (by simp;omega);have:=a0s ((us.drop j).take (n+1)) n;rw[a0I (by omega),hU]at this;rw[this,d0S nr,h0]
 have hVp:V<=1000000000 ^ n:=by have:=d0B sv;rw[lv,hV]at this;omega
 have hW:val ((o.drop j).take n)<1000000000 ^ n:=by
  have:=d0B ((h.sm.drop j).take n);rwa[M6 (by rw[Af,h.len];omega)]at this
 have hc1:c=u0+1:=by
  obtain⟨d,rfl⟩:∃ d,c=u0+1+d:=⟨c-(u0+1),by omega⟩;rcases H8 d with rfl | hd
  .rfl
  .exfalso
   have h1:1000000000 ^ n*1<=1000000000 ^ n*d:=Ad _ hd;rw[Al,Al]at he;omega
 refine⟨hc1,fun k p ha=>?_⟩;have hadd:=ha.eq;rw[a0I (l:=vs) (by rw[lv];exact O4 _),hV]at hadd;have hp:val ((p.drop j).take n)<1000000000 ^ n:=by
  have:=d0B ((ha.sm.drop j).take n);rwa[M6 (by rw[Af,ha.len,h.len];omega)]at this
 obtain⟨h1,h2,h3⟩:=p0v he hs hc hq hu hV0 hVp hW hadd hp;refine⟨?_,h1,h2,WinOut.mk' (by rw[ha.len,h.len]) hn (by rw[ha.lo,h.lo]) (by rw[ha.hi,h.hi]) ha.sm h3⟩
 -- the carry: W+V=U mod V+B^n
 have hm:=Ig U V;rw[h1]at hm;obtain⟨t,rfl⟩:∃ t,G=t+1:=⟨G-1,by omega⟩;rw[Fb,M9]at hm;rw[Bo,hc1,Al]at he;rw[h3]at hadd;have hk:=ha.k1;have hP:0<1000000000 ^ n:=Gb (by omega);rcases (show k=0\/k=1 by omega) with rfl | rfl
 .exfalso;omega
 .rfl
def i0Z {b n x:Nat}(hn:(limbs b).length=n+1)(hx:(limbs b)[n]?=some x):0<x/\x<1000000000/\b<1000000000 ^ n*(x+1):=by
 refine⟨Cs (e0e b x ?_),(a0o b).get hx,?_⟩
 .rw[Iw,hn];exact hx
 .have h1:=c0m hx;rw[a0I (by omega),a0z]at h1;have h2:=d0B ((a0o b).take n);rw[M6 (by omega)]at h2;rw[Al];omega
def Kf:=@Nat.le_mul_of_pos_right
def Ii:=@Nat.mul_lt_mul_of_pos_right
def k0E {b n x:Nat}(hn:(limbs b).length=n+1)(hx:(limbs b)[n]?=some x):
 (limbs (b*(1000000000 / (x+1)))).length=n+1/\0<1000000000 / (x+1)/\1000000000 / (x+1)<1000000000:=by
 obtain⟨h0,h1,h2⟩:=i0Z hn hx;have h3:(x+1)*(1000000000 / (x+1))<=1000000000:=Nat.mul_div_le _ _;have h4:0<1000000000 / (x+1):=Nat.div_pos (by omega) (by omega);have h5:1000000000 / (x+1)<1000000000:=Nat.div_lt_self (by omega) (by omega);generalize 1000000000 / (x+1)=d at *
 refine⟨?_,h4,h5⟩;have hge:1000000000 ^ n<=b:=b0e.1 (by omega);have hlo:1000000000 ^ n<=b*d:=J0 hge (Kf b h4);have hup:b*d<1000000000 ^ (n+1):=by
  have e1:b*d<1000000000 ^ n*(x+1)*d:=Ii h2 h4;rw[A9]at e1;have e2:1000000000 ^ n*((x+1)*d)<=1000000000 ^ n*1000000000:=Ad _ h3;rw[E9];omega
 have h6:=a0g.2 hup;have h7:=b0e.2 hlo;omega
def l0c {m n:Nat}(h:(limbs m).length=n+1):0<(limbs m).getD n 0:=by
 have hlt:n<(limbs m).length:=by omega
 have:=e0e m (limbs m)[n] (by rw[Iw,h];exact Q0 hlt);rw[Z3,Q0 hlt];exact Cs this
structure DivI (U V n L k:Nat)(o Q:List Nat):Prop where
 so:Sm o
 lo:o.length=L
 hi:∀ i,k+n<=i->o.getD i 0=0
 eq:U=V*(1000000000 ^ k*val (Q.drop k))+val o
 lt:val (o.drop k)<V
 sq:Sm Q
 lq:Q.length=L-n
 vn:V<=1000000000 ^ n
theorem DivI.start {U V n L:Nat}{o:List Nat}(vn:V<=1000000000 ^ n)(so:Sm o)(lo:o.length=L)(hn:n<=L)(hU:val o=U)(lt:val (o.drop (L-n))<V):DivI U V n L (L-n) o (List.replicate (L-n) 0):=by
 refine⟨so,lo,fun i hi=>?_,?_,lt,Sm.zeros _,by simp,vn⟩
 .rw[Z3,U6 (by omega)];rfl
 .rw[Cj (by simp)];simp[hU]
theorem DivI.win {U V n L j:Nat}{o Q:List Nat}(h:DivI U V n L (j+1) o Q)(hj:j+n+1<=L):val ((o.drop j).take (n+1))<1000000000*V:=by
 have hw:((List.replicate n 0 ++ [0]:List Nat)).length=n+1:=by simp
 have hrest:o.drop (j+n+1)=List.replicate (L-(j+n+1)) 0:=by
  rw[If];refine⟨by simp[h.lo],fun x hx=>?_⟩;obtain⟨k,hk⟩:=Bi hx;rw[Bm]at hk;have:=h.hi (j+n+1+k) (by omega);rw[Z3,hk]at this;exact this
 have hW:val ((o.drop j).take (n+1))=val (o.drop j):=by
  have h1:=c0h (o.drop j) (n+1) (by simp[h.lo];omega);rw[Ex,show j+(n+1)=j+n+1 by omega,hrest,c0g]at h1;omega
 have hjl:j<o.length:=by rw[h.lo];omega
 have hd:=c0n (Q0 hjl);have hx:=h.so.get (Q0 hjl);have:=h.lt;rw[hW,hd];omega
def As:=@List.getElem?_append_left
theorem DivI.next {U V n L j:Nat}{o o' Q:List Nat}(h:DivI U V n L (j+1) o Q)(hj:j+n+1<=L)(hw:WinOut o j n (val ((o.drop j).take (n+1))%V) o'):
 DivI U V n L j o' (Q.set j (val ((o.drop j).take (n+1)) / V)):=by
 obtain⟨win,rfl,h1,h2,h3⟩:=hw.ex;have hjq:j<Q.length:=by rw[h.lq];omega
 have hz:∀ i,j+1+n<=i->o.getD i 0=0:=fun i hi=>h.hi i (by omega)
 obtain⟨r1,r2,r3,r4⟩:=s0U (U:=U) (V:=V) (n:=n) (j:=j) (u:=o) (w':=win) (Q:=Q.drop (j+1)) (by rw[h.lo];exact hj) hz h.eq h.lt h.so h1 h3;have hV:0<V:=by have:=h.lt;omega
 have hq:val ((o.drop j).take (n+1)) / V<1000000000:=(Ek hV).2 r1;have e:(Q.set j (val ((o.drop j).take (n+1)) / V)).drop j=val ((o.drop j).take (n+1)) / V::Q.drop (j+1):=by
  rw[S9 (by simpa using hjq),Hk (by omega)];simp
 refine⟨((h.so.take j).append h2).append (h.so.drop _),?_,fun i hi=>?_,by rw[e];exact r2,r3,h.sq.set _ hq,by rw[Bj,h.lq],h.vn⟩
 .simp only[J5,Ba,Af,h1,h.lo];omega
 .by_cases hi2:j+1+n<=i
  .exact r4 i hi2
  ·-- the window's highest limb: the remainder is below V,and V has n limbs
   obtain rfl:i=j+n:=by omega
   have htl:(o.take j).length=j:=M6 (by rw[h.lo];omega);rw[Z3,Au,G8 (by omega),htl,show j+n-j=n by omega,As (by omega),<- Z3];have e2:=a0s win n;rw[a0I (by omega),h3]at e2;have e3:=Il (val ((o.drop j).take (n+1))) hV;have e4:=h.vn;rcases H8 (win.getD n 0) with hz0 | hz0
   .exact hz0
   .exfalso
    have:1000000000 ^ n*1<=1000000000 ^ n*win.getD n 0:=Ad _ hz0;omega
def Dd:=@Nat.pow_zero
def Hn:=@Nat.one_mul
theorem DivI.done {U V n L:Nat}{o Q:List Nat}(h:DivI U V n L 0 o Q)(hn:n<=L):U=V*val Q+val o/\val o<V/\val (o.take n)=val o:=by
 have he:=h.eq;have hl:=h.lt;rw[K9]at hl;rw[K9,Dd,Hn]at he;refine⟨he,hl,?_⟩;have hs:=c0h o n (by rw[h.lo];exact hn);have hrest:o.drop n=List.replicate (L-n) 0:=by
  rw[If];refine⟨by simp[h.lo],fun x hx=>?_⟩;obtain⟨k,hk⟩:=Bi hx;rw[Bm]at hk;have:=h.hi (n+k) (by omega);rw[Z3,hk]at this;exact this
 rw[hrest,c0g]at hs;omega
def o0X {o:List Nat}{a b d L n:Nat}(hl:o.length=L+1)(hv:val o=a*d)(ha:a<1000000000 ^ L)(hn:n<=L+1)(h1:0<n)(hb:1000000000 ^ (n-1)<=b)(hd:0<d):val (o.drop (L+1-n))<b*d:=by
 have hs:=c0h o (L+1-n) (by omega);rw[hv]at hs;have h2:a*d<1000000000 ^ L*d:=Ii ha hd;have h3:1000000000 ^ L=1000000000 ^ (L+1-n)*1000000000 ^ (n-1):=by rw[<- Be];congr 1;omega
 rw[h3,A9]at h2;have h4:1000000000 ^ (L+1-n)*val (o.drop (L+1-n))<1000000000 ^ (L+1-n)*(1000000000 ^ (n-1)*d):=by omega
 have h5:=Nat.lt_of_mul_lt_mul_left h4;have h6:1000000000 ^ (n-1)*d<=b*d:=Ab _ hb;omega
structure StepIn (us vs:List Nat)(j n:Nat):Prop where
 n2:2<=n
 nm:n<=1000001
 lv:vs.length=n
 lu:j+n+1<=us.length
 um:us.length<=3000000
 su:Sm us
 sv:Sm vs
 top:0<vs.getD (n-1) 0
 lt:val ((us.drop j).take (n+1))<1000000000*val vs
theorem StepIn.est {us vs:List Nat}{j n:Nat}(h:StepIn us vs j n):EstS (val ((us.drop j).take (n+1))) (val vs) (us.getD (j+n) 0) (us.getD (j+(n-1)) 0) (us.getD (j+(n-2)) 0) (vs.getD (n-1) 0) (vs.getD (n-2) 0) (1000000000 ^ (n-2)) (val (((us.drop j).take (n+1)).take (n-2))) (val (vs.take (n-2))):=by
 have hl:((us.drop j).take (n+1)).length=n+1:=M6 (by have:=h.lu;simp;omega);have:=s0I hl h.lv h.n2 ((h.su.drop j).take _) h.sv h.top h.lt;rwa[d0S nr,d0S (by omega),d0S (by omega)]at this
theorem getD_some {l:List Nat}{i:Nat}(h:i<l.length):l[i]?=some (l.getD i 0):=by
 rw[Z3,Q0 h];rfl
def ArrP (k:IntKind)(t:TypeId)(w:World)(g:Nat)(l:List Nat):Prop:=∃ cs:Array Value,Blk w g cs t/\cs.toList.take l.length=b0p k l
theorem ArrP.cell {k:IntKind}{t:TypeId}{w:World}{g:Nat}{l:List Nat}(h:ArrP k t w g l){i x:Nat}(hx:l[i]?=some x):w.cell? ⟨g,i,none⟩=some (.int k (x:Int)):=by
 obtain⟨cs,hb,ht⟩:=h;rw[hb.cell];have h1:=e0f (k:=k) hx;rw[<- ht,Cd]at h1
 split at h1
 .simpa using h1
 .cases h1
theorem ArrP.free {k:IntKind}{t:TypeId}{w:World}{g:Nat}{l:List Nat}(h:ArrP k t w g l)(i:Nat):w.frozen? ⟨g,i,none⟩=false:=by
 obtain⟨cs,hb,_⟩:=h;exact hb.free i
theorem ArrP.lt {k:IntKind}{t:TypeId}{w:World}{g:Nat}{l:List Nat}(h:ArrP k t w g l):g<w.heap.size:=by
 obtain⟨cs,hb,_⟩:=h;exact hb.lt
def Ir:=@Array.toList_setIfInBounds
def Mj:=@List.take_set
theorem ArrP.set {k:IntKind}{t:TypeId}{w:World}{g:Nat}{l:List Nat}(h:ArrP k t w g l)(i x:Nat):ArrP k t (w.setCell ⟨g,i,none⟩ (.int k (x:Int))) g (l.set i x):=by
 obtain⟨cs,hb,ht⟩:=h;refine⟨_,hb.set i _,?_⟩;rw[Bj,<- f0s,<- ht,Ir,Mj]
theorem ArrP.call {k:IntKind}{t:TypeId}{w w':World}{g:Nat}{l:List Nat}(h:ArrP k t w g l)(hb:Below w.heap.size w w'):ArrP k t w' g l:=by
 obtain⟨cs,hc,ht⟩:=h;exact⟨cs,hc.call hb,ht⟩
theorem ArrP.drewN {k:IntKind}{t:TypeId}{w:World}{g:Nat}{l:List Nat}(h:ArrP k t w g l)(n:Nat):ArrP k t (w.drewN n) g l:=h
theorem ArrP.other {k:IntKind}{t:TypeId}{w:World}{g:Nat}{l:List Nat}(h:ArrP k t w g l){a:Addr}(ha:a.block≠g)(v:Value):ArrP k t (w.setCell a v) g l:=by
 obtain⟨cs,hb,ht⟩:=h;exact⟨cs,hb.other ha v,ht⟩
theorem ArrP.row {k:IntKind}{t:TypeId}{w:World}{g:Nat}{l:List Nat}(h:ArrP k t w g l){n c:Nat}(hn:n<=l.length)(hc:n<=c)(hm:c<=maxLen):Row w (.slice (some ⟨g,0,none⟩) n c) (b0p k (l.take n)):=by
 obtain⟨cs,hb,ht⟩:=h;refine Row.of_blk hb (by rw[ints_length,M6 hn]) (by omega) (fun i x hx=>?_) hc hm;rw[<- d0J,<- ht,Cd]at hx
 split at hx
 .rw[Cd]at hx
  split at hx
  .simpa using hx
  .cases hx
 .cases hx
theorem ArrP.of_owns {k:IntKind}{t:TypeId}{w:World}{B:Nat}{v:Value}{l:List Nat}(h:w.ownsRow B t 1 v l.length (b0p k l))(h0:0<l.length):∃ g c,v=.slice (some ⟨g,0,none⟩) l.length c/\B<=g/\l.length<=c/\c<=maxLen/\ArrP k t w g l:=by
 rcases h.2 with ⟨rfl,hn⟩ | ⟨g,cap,cur,rfl,hb,hg,h1,h2,h3,h4⟩
 .omega
 .exact⟨g,cap,rfl,hb,h1,h2,cur,hg,by rw[Dr]at h4;exact h4⟩
def c1u (us vs:List Nat)(gu j n:Nat)(w:World)(e:Ending)(w':World):Prop:=
 e=.returned (.int .u64 ((val ((us.drop j).take (n+1)) / val vs:Nat):Int))/\∃ o,WinOut us j n (val ((us.drop j).take (n+1))%val vs) o/\ArrP .u64 161 w' gu o/\w.grownBy w' (some gu)
def v0B {ui vi p G c b:Nat}(hu:ui<1000000000)(hv:vi<1000000000)(hp:G*vi=p)(hG:G<1000000000)(hb:b<=1)(hc:c<=999999999)(hcb:c+b<=G):
 p<=999999998000000001/\(p+c) / 1000000000<=999999999/\(∀ b',b'<=1->ui+1000000000*b'<(p+c)%1000000000+b+1000000000->(p+c)%1000000000+b<=ui+1000000000*b'->(p+c) / 1000000000+b'<=G/\(ui+1000000000*b'-((p+c)%1000000000+b))<1000000000/\(ui+1000000000*b'-((p+c)%1000000000+b))+(c+b)+G*vi=ui+1000000000*((p+c) / 1000000000+b')):=by
 have h1:p<=G*999999999:=by rw[<- hp];exact Ad _ (by omega)
 refine⟨by omega,by omega,fun b' hb' h2 h3=>?_⟩;rw[hp];refine⟨by omega,by omega,by omega⟩
def Jh:=@Int.natCast_ediv
def Lw:=@Int.natCast_emod
def Bl:=@Go.World.drewN_drewN
def Nn:=@Go.World.grownBy.refl
def p0A (w:World)(gu j cu:Nat)(us:List Nat)(gv ov cv:Nat)(vs:List Nat)(n:Nat)(hS:StepIn us vs j n)(hU:ArrP .u64 161 w gu us)(hV:Row w (.slice (some ⟨gv,ov,none⟩) n cv) (b0p .u64 vs))(hne:gv≠gu):
 Calls prog 313 #[.slice (some ⟨gu,j,none⟩) (n+1) cu,.slice (some ⟨gv,ov,none⟩) n cv] w fun e w'=>c1u us vs gu j n w e w':=by
 have n2:=hS.n2;have nm:=hS.nm;have lu:=hS.lu;have um:=hS.um;have cv':∀ i,i<n->w.cell? ⟨gv,ov+i,none⟩=some (.int .u64 (vs.getD i 0:Nat)):=fun i hi=>by
  obtain⟨g,o,e,hg,hc⟩:=hV.at (e0f (getD_some (l:=vs) (i:=i) (by rw[hS.lv];exact hi)));simp at e;obtain⟨rfl,rfl⟩:=e;exact hc
 have cu':∀ i,i<=n->w.cell? ⟨gu,j+i,none⟩=some (.int .u64 (us.getD (j+i) 0:Nat)):=fun i hi=>hU.cell (getD_some (by omega))
 have hE:=hid hS.est;have a0:=cu' n nr;have a1:=cu' (n-1) (by omega);have a2:=cu' (n-2) (by omega);have b1:=cv' (n-1) (by omega);have b2:=cv' (n-2) (by omega);obtain⟨CV,CU,HS,HU⟩:=zc cv' cu' hS hU;clear cv' cu' hS hU hV;obtain⟨u0,hu0⟩:=gn (us.getD (j+n) 0);obtain⟨u1,hu1⟩:=gn (us.getD (j+(n-1)) 0);obtain⟨u2,hu2⟩:=gn (us.getD (j+(n-2)) 0);obtain⟨v1,hv1⟩:=gn (vs.getD (n-1) 0);obtain⟨v2,hv2⟩:=gn (vs.getD (n-2) 0);rw[hu0,hu1,hu2,hv1,hv2]at hE;rw[hu0]at a0;rw[hu1]at a1;rw[hu2]at a2;rw[hv1]at b1;rw[hv2]at b2;have HU0:=hid hu0;clear hu0 hu1 hu2 hv1 hv2;have l0:=hE.out.b0;have l1:=hE.out.b1;have l2:=hE.out.b2;have l3:=hE.out.c1;have l4:=hE.out.c2;have l5:=hE.out.v0;have f1:(0:Int)<=(n:Int)-1:=by omega
 have f2:(n:Int)-1<(n:Int)+1:=by omega
 have f3:(n:Int)-1<(n:Int):=by omega
 have f7:=qw n
 have f8:(n:Int)<(n:Int)+1:=by omega
 have e1:IntKind.i64.wrap ((n:Int)-1)=(n:Int)-1:=U0 _ (by omega);have e2:IntKind.i64.wrap ((n:Int)-2)=(n:Int)-2:=U0 _ (by omega);have e3:((n:Int)-1).toNat=n-1:=by omega
 have e4:((n:Int)-2).toNat=n-2:=by omega
 have e5:IntKind.u64.wrap ((u0:Int)*1000000000)=(u0:Int)*1000000000:=Ci _ (by omega);have e6:IntKind.u64.wrap ((u0:Int)*1000000000+u1)=(u0:Int)*1000000000+u1:=Ci _ (by omega);go_enter func313,ntmps313;go_wp2_with fail;go_quiet (fail)
 clear e5 e6;go_wp2_with fail;go_quiet (fail)
 go_upto_block 0 with (fail)
 rename_i nq1 nq2
 obtain⟨V,hV⟩:=gn (val vs);obtain⟨U,hU⟩:=gn (val ((us.drop j).take (n+1)));rw[hU,hV]at hE;have HVU:=hid (And.intro hU hV);clear hU hV
 go_cut [7] (fun gg wx=>∃ (G q:Nat),gg=.int .u64 G/\wx=w.drewN q/\G<1000000000/\Hid (U / V<=G/\G*V<U+V))
 case first=>
  go_wp2_with fail
  go_loopw [7,8] (fun gg rr wr=>∃ G R q:Nat,gg=.int .u64 G/\rr=.int .u64 R/\wr=w.drewN q/\Hid (EstI U V u0 u1 v1 G R)) (fun gg _ _=>(intOf gg).toNat)
  case atStart=>
   exact⟨_,_,_,by rw[Jh];rfl,by rw[Lw];rfl,by rw[Bl],EstI.start hE.out⟩
  case round=>
   obtain⟨G,R,q,rfl,rfl,rfl,hI⟩:=hrel;have g2:=hI.out.g2;have r2:=hI.out.r2;by_cases hR:R<1000000000
   .have q1:decide ((R:Int)<1000000000)=true:=by simp;omega
    by_cases hG:1000000000<=G
    .have q2:decide ((1000000000:Int)<=(G:Int))=true:=by simp;omega
     have HN:=hid (hI.out.big hE.out hR hG);go_wp2_with fail
     go_big_quiet (fail)
     clear q1 q2;go_wp2_with fail;go_quiet (fail)
     go_wp2_with fail;go_roundw
     case rel=>exact⟨G-1,R+v1,_,by go_num,by go_num,by rw[Bl,Bl],HN⟩
     case measure=>simp[intOf]<;>omega
    .have q2:decide ((1000000000:Int)<=(G:Int))=false:=by simp;omega
     obtain⟨p,hp⟩:=gn (G*v2);have hpb:p<=999999999*999999999:=by rw[<- hp];exact Ar (by omega) (by omega)
     have HPI:=hid (show ((G:Int)*(v2:Int))=(p:Int) from by rw[<- Bp,hp]);by_cases hT:R*1000000000+u2<p
     .have q3:decide ((R:Int)*1000000000+u2<(p:Int))=true:=by simp;omega
      have HN:=hid (hI.out.less hE.out hR (by rw[hp];exact hT));have hg0:=HN.out.2;clear hp hT;obtain⟨x5,x6,x7⟩:IntKind.u64.wrap ((G:Int)*(v2:Int))=(p:Int)/\IntKind.u64.wrap ((R:Int)*1000000000)=(R:Int)*1000000000/\IntKind.u64.wrap ((R:Int)*1000000000+u2)=(R:Int)*1000000000+u2:=by
       refine⟨by rw[HPI.out];exact Ci _ (by omega),Ci _ (by omega),Ci _ (by omega)⟩
      go_wp2_with fail
      go_big_quiet (fail)
      clear q1 q2 q3 x5 x6 x7;go_wp2_with fail;go_quiet (fail)
      go_wp2_with fail;go_roundw
      case rel=>exact⟨G-1,R+v1,_,by go_num,by go_num,by rw[Bl,Bl],HN.out.1⟩
      case measure=>simp[intOf]<;>omega
     .have q3:decide ((R:Int)*1000000000+u2<(p:Int))=false:=by simp;omega
      obtain⟨HD,HQ⟩:=zu (hI.out.done hE.out (.inr ⟨by omega,by rw[hp];omega⟩)) hI.out.q;clear hp hT;obtain⟨x5,x6,x7⟩:IntKind.u64.wrap ((G:Int)*(v2:Int))=(p:Int)/\IntKind.u64.wrap ((R:Int)*1000000000)=(R:Int)*1000000000/\IntKind.u64.wrap ((R:Int)*1000000000+u2)=(R:Int)*1000000000+u2:=by
       refine⟨by rw[HPI.out];exact Ci _ (by omega),Ci _ (by omega),Ci _ (by omega)⟩
      go_wp2_with fail
      go_big_quiet (fail)
      clear q1 q2 q3 x5 x6 x7;go_wp2_with fail
      go_meet
      exact⟨G,_,rfl,by rw[Bl],HD.out.1,HQ.out,HD.out.2⟩
   .have q1:decide ((R:Int)<1000000000)=false:=by simp;omega
    obtain⟨HD,HQ⟩:=zu (hI.out.done hE.out (.inl (by omega))) hI.out.q;go_wp2_with fail
    go_big_quiet (fail)
    clear q1;go_wp2_with fail
    go_meet
    exact⟨G,_,rfl,by rw[Bl],HD.out.1,HQ.out,HD.out.2⟩
 case rest=>
  obtain⟨G,q,rfl,rfl,hG,hQ⟩:=hcut;have hE1:=hE;clear a0 a1 a2 b1 b2 f1 f2 f3 f7 f8 e1 e2 e3 e4 hE l0 l1 l2 l3 l4 l5;go_wp2_with fail
  go_loopw [9,10,11,12,13,79] (fun cc bb s11 s12 s13 ii wr=>∃ (i c b:Nat) (o:List Nat),cc=.int .u64 c/\bb=.int .u64 b/\b<=1/\c<=999999999/\ii=.int .i64 i/\i<=n/\Hid (MsubI us vs j n G i (c+b) o)/\Hid (ArrP .u64 161 wr gu o)/\Hid (w.grownBy wr (some gu))) (fun _ _ _ _ _ ii _=>n-(intOf ii).toNat)
  case atStart=>exact⟨0,0,0,us,rfl,rfl,by omega,by omega,rfl,K5 _,MsubI.start HS.out.su,HU.out.drewN q,f0t (Nn w _) q⟩
  case round=>
   obtain⟨i,c,b,o,rfl,rfl,hb1,hc9,rfl,hin,hM,hO,hB⟩:=hrel;have hol:=hid hM.out.len;have hcG:=hM.out.c1;by_cases hlt:i<n
   .have d1:=hO.out.cell (getD_some (l:=o) (i:=j+i) (by rw[hol.out];omega));have d4:=hO.out.free (j+i);have d2:=d0r hB.out (CV.out i hlt) hne;have hvl:=HS.out.sv.getD i;have hul:=HS.out.su.getD (j+i);rw[b0Q hM.out.hi]at d1;obtain⟨ui,hui⟩:=gn (us.getD (j+i) 0);obtain⟨vi,hvi⟩:=gn (vs.getD i 0);rw[hui]at d1 hul;rw[hvi]at d2 hvl;obtain⟨p,hp⟩:=gn (G*vi);obtain⟨hpb,hcb,hst⟩:=v0B hul hvl hp hG hb1 hc9 hcG;obtain⟨HST,HPI,HUI,HVI⟩:=zc hst (show ((G:Int)*(vi:Int))=(p:Int) from by rw[<- Bp,hp]) hui hvi;clear hp hst hui hvi;have f1:=qw i
    have f2:(i:Int)<(n:Int):=by omega
    have f3:(i:Int)<(n:Int)+1:=by omega
    obtain⟨k1,hk1⟩:=gn ((p+c) / 1000000000);obtain⟨t1,ht1⟩:=gn ((p+c)%1000000000);rw[hk1]at HST hcb;rw[ht1]at HST;have ht9:t1<1000000000:=by omega
    obtain⟨K1,T1⟩:=zu (show (((p:Int)+c) / 1000000000)=(k1:Int) from by rw[<- hk1];omega) (show (((p:Int)+c)%1000000000)=(t1:Int) from by rw[<- ht1];omega);clear hk1 ht1;by_cases hneg:ui<t1+b
    .have q1:decide ((ui:Int)<(t1:Int)+(b:Int))=true:=by simp;omega
     obtain⟨z1,z2,z3⟩:=HST.out 1 (by omega) (by omega) (by omega);have HN:=hid (hM.out.next (by omega) lu z2 z1 (by rw[HUI.out,HVI.out];exact z3));obtain⟨z,hz⟩:=gn (ui+1000000000*1-(t1+b));rw[hz]at HN;have HZ:=hid (show ((ui:Int)+1000000000-((t1:Int)+b))=(z:Int) from by omega);clear z1 z2 z3 hz;have x5:IntKind.u64.wrap ((G:Int)*(vi:Int))=(p:Int):=by rw[HPI.out];exact Ci _ (by omega)
     have y2:=T1.out;go_wp2_with fail;clear x5 y2;go_roundw
     case rel=>
      have D5:=(hO.out.set (j+i) (ui+1000000000)).set (j+i) z;rw[List.set_set,Ee]at D5;rw[K1.out,HZ.out];exact⟨i+1,k1,1,_,rfl,rfl,by omega,by omega,by go_num,by omega,HN,D5,d0y (d0y hB.out _ _) _ _⟩
     case measure=>simp[intOf]<;>omega
    .have q1:decide ((ui:Int)<(t1:Int)+(b:Int))=false:=by simp;omega
     obtain⟨z1,z2,z3⟩:=HST.out 0 (by omega) (by omega) (by omega);have HN:=hid (hM.out.next (by omega) lu z2 z1 (by rw[HUI.out,HVI.out];exact z3));obtain⟨z,hz⟩:=gn (ui+1000000000*0-(t1+b));rw[hz]at HN;have HZ:=hid (show ((ui:Int)-((t1:Int)+b))=(z:Int) from by omega);clear z1 z2 z3 hz;have x5:IntKind.u64.wrap ((G:Int)*(vi:Int))=(p:Int):=by rw[HPI.out];exact Ci _ (by omega)
     have y2:=T1.out;go_wp2_with fail;clear x5 y2;go_roundw
     case rel=>
      rw[K1.out,HZ.out];exact⟨i+1,k1,0,_,rfl,rfl,by omega,by omega,by go_num,by omega,HN,hO.out.set (j+i) z,d0y hB.out _ _⟩
     case measure=>simp[intOf]<;>omega
   .obtain rfl:i=n:=by omega
    have hg0:=b0Q hM.out.hi;have d1:=hO.out.cell (getD_some (l:=o) (i:=j+i) (by rw[hol.out];omega));have d4:=hO.out.free (j+i);rw[hg0,HU0.out]at d1;have hV0:=hE1.out.pos;have l0:=hE1.out.b0;clear hg0;by_cases hc:c+b<=u0
    .obtain⟨r1,r2,r3⟩:=hM.out.fits lu HS.out.lv HS.out.sv HVU.out.1 HVU.out.2 HU0.out hQ.out.1 hV0 hc;obtain⟨R1,R3,R2⟩:=zg r1 r3 r2;have q1:decide ((c:Int)+(b:Int)<=(u0:Int))=true:=by simp;omega
     have q2:(c:Int)+b<=u0:=by omega
     clear r1 r2 r3 hc;go_wp2_with fail;go_ret
     refine⟨a0R (by rw[HVU.out.1,HVU.out.2,<- R1.out]),_,by rw[HVU.out.1,HVU.out.2];exact R3.out,?_,d0y hB.out _ _⟩;have e0:((u0:Int)-((c:Int)+b))=((0:Nat):Int):=by have:=R2.out;omega
     rw[e0];exact hO.out.set (j+i) 0
    .obtain⟨hc1,hadd⟩:=hM.out.lacks lu HS.out.lv HS.out.sv HVU.out.1 HVU.out.2 HU0.out hQ.out.1 hQ.out.2 hV0 (by omega);have HADD:=hid hadd;have q1:decide ((c:Int)+(b:Int)<=(u0:Int))=false:=by simp;omega
     clear hadd hc hc1;go_wp2_with fail
     go_loopw [9,15,16,137] (fun cc s15 s16 ii wq=>∃ (y k:Nat) (p:List Nat),cc=.int .u64 k/\ii=.int .i64 y/\y<=i/\Hid (AddI o vs j y k p)/\Hid (ArrP .u64 161 wq gu p)/\Hid (w.grownBy wq (some gu))) (fun _ _ _ ii _=>i-(intOf ii).toNat)
     case atStart=>exact⟨0,0,o,rfl,rfl,K5 _,AddI.start hM.out.sm,hO,hB⟩
     case round=>
      obtain⟨y,k,p,rfl,rfl,hyi,hA,hP,hB2⟩:=hrel;have hpl:=hid (show p.length=us.length from by rw[hA.out.len,hol.out]);by_cases hlt2:y<i
      .have d1:=hP.out.cell (getD_some (l:=p) (i:=j+y) (by rw[hpl.out];omega));have d4:=hP.out.free (j+y);have d2:=d0r hB2.out (CV.out y hlt2) hne;rw[b0Q hA.out.hi]at d1;have HN2:=hid (hA.out.next hM.out.sm HS.out.sv (by rw[hol.out];omega));have hvl:=HS.out.sv.getD y;have hul:=hM.out.sm.getD (j+y);have hk1:=hA.out.k1;obtain⟨ui,hui⟩:=gn (o.getD (j+y) 0);obtain⟨vi,hvi⟩:=gn (vs.getD y 0);rw[hui]at d1 hul;rw[hvi]at d2 hvl;rw[hui,hvi]at HN2;clear hui hvi;have f1:=qw y
       have f2:(y:Int)<(i:Int):=by omega
       have f3:(y:Int)<(i:Int)+1:=by omega
       obtain⟨x5,x6⟩:IntKind.u64.wrap ((ui:Int)+vi)=(ui:Int)+vi/\IntKind.u64.wrap ((ui:Int)+vi+k)=(ui:Int)+vi+k:=by
        refine⟨Ci _ (by omega),Ci _ (by omega)⟩
       go_wp2_with fail;go_quiet (fail)
       clear x5 x6;go_wp2_with fail;go_roundw
       case rel=>
        have hz:(((ui:Int)+vi+k)%1000000000)=(((ui+vi+k)%1000000000:Nat):Int):=by omega
        rw[hz];exact⟨y+1,_,_,by go_num,by go_num,by omega,HN2,(hP.out.drewN _).set (j+y) _,d0y (f0t hB2.out _) _ _⟩
       case measure=>simp[intOf]<;>omega
      .obtain rfl:y=i:=by omega
       obtain⟨r0,r1,r2,r3⟩:=HADD.out k p hA.out;subst r0;obtain⟨R1,R3⟩:=zu r1 r3;have d1:=hP.out.cell (getD_some (l:=p) (i:=j+y) (by rw[hpl.out];omega));have d4:=hP.out.free (j+y);clear r1 r3;go_wp2_with fail;go_ret
       refine⟨a0R (by rw[HVU.out.1,HVU.out.2,R1.out];omega),_,by rw[HVU.out.1,HVU.out.2];exact R3.out,hP.out.set (j+y) 0,d0y hB2.out _ _⟩
open Go.Shelf
attribute [local go_sem] Oper.semAt_some
def Bv:=@List.setIfInBounds_toArray
def Kg:=@List.set_cons_zero
def J8:=@Go.wpAnyH_done
def Fq:=@Go.World.cell?_setCell_other
def s0c (w:World)(v:Value)(a d:Nat)(ha:IsN .u64 w v a)(hd0:0<d)(hd1:d<1000000000)(hla:(limbs a).length<=1000000):
 Calls prog 312 #[v,.int .u64 d] w fun e w'=>(∃ v',e=.returned (.tuple #[v',.int .u64 ((a%d:Nat):Int)])/\IsN .u64 w' v' (a / d))/\Below w.heap.size w w':=by
 obtain⟨a1,c1,rfl,h1,h2,h3⟩:=ha.openI;have H3:=hid h3;clear h3 ha;obtain⟨n,ea⟩:=gn ((limbs a).length);rw[ea]at h1 hla |-;have HA:=hid ea;clear ea;have hmk:=fun W=>g0I n (by omega) W
 refine (Ah (n:=9)).1 ?_;refine Fj func312 rfl trivial ?_ rfl;simp only[ntmps312,An,E8,Ce,Nat.reduceAdd,Nat.reduceSub,Bu,Cl,Da,Cx,Dq,Cm]
 gi_wp2_with (refine⟨trivial,?_⟩;gi_at_call 255;refine (Ah.2 (f0A _ _ _ _)).mono ?_;rintro e w' ⟨rfl,rfl⟩)
 clear hmk;obtain⟨W0,hW0⟩:=gn (((((((w.alloc (.cells #[.slice a1 n c1] 124)).alloc (.cells #[.int .u64 d] 161)).alloc (.cells (madeCells #[.int .u64 0] n) 161)).alloc (.cells #[.slice (some ⟨w.heap.size+1+1,0,none⟩) n n] 124)).alloc (.cells #[.int .u64 0] 161)).alloc (.cells #[.slice a1 n c1] 124)));have y0:Blk W0 w.heap.size #[.slice a1 n c1] 124:=by rw[<- hW0];exact (((((Blk.new w _ _).alloc _).alloc _).alloc _).alloc _).alloc _
 have y1:Blk W0 (w.heap.size+1) #[.int .u64 d] 161:=by rw[<- hW0];exact ((((Blk.made _ _ _ (by simp)).alloc _).alloc _).alloc _).alloc _
 have y2:Arr .u64 161 W0 (w.heap.size+1+1) (List.replicate n 0):=by
  rw[<- hW0];have:=Arr.made ((w.alloc (.cells #[.slice a1 n c1] 124)).alloc (.cells #[.int .u64 d] 161)) .u64 161 n;rw[Lv,Lv]at this;exact (((Blk.alloc this _).alloc _).alloc _)
 have y3:Blk W0 (w.heap.size+1+1+1) #[.slice (some ⟨w.heap.size+1+1,0,none⟩) n n] 124:=by rw[<- hW0];exact ((Blk.made _ _ _ (by simp)).alloc _).alloc _
 have y4:Blk W0 (w.heap.size+1+1+1+1) #[.int .u64 0] 161:=by rw[<- hW0];exact (Blk.made _ _ _ (by simp)).alloc _
 have y5:Blk W0 (w.heap.size+1+1+1+1+1) #[.slice a1 n c1] 124:=by rw[<- hW0];exact Blk.made _ _ _ (by simp)
 have B0:Below w.heap.size w W0:=by rw[<- hW0];exact (((((br0.alloc nr _).alloc (by simp) _).alloc (by simp;omega) _).alloc (by simp;omega) _).alloc (by simp;omega) _).alloc (by simp;omega) _
 have z0:W0.heap.size=w.heap.size+6:=by rw[<- hW0];simp
 rw[hW0];obtain⟨Y0,Y1,Y2,Y3,Y4,Y5,HB0,Z0⟩:=kq y0 y1 y2 y3 y4 y5 B0 z0;clear y0 y1 y2 y3 y4 y5 B0 z0 hW0;have hread:∀ W1 W2,Below W0.heap.size W0 W1->KpB w.heap.size (w.heap.size+1+1+1+1+1) W1 W2->W2.cell? ⟨w.heap.size+1+1+1+1+1,0,none⟩=some (.slice a1 n c1)/\∀ i,i<n->∃ g o z,a1=some ⟨g,o,none⟩/\W2.cell? ⟨g,o+i,none⟩=some (.int .u64 z)/\True:=fun W1 W2 b1 b2=>by
  refine⟨(b2.blk (Y5.out.call b1)).cell 0,fun i hi=>?_⟩;obtain⟨x,hx⟩:∃ x,(limbs a)[i]?=some x:=⟨_,Q0 (by rw[HA.out];exact hi)⟩;obtain⟨g,o,rfl,hg,hc⟩:=H3.out i x hx;exact⟨g,o,_,rfl,(((b2.1.cell (p:=⟨g,o+i,none⟩) hg).trans (b1.cell (p:=⟨g,o+i,none⟩) (by have:=Z0.out;simp;omega))).trans (HB0.out.cell (p:=⟨g,o+i,none⟩) hg)).trans hc,trivial⟩
 refine c0T (hM:=fun _ _ _=>trivial) (by omega) (gf:=310) (lb:=#[.pointer (some ⟨w.heap.size+1+1+1+1+1,0,none⟩)]) rfl (Cw Nj (by kernel_rfl) rfl)
  (e0j (Kp:=KpB w.heap.size (w.heap.size+1+1+1+1+1)) (V:=fun _ _=>True) 8 (by omega) _ n c1 a1 (by omega) h1 W0 (KpB.refl _ _) KpB.trans hread) KpB.trans (KpB.put (by have:=Z0.out;omega) (by have:=Z0.out;omega)) br0 (fun _=>rfl)
  (fun pre W=>(∃ (r:Nat) (o:List Nat),SmallI a d (n-pre.length) r o/\Arr .u64 161 W (w.heap.size+1+1) o/\Blk W (w.heap.size+1+1+1+1) #[.int .u64 r] 161/\Blk W (w.heap.size+1+1+1) #[.slice (some ⟨w.heap.size+1+1,0,none⟩) n n] 124)/\Below (w.heap.size+2) W0 W)
  (fun c pre W=>False)
  (Jl (fun s A B row hs hg hr=>by
   obtain⟨r,o,h1,h2,h3,h4⟩:=hs;exact⟨r,o,h1,Blk.kept h2 hg (fun r e=>(hr r e).2),h3.kept hg (fun r e=>(hr r e).2),h4.kept hg (fun r e=>(hr r e).2)⟩) (Hm (by have:=Z0.out;omega) (by have:=Z0.out;omega)))
  (fun c s A B row hs hg hr=>hs)
  ⟨⟨0,_,by have:=SmallI.start (a:=a) hd0;rw[HA.out]at this;simpa using this,Y2.out,Y4.out,Y3.out⟩,J4 _ _⟩ ?act ?assign ?body ?done ?stop
 case assign=>
  intro l x W K hK
  gi_wp2
  exact hK
 case body=>
  rintro l pre ⟨j,z⟩ W ⟨hj,-⟩ ⟨⟨r,o,hS,hO,hR,hU⟩,hB⟩;dsimp only at hj;rw[show n-pre.length=j+1 by omega]at hS;obtain⟨x,hx⟩:∃ x,(limbs a)[j]?=some x:=⟨_,List.getElem?_eq_getElem (by rw[HA.out];omega)⟩;obtain⟨g,og,rfl,hg,hc⟩:=H3.out j x hx;have hol:o.length=n:=by rw[hS.len,HA.out]
  obtain⟨z0,hz0⟩:∃ z,o[j]?=some z:=⟨_,Q0 (by omega)⟩;have d1:=((hB.cell (p:=⟨g,og+j,none⟩) (by simp;omega)).trans (HB0.out.cell (p:=⟨g,og+j,none⟩) hg)).trans hc;have b0:=(Y0.out.below hB (by omega)).cell 0;have b1:=(Y1.out.below hB (by omega)).cell 0;have b3:=hU.cell 0;have b4:=hR.cell 0;have d3:=hO.cell hz0;have d4:=hO.free j;simp only[K6,Cg]at b0 b1 b3 b4;have HN:=hid (hS.next hx);have hxl:=(a0o a).get hx;have hrl:=hS.rd;obtain⟨HBB,HJ,HO,HR,HU⟩:=zd hB hj hO hR hU;clear hx hc hB hj hz0 hol hS hO hR hU;have f1:=qw j
  have f2:(j:Int)<(n:Int):=by have:=HJ.out;omega
  have e5:IntKind.u64.wrap ((r:Int)*1000000000)=(r:Int)*1000000000:=Ci _ (by omega);have e6:IntKind.u64.wrap ((r:Int)*1000000000+x)=(r:Int)*1000000000+x:=Ci _ (by omega)
  gi_wp2
  refine e0x (by kernel_rfl) (by kernel_rfl) (by kernel_rfl) ?_
  repeat (gi_big_quiet_step (fail))
  refine Mi ?_;intro _ hw';obtain⟨nq,rfl⟩:=hw';clear e5 e6
  gi_wp2
  obtain⟨V,hV⟩:=gn (W.drewN nq);have v1:V.cell? ⟨w.heap.size+1,0,none⟩=some (.int .u64 (d:Int)):=by rw[<- hV];exact b1
  have v3:V.cell? ⟨w.heap.size+1+1+1,0,none⟩=some (.slice (some ⟨w.heap.size+1+1,0,none⟩) n n):=by rw[<- hV];exact b3
  rw[hV];obtain⟨qv,hqv⟩:=gn ((r*1000000000+x) / d);obtain⟨mv,hmv⟩:=gn ((r*1000000000+x)%d);rw[hqv,hmv]at HN;have dz2:¬ d=0:=by omega
  have e7:IntKind.u64.wrap (((r:Int)*1000000000+x).tdiv d)=(qv:Int):=by
   rw[IntWalk.u64_quo _ _ (by omega),<- hqv,Jh];rfl
  have e8:((r:Int)*1000000000+x).tmod d=(mv:Int):=by
   rw[IntWalk.rem_in _ _ (by omega),<- hmv,Lw];rfl
  have v6:V.cell? ⟨w.heap.size+1+1,j,none⟩=some (.int .u64 (z0:Int)):=by rw[<- hV];exact d3
  have v7:V.frozen? ⟨w.heap.size+1+1,j,none⟩=false:=by rw[<- hV];exact d4
  obtain⟨HVB,HVW,HVO,HVR,HV1,HVU⟩:=zf (show Below (w.heap.size+2) W0 V from by rw[<- hV];exact a0k HBB.out nq) (show KpB w.heap.size (w.heap.size+1+1+1+1+1) W V/\KeepsFrom W0.heap.size W V from by rw[<- hV];exact⟨⟨a0k br0 _,rfl⟩,O4 _,fun _ _ _ h _=>h⟩) (show Arr .u64 161 V (w.heap.size+1+1) o from by rw[<- hV];exact HO.out) (show Blk V (w.heap.size+1+1+1+1) #[.int .u64 r] 161 from by rw[<- hV];exact HR.out) (show Blk V (w.heap.size+1) #[.int .u64 d] 161 from by rw[<- hV];exact Blk.drewN (Blk.below (B:=w.heap.size+2) Y1.out HBB.out (by omega)) nq) (show Blk V (w.heap.size+1+1+1) #[.slice (some ⟨w.heap.size+1+1,0,none⟩) n n] 124 from by rw[<- hV];exact HU.out);clear hV d1 b0 b1 b3 b4 d3 d4 hqv hmv HBB HO HR HU;refine e0q 9 (fun W'=>W'.cell? ⟨w.heap.size+1,0,none⟩=some (.int .u64 (d:Int))/\W'.cell? ⟨w.heap.size+1+1+1,0,none⟩=some (.slice (some ⟨w.heap.size+1+1,0,none⟩) n n)) (by kernel_rfl) (by kernel_rfl) (by kernel_rfl) rfl (by kernel_rfl) ⟨v1,v3⟩ ?_;simp only[Gr,Du]
  iterate 9
   apply Exists.intro
   refine⟨.inl ⟨by rfl,?_⟩,?_⟩
   ·(intro W' hW'
     obtain⟨q1,q2⟩:=hW'
     go_simp
     try (with_reducible rfl))
   simp only[Act.put,Bv,Kg,Jt]
  clear e7 e8;refine a0c (i:=9) (by kernel_rfl) rfl rfl ?_;go_wp2
  have u1:Arr .u64 161 (V.setCell ⟨w.heap.size+1+1,j,none⟩ (.int .u64 (qv:Int))) (w.heap.size+1+1) (o.set j qv):=HVO.out.set j qv;have u2:=Blk.other (a:=⟨w.heap.size+1+1,j,none⟩) HVR.out (by simp<;>omega) (.int .u64 (qv:Int));have u3:=Blk.other (a:=⟨w.heap.size+1+1,j,none⟩) HVU.out (by simp<;>omega) (.int .u64 (qv:Int));have u4:=Blk.other (a:=⟨w.heap.size+1+1,j,none⟩) HV1.out (by simp<;>omega) (.int .u64 (qv:Int));obtain⟨V1,hV1⟩:=gn ((V.setCell ⟨w.heap.size+1+1,j,none⟩ (.int .u64 (qv:Int))).drew);have c2:V1.cell? ⟨w.heap.size+1+1+1+1,0,none⟩=some (.int .u64 (r:Int)):=by rw[<- hV1];exact u2.cell 0
  have c2':V1.frozen? ⟨w.heap.size+1+1+1+1,0,none⟩=false:=by rw[<- hV1];exact u2.free 0
  have c3:V1.cell? ⟨w.heap.size+1+1+1,0,none⟩=some (.slice (some ⟨w.heap.size+1+1,0,none⟩) n n):=by rw[<- hV1];exact u3.cell 0
  have c4:V1.cell? ⟨w.heap.size+1,0,none⟩=some (.int .u64 (d:Int)):=by rw[<- hV1];exact u4.cell 0
  have U1:Hid (Arr .u64 161 V1 (w.heap.size+1+1) (o.set j qv)):=by rw[<- hV1];exact u1
  have U2:Hid (Blk V1 (w.heap.size+1+1+1+1) #[.int .u64 r] 161):=by rw[<- hV1];exact u2
  have U3:Hid (Blk V1 (w.heap.size+1+1+1) #[.slice (some ⟨w.heap.size+1+1,0,none⟩) n n] 124):=by rw[<- hV1];exact u3
  have HB1:=hid (show Below (w.heap.size+2) W0 V1 from by rw[<- hV1];exact (HVB.out.setCell (by simp<;>omega) _).drew)
  have HW1:=hid (show KpB w.heap.size (w.heap.size+1+1+1+1+1) W V1/\KeepsFrom W0.heap.size W V1 from by
   rw[<- hV1];refine⟨⟨(HVW.out.1.1.setCell (by simp<;>omega) _).drew,?_⟩,HVW.out.2.trans (((Ai V _ _).trans (KeepsOthers.drew _)).from _)⟩;exact (Bc _ _ _ _ (by simp<;>omega)).trans HVW.out.1.2)
  rw[hV1];clear hV1 u1 u2 u3 u4 v1 v3 v6 v7;refine⟨⟨c4,c3⟩,a0c (i:=10) (by kernel_rfl) rfl rfl ?_⟩;go_wp2
  have w3:=Blk.other (a:=⟨w.heap.size+1+1+1+1,0,none⟩) U3.out (by simp<;>omega) (.int .u64 (mv:Int));have w1:=Blk.other (a:=⟨w.heap.size+1+1+1+1,0,none⟩) U1.out (by simp<;>omega) (.int .u64 (mv:Int));have w2:=U2.out.set 0 (.int .u64 (mv:Int));refine⟨⟨?_,w3.cell 0⟩,J8 (by kernel_rfl) ?_ _⟩
  .rw[Fq _ _ _ _ (by simp<;>omega)];exact c4
  simp only[b0b]
  gi_wp2
  refine⟨HW1.out.2.trans ((Ai _ _ _).from _),⟨(HW1.out.1.1).setCell (by simp<;>omega) _,?_⟩,⟨mv,o.set j qv,?_,w1,w2,w3⟩,HB1.out.setCell (by simp<;>omega) _⟩
  .rw[Bc _ _ _ _ (by simp<;>omega)];exact HW1.out.1.2
  .rw[J5,U8,show n-(pre.length+1)=j by have:=HJ.out;omega];exact HN.out
 case done=>
  rintro D xs W hD hx ⟨⟨r,o,hS,hO,hR,hU⟩,hB⟩ hK;rw[hx,Bq]at hS;have hv:=hS.done;have hol:o.length=n:=by rw[hS.len,HA.out]
  have hr:Row W (.slice (some ⟨w.heap.size+1+1,0,none⟩) n n) (b0p .u64 o):=by
   have:=Arr.row (n:=n) (c:=n) hO (by omega) nr (by unfold maxLen;omega);rwa[E7 (by omega)]at this
  have b3:=hU.cell 0;have b4:=hR.cell 0;simp only[K6,Cg]at b3 b4;obtain⟨HL,HV,HR,HS,HB,HK⟩:=zf hol hv hr hS.sm hB hK;clear hx hS hO hR hU hB hK hv hol hr
  gi_wp2
  refine wpIn_region_quiet_lit rfl (by kernel_rfl) (by kernel_rfl) ?_
  repeat (gi_big_quiet_step (fail))
  refine wpQuietIn_step (fun _ _ f hf=>trivial) (fun K2 hK2=>?_)
  go_simp
  have htr:∀ q,CallsIn Fence.wide 8 prog 254 #[.slice (some ⟨w.heap.size+1+1,0,none⟩) n n] (W.drewN q) fun e w''=>e=.returned (.slice (some ⟨w.heap.size+1+1,0,none⟩) (limbs (a / d)).length n)/\∃ m,w''=W.drewN m:=fun q=>by
   have:=f0q (W.drewN q) (some ⟨w.heap.size+1+1,0,none⟩) n o HS.out (by rw[HL.out];exact HR.out.drewN q);rw[HV.out.1,HL.out]at this;exact CallsIn.quiet_of_same (Ah.2 this)
  refine⟨_,htr,hK2 _ ?_⟩;clear hK2 K2 htr
  repeat (gi_big_quiet_step (fail))
  refine Mi ?_;intro _ hw';obtain⟨nq,rfl⟩:=hw'
  gi_wp2
  have hK3:(W.drewN nq).heap[D]?=some (.deferred (some [])):=HK.out;refine b0X hK3 (v:=.tuple #[.slice (some ⟨w.heap.size+1+1,0,none⟩) (limbs (a / d)).length n,.int .u64 (r:Int)]) (by simp[results,results312,go_sem]) ⟨⟨_,by rw[<- HV.out.2],?_⟩,?_⟩
  .have h1:=i0X HS.out (show Row W (.slice (some ⟨w.heap.size+1+1,0,none⟩) o.length n) (b0p .u64 o) by rw[HL.out];exact HR.out);rw[HV.out.1]at h1;exact IsN.put (W:=W.drewN nq) (Row.drewN h1 nq) hK3 _
  .exact (a0k (HB0.out.trans (HB.out.mono (by omega))) nq).trans (Lj (w:=w) nr _ D _ _ (by have:=Z0.out;omega) hK3 rfl rfl)
 case stop=>
  rintro D c pre W hD-h;exact h.elim
attribute [local go_sem] Oper.semAt_some
def j0D (w:World)(v u:Value)(a b:Nat)(ha:IsN .u64 w v a)(hb:IsN .u64 w u b)(hlt:a<b)(hla:(limbs a).length<=1000000):
 Calls prog 258 #[v,u] w fun e w'=>t0G .u64 (a / b) (a%b) e w'/\Below w.heap.size w w':=by
 obtain⟨HA,HB,HL,HQ,HR,HLA⟩:=zf ha hb (b0N hlt) (Ds hlt) (Bw hlt) hla;obtain⟨a1,c1,rfl,_⟩:=ha.openI;obtain⟨a2,c2,rfl,_⟩:=hb.openI;clear ha hb hlt hla;go_enter func258,ntmps258;go_wp2_with fail;refine nv (m0A _ _ _ a b HA.out HB.out HLA.out) fun w1 B1=>?_;rw[HL.out];go_wp2_with fail;go_ret2
 exact⟨⟨_,_,rfl,by rw[HQ.out];exact IsN.zero _ _,by rw[HR.out];exact HA.out.call B1.out⟩,B1.out⟩
def r0E {a b:Nat}(h:b<=a):b0g a b=0\/b0g a b=1:=by
 unfold b0g;split
 .omega
 .split<;>simp
def No:=@Nat.lt_trans
def l0g (w:World)(v u:Value)(a b:Nat)(ha:IsN .u64 w v a)(hb:IsN .u64 w u b)(hle:b<=a)(h0:0<b)(h1:b<1000000000)(hla:(limbs a).length<=1000000):
 Calls prog 258 #[v,u] w fun e w'=>t0G .u64 (a / b) (a%b) e w'/\Below w.heap.size w w':=by
 obtain⟨HA,HB,HLA⟩:=zg ha hb hla;have hord:=r0E hle;obtain⟨a1,c1,rfl,h1',_⟩:=ha.openI;obtain⟨a2,c2,rfl,h2',h3',h4'⟩:=hb.openI;have hl1:limbs b = [b]:=d0n h0 h1;obtain⟨g,o,rfl,hg,hc⟩:=h4' 0 b (by rw[hl1];rfl);rw[At]at hc;have HC:=hid hc;have hlen:(limbs b).length=1:=by rw[hl1];rfl
 rw[hlen]at HB h2' |-;clear ha hb hc h4' hl1 hlen hla;go_enter func258,ntmps258;go_wp2_with fail;refine nj (m0A _ _ _ a b HA.out HB.out HLA.out) fun w1 hb1=>?_;have d1:=(hb1.cell (p:=⟨g,o,none⟩) hg).trans HC.out;have B1:=hid hb1;clear hb1;obtain⟨t,ht⟩:=gn (b0g a b);rw[ht]at hord |-;have q0:decide (t<0)=false:=by simp;omega
 clear ht hord;go_wp2_with fail;refine ng (s0c _ _ a b (HA.out.call B1.out) h0 h1 HLA.out) fun v2 w2 hv2 hb2=>?_;obtain⟨B2,V2⟩:=zu hb2 hv2;clear hb2 hv2;have hrb:=hid (show a%b<18446744073709551616 from No (Il a h0) (by omega));go_wp2_with fail;refine ng (c1C _ (a%b) hrb.out) fun v3 w3 hv3 hb3=>?_;obtain⟨V3,B3⟩:=zu hv3 hb3;clear hv3 hb3;go_wp2_with fail;go_ret2
 exact⟨⟨_,_,rfl,V2.out.call B3.out,V3.out⟩,a0a (a0a B1.out B2.out) B3.out⟩
def KpQ (bs g K:Nat)(W W2:World):Prop:=W2.heap[bs]?=W.heap[bs]? /\ ((∃ Q,Arr .u64 161 W g Q/\Q.length=K)->∃ Q,Arr .u64 161 W2 g Q/\Q.length=K)
theorem KpQ.refl (bs g K:Nat)(W:World):KpQ bs g K W W:=⟨rfl,fun h=>h⟩
theorem KpQ.trans {bs g K:Nat}{A B C:World}(h:KpQ bs g K A B)(k:KpQ bs g K B C):KpQ bs g K A C:=⟨k.1.trans h.1,fun x=>k.2 (h.2 x)⟩
theorem KpQ.put {bs g K:Nat}{w:World}(hb:bs<w.heap.size)(W:World)(l:Nat)(o o':Obj)(hl:w.heap.size<=l)(h:W.heap[l]?=some o)(h1:o.isCells=false)(h2:o.isWalk=false):KpQ bs g K W (W.putObj l o'):=
 ⟨Ea (by omega),fun ⟨Q,hq,hq2⟩=>⟨Q,Blk.kept hq (Kd W l o') (fun r e=>by cases e;exact⟨_,h,h1⟩),hq2⟩⟩
def t0T {a b d A m:Nat}(hA:(limbs (a*d)).length=A)(hm:m<=A+1)(h0:0<m)(hb:1000000000 ^ (m-1)<=b)(hd:0<d):val ((limbs (a*d) ++ [0]).drop (A+1-m))<b*d:=by
 rw[List.drop_append_of_le_length (by omega),b0B];have h1:=d0B ((a0o (a*d)).drop (A+1-m));rw[Af,hA,show A-(A+1-m)=m-1 by omega]at h1;simp only[a0P,val_nil];have h2:b<=b*d:=Kf b hd;omega
def r0y {k:IntKind}{w wr w3:World}{t:TypeId}{v v3:Value}{s:List Nat}{z A:Nat}{o:Obj}(hl:s.length=A)(hO:wr.ownsRow w.heap.size t 1 v A (b0p k s))(hB:Below w.heap.size w wr)
 (h3:w3.ownsRow w.heap.size t 1 v3 (A+1) (b0p k s ++ [.int k (z:Int)])) (hg:(wr.alloc o).grownBy w3 v.ownBlock):
 w3.ownsRow w.heap.size t 1 v3 (s ++ [z]).length (b0p k (s ++ [z]))/\Below w.heap.size w w3:=by
 subst hl;exact f0k hO hB h3 hg
def De:=@Nat.le_of_lt
def y0t {a d L:Nat}(hL:(limbs a).length=L)(hd:d<1000000000):a*d<1000000000 ^ (L+1):=by
 have h:=a0g.1 (Nat.le_of_eq hL);rw[E9];exact Di (Ad a (De hd)) (Ii h (by omega))
def j0C (w:World)(v u:Value)(a b m:Nat)(ha:IsN .u64 w v a)(hb:IsN .u64 w u b)(hle:b<=a)(hn:(limbs b).length=m)(hm2:2<=m)(hla:(limbs a).length<=1000000):
 Calls prog 258 #[v,u] w fun e w'=>t0G .u64 (a / b) (a%b) e w'/\Below w.heap.size w w':=by
 obtain⟨i0,hi,hz0,hz1,hz2⟩:=Dx g0K;obtain⟨HA,HB⟩:=zu ha hb;have hord:=r0E hle;have hmn:=a0h hle;obtain⟨a1,c1,rfl,h1',_⟩:=ha.openI;obtain⟨a2,c2,rfl,h2',h3',h4'⟩:=hb.openI;obtain⟨x,hx⟩:∃ x,(limbs b)[m-1]?=some x:=⟨_,Q0 (by omega)⟩;obtain⟨g,o,rfl,hg,hc⟩:=h4' (m-1) x hx;have HC:=hid hc;have hn1:(limbs b).length=(m-1)+1:=by omega
 obtain⟨s1,s2,s3⟩:=k0E hn1 hx;obtain⟨t1,t2,_⟩:=i0Z hn1 hx;obtain⟨d,hd⟩:=gn (1000000000 / (x+1));rw[hd]at s1 s2 s3;obtain⟨HS,hdI⟩:=zu (show (limbs (b*d)).length=m by omega) (show ((1000000000:Int) / ((x:Int)+1))=(d:Int) from by rw[<- hd];rfl);rw[hn]at h2' hmn |-;obtain⟨L,hL⟩:=gn ((limbs a).length);rw[hL]at hmn h1' |-;have hla':L<=1000000:=by omega
 have hL':=hL;obtain⟨HN,HLA⟩:=zu hn hla;rw[hL]at HA;rw[hn]at HB;clear ha hb hc h4' hx hd s1 hL hn hla hle hn1;refine (Ah (n:=9)).1 ?_;refine Fj func258 rfl trivial ?_ rfl;simp only[ntmps258,An,E8,Ce,Nat.reduceAdd,Nat.reduceSub,Bu,Cl,Da,Cx,Dq,Cm]
 gi_wp2_with fail
 refine⟨trivial,(Ah.2 (m0A _ _ _ a b HA.out HB.out HLA.out)).mono ?_⟩;rintro e w1 ⟨rfl,hb1⟩;have d1:=(hb1.cell (p:=⟨g,o+(m-1),none⟩) hg).trans HC.out;have B1:=hid hb1;clear hb1;obtain⟨t,ht⟩:=gn (b0g a b);rw[ht]at hord |-;have q0:decide (t<0)=false:=by simp;omega
 clear ht hord;have q1:((m:Int)==1)=false:=by simp;omega
 gi_wp2_with fail
 clear q1;rw[hdI.out];obtain⟨W1,hW1⟩:=gn (w1.alloc (.cells #[.int .u64 (d:Int)] 161));obtain⟨BW1,SB⟩:=zu (show Below w.heap.size w W1 from by rw[<- hW1];exact B1.out.alloc B1.out.size _) (show Blk W1 w1.heap.size #[.int .u64 (d:Int)] 161 from by rw[<- hW1];exact Blk.new _ _ _);have hsz:=hid (show w1.heap.size<W1.heap.size from SB.out.lt)
 have SC:=hid (show IsN .u64 W1 (.slice (some ⟨w1.heap.size,0,none⟩) 1 1) d from by
  unfold IsN;rw[d0n s2 s3];exact Row.of_blk (n:=1) (c:=1) SB.out rfl (by unfold maxLen;omega) (fun i x hx=>by simpa[b0p]using hx) nr (by unfold maxLen;omega))
 have SL:=hid (show (limbs d).length<=1000000 from by rw[d0n s2 s3];simp);rw[hW1];clear hW1 d1;refine⟨trivial,(Ah.2 (h0F W1 _ _ a d (HA.out.call BW1.out) SC.out HLA.out SL.out)).mono ?_⟩;rintro e w2 ⟨⟨vm,rfl,hown⟩,hb2⟩;obtain⟨A,hA⟩:=gn ((limbs (a*d)).length);have hAL:L<=A:=by rw[<- hL',<- hA];exact a0h (Kf a s2)
 have hAU:A<=L+1:=by rw[<- hA];exact a0g.2 (y0t hL' s3)
 have HAD:=hid hA;rw[hA]at hown;obtain⟨O2,B2⟩:=zu hown hb2;obtain⟨am,cm,rfl⟩:=b0l hown;clear hown hb2 hA
 gi_wp2_with (gi_at_builtin;refine wpListIn_append_own _ rfl _ _ 124 rfl W1.heap.size 161 i0 (.int .u64 0) 1 8 Fy hi hz0 hz1 hz2 rfl (by decide) _ A _ rfl (O2.out.alloc _) ⟨w2.heap.size,0,none⟩ 1 1 [.int .u64 0] rfl rfl (Eu w2 (.int .u64 0) 161) (by simp[Value.oneCell']) (by unfold maxLen;omega) (by omega) (by have:=B2.out.size;simp;omega) ?_;intro v' w3 hown3 hgrow3 _;have HO3:=hid hown3;have HG3:=hid hgrow3;clear hown3 hgrow3)
 obtain⟨n1,n2⟩:=r0y (w:=W1) (v:=.slice am A cm) (s:=limbs (a*d)) (z:=0) HAD.out O2.out B2.out HO3.out HG3.out;obtain⟨us,hus⟩:=gn (limbs (a*d) ++ [0]);rw[hus]at n1;have hul:us.length=A+1:=by rw[<- hus,J5,HAD.out];rfl
 obtain⟨gu,cu,rfl,hgu,hcu,hcum,hPU⟩:=ArrP.of_owns n1 (by omega);obtain⟨HUS,HUL,PU3,BW3⟩:=zc hus hul hPU (show Below W1.heap.size W1 w3 from n2);have BX3:=qx BW1 n2;have hgul:=hPU.lt;rw[hul];rw[hul]at hcu;clear n1 n2 hus hul hPU O2 HO3 HG3;refine⟨trivial,(Ah.2 (h0F w3 _ _ b d (HB.out.call BX3.out) (SC.out.call BW3.out) (by rw[HN.out];omega) SL.out)).mono ?_⟩;rintro e w4 ⟨⟨vv,rfl,hvv⟩,hb4⟩;obtain⟨gv,cv,rfl,hgv,hcv,hcvm,hPV⟩:=ArrP.of_owns hvv (by rw[HS.out];omega);have B4:=hid hb4;have BX4:=qx BX3 hb4;have PV4:=hid hPV;have hgvl:=hPV.lt;rw[HS.out]at hcv |-;clear hvv hb4 hPV
 gi_wp2_with fail
 obtain⟨W5,hW5⟩:=gn ((w4.alloc (.cells #[.slice (some ⟨gu,0,none⟩) (A+1) cu] 124)).alloc (.cells #[.slice (some ⟨gv,0,none⟩) m cv] 124));have y9:Blk W5 w4.heap.size #[.slice (some ⟨gu,0,none⟩) (A+1) cu] 124:=by rw[<- hW5];exact (Blk.new w4 _ _).alloc _
 have y10:Blk W5 (w4.heap.size+1) #[.slice (some ⟨gv,0,none⟩) m cv] 124:=by rw[<- hW5];exact Blk.made _ _ _ (by simp)
 have B5:Below w4.heap.size w4 W5:=by rw[<- hW5];exact (br0.alloc nr _).alloc (by simp) _
 have z5:W5.heap.size=w4.heap.size+2:=by rw[<- hW5];simp
 have b9:=y9.cell 0;have b10:=y10.cell 0;simp only[K6,Cg]at b9 b10;have l9:w4.heap.size<W5.heap.size:=by omega
 have l10:w4.heap.size+1<W5.heap.size:=by omega
 obtain⟨Y9,Y10,HB5,Z5⟩:=zc y9 y10 B5 z5;obtain⟨K,hK⟩:∃ K,K=A+1-m:=⟨_,rfl⟩;have hKI:((A:Int)+1-(m:Int))=(K:Int):=by omega
 have hKL:K+m=A+1:=by omega
 have hmk:=fun W=>g0I K (by omega) W
 rw[hW5];clear hW5 y9 y10 B5 z5 hK
 gi_loopw [52] (fun _ wr=>wr=W5) (fun _ _=>0)
 case atStart=>rfl
 case round=>
  obtain rfl:=hrel
  gi_wp2_with fail
  refine⟨trivial,(Ah.2 (f0A _ _ _ _)).mono ?_⟩;rintro e w' ⟨rfl,rfl⟩
  gi_wp2_with fail
  obtain⟨W0,hW0⟩:=gn ((((wr.alloc (.cells #[.int .i64 m] 3)).alloc (.cells (madeCells #[.int .u64 0] K) 161)).alloc (.cells #[.slice (some ⟨wr.heap.size+1,0,none⟩) K K] 124)).alloc (.cells #[.slice (some ⟨wr.heap.size+1,0,none⟩) K K] 124));have y11:Blk W0 wr.heap.size #[.int .i64 m] 3:=by rw[<- hW0];exact (((Blk.new wr _ _).alloc _).alloc _).alloc _
  have y12:Blk W0 (wr.heap.size+1+1) #[.slice (some ⟨wr.heap.size+1,0,none⟩) K K] 124:=by rw[<- hW0];exact (Blk.made _ _ _ (by simp)).alloc _
  have y13:Blk W0 (wr.heap.size+1+1+1) #[.slice (some ⟨wr.heap.size+1,0,none⟩) K K] 124:=by rw[<- hW0];exact Blk.made _ _ _ (by simp)
  have yq:Arr .u64 161 W0 (wr.heap.size+1) (List.replicate K 0):=by
   rw[<- hW0];have:=Arr.made (wr.alloc (.cells #[.int .i64 m] 3)) .u64 161 K;rw[Lv]at this;exact (Blk.alloc this _).alloc _
  have B0:Below wr.heap.size wr W0:=by rw[<- hW0];exact (((br0.alloc nr _).alloc (by simp) _).alloc (by simp;omega) _).alloc (by simp;omega) _
  have z0:W0.heap.size=wr.heap.size+4:=by rw[<- hW0];simp
  obtain⟨BX0,PU0,V0,S0,Y9',Y10'⟩:=zf (a0a (a0a BX4.out HB5.out) B0) (((PU3.out.call B4.out).call HB5.out).call B0) ((PV4.out.call HB5.out).call B0) ((((SB.out.call BW3.out).call B4.out).call HB5.out).call B0) (Y9.out.call B0) (Y10.out.call B0);rw[hW0];obtain⟨Y11,Y12,Y13,YQ,Z0⟩:=zd y11 y12 y13 yq z0;have hw3:=B4.out.size;have hw1:=BW1.out.size;clear hW0 y11 y12 y13 yq B0 z0 l9 l10 b9 b10 hmk hKI;have i5:w4.heap.size+2<=wr.heap.size:=by have:=Z5.out;omega
  have i0':wr.heap.size+4<=W0.heap.size:=by have:=Z0.out;omega
  refine c0T (hM:=fun _ _ _=>trivial) (by omega) (gf:=310) (lb:=#[.pointer (some ⟨wr.heap.size+1+1+1,0,none⟩)]) rfl (Cw Nj (by kernel_rfl) rfl)
   (e0j (Kp:=KpQ (wr.heap.size+1+1+1) (wr.heap.size+1) K) (V:=fun _ _=>True) 8 (by omega) _ K K (some ⟨wr.heap.size+1,0,none⟩) (by omega) nr W0 (KpQ.refl _ _ _) KpQ.trans (fun W1 W2 b1 b2=>?hread)) KpQ.trans (KpQ.put (by omega)) br0 (fun _=>rfl)
   (fun pre W=>(∃ o Q,DivI (a*d) (b*d) m (A+1) (K-pre.length) o Q/\ArrP .u64 161 W gu o/\Arr .u64 161 W (wr.heap.size+1) Q)/\Keep2 W0 W gu (some (wr.heap.size+1)))
   (fun c pre W=>False)
   (fun s A B row hs hg hr=>⟨by
    obtain⟨o,Q,h1,h2,h3⟩:=hs.1;obtain⟨cs,h2a,h2b⟩:=h2;exact⟨o,Q,h1,⟨cs,h2a.kept hg (fun r e=>(hr r e).2),h2b⟩,Blk.kept h3 hg (fun r e=>(hr r e).2)⟩,hs.2.grown hg (fun k e=>.inr (.inr (hr k e).1))⟩)
   (fun c s A B row hs hg hr=>hs)
   ⟨⟨us,_,?start,PU0.out,YQ.out⟩,Keep2.refl _ _ _⟩ ?act ?assign ?body ?done ?stop
  case hread=>
   obtain⟨Q,hq,hql⟩:=b2.2 ⟨_,YQ.out.call b1,by simp⟩;refine⟨?_,fun i hi=>?_⟩
   .have h1:Blk W2 (wr.heap.size+1+1+1) #[.slice (some ⟨wr.heap.size+1,0,none⟩) K K] 124:=b2.1.trans (Y13.out.call b1);exact h1.cell 0
   .exact⟨_,0,_,rfl,by rw[F9];exact hq.cell (Q0 (by omega)),trivial⟩
  case start=>
   have h1:1000000000 ^ (m-1)<=b:=b0e.1 (by rw[HN.out];omega);have h2:b*d<=1000000000 ^ m:=De (a0g.1 (by rw[HS.out];exact O4 _));have hsu:Sm us:=by rw[<- HUS.out];exact (a0o _).append (Sm.cons (by omega) Sm.nil)
   have hvu:val us=a*d:=by rw[<- HUS.out,b0B,a0z];simp[a0P]
   have:=DivI.start (U:=a*d) (V:=b*d) (n:=m) (L:=A+1) h2 hsu HUL.out (by omega) hvu (by
    rw[<- HUS.out];exact t0T HAD.out (by omega) (by omega) h1 s2)
   rw[show A+1-m=K by omega]at this;simpa using this
  case assign=>
   intro l x W KK hK
   gi_wp2
   exact hK
  case stop=>
   rintro D c pre W hD-h;exact h.elim
  case done=>
   rintro D xs W hD hx ⟨⟨o2,Q,hDI,hU,hQ⟩,hKp⟩ hK;rw[hx,Bq]at hDI;obtain⟨r1,r2,r3⟩:=hDI.done (by omega);obtain⟨hfin,R3⟩:=zu (s0V (a:=a) (b:=b) s2 r1 r2) r3
   have hlen:=hid (show (limbs (val (o2.take m))).length<=1000000 from by
    rw[r3];have:=a0h (De r2);rw[HS.out]at this;omega)
   obtain⟨hol,hql⟩:=zu hDI.lo (show Q.length=K from by rw[hDI.lq];omega);have k9:=hKp.blk Y9'.out (by omega) (by simp;omega);have k11:=hKp.blk Y11.out (by omega) (by simp);have k12:=hKp.blk Y12.out (by omega) (by simp);have ks:=hKp.blk S0.out (by have:=hsz.out;omega) (by have:=hsz.out;simp;omega);have c9:=k9.cell 0;have c11:=k11.cell 0;have c12:=k12.cell 0;have cs0:=ks.cell 0;simp only[K6,Cg]at c9 c11 c12 cs0;obtain⟨ru,smu,smq,HQ,HKP,HK,BW⟩:=kx (show Row W (.slice (some ⟨gu,0,none⟩) m cu) (b0p .u64 (o2.take m)) from hU.row (by rw[hol.out];omega) (by omega) hcum) (hDI.so.take m) hDI.sq hQ hKp hK (show Below w.heap.size w W from BX0.out.trans (hKp.below (B:=w.heap.size) (by omega) (by omega) (fun x e=>by injection e;omega)));have f1:(m:Int)<=(cu:Int):=by omega
   clear hx hDI r1 r2 r3 k9 k11 k12 ks hU hQ hKp hK;have htr:Calls prog 254 #[.slice (some ⟨gu,0,none⟩) m cu] W.drew fun e w'=>e=.returned (.slice (some ⟨gu,0,none⟩) (limbs (val o2)).length cu)/\w'=W.drew:=by
    have:=f0q W.drew (some ⟨gu,0,none⟩) cu (o2.take m) smu.out (by rw[M6 (by rw[hol.out];omega)];exact ru.out.drew);rwa[M6 (by rw[hol.out];omega),R3.out]at this
   have hin:=hid (show IsN .u64 W.drew (.slice (some ⟨gu,0,none⟩) (limbs (val o2)).length cu) (val o2) from by
    have:=i0X (c:=cu) (a:=some ⟨gu,0,none⟩) smu.out (by rw[M6 (by rw[hol.out];omega)];exact ru.out.drew);rwa[R3.out]at this)
   obtain⟨hlen2,HTR⟩:=zu (show (limbs (val o2)).length<=1000000 from by have:=hlen.out;rwa[R3.out]at this) htr;clear htr
   gi_wp2
   refine wpIn_wide.2 ?_
   go_region_held3 (fun w'=>w'.cell? ⟨w4.heap.size,0,none⟩=some (.slice (some ⟨gu,0,none⟩) (A+1) cu)/\w'.cell? ⟨wr.heap.size,0,none⟩=some (.int .i64 (m:Int))/\w'.cell? ⟨w1.heap.size,0,none⟩=some (.int .u64 (d:Int)))
    (first
     | exact⟨c9,c11,cs0⟩
     | exact⟨(B6.out.cell (p:=⟨_,_,_⟩) (a0e (a:=⟨w4.heap.size,0,none⟩) c9)).trans c9,(B6.out.cell (p:=⟨_,_,_⟩) (a0e (a:=⟨wr.heap.size,0,none⟩) c11)).trans c11,(B6.out.cell (p:=⟨_,_,_⟩) (a0e (a:=⟨w1.heap.size,0,none⟩) cs0)).trans cs0⟩)
    (first
     | (go_at_call 254;refine HTR.out.mono ?_;rintro e w' ⟨rfl,rfl⟩)
     | (go_at_call 312;refine ng (s0c _ _ (val o2) d hin.out s2 s3 hlen2.out) fun v6 w6 hv6 hb6=>?_;have V6:=hid hv6;have B6:=hid (show Below W.heap.size W w6 from⟨hb6.os,hb6.tape,hb6.output,hb6.size,hb6.block⟩);clear hv6 hb6))
   have c12':=(B6.out.cell (p:=⟨_,_,_⟩) (a0e (a:=⟨wr.heap.size+1+1,0,none⟩) c12)).trans c12;have HQ6:=hid (HQ.out.call B6.out)
   have rq:=hid (show Row w6 (.slice (some ⟨wr.heap.size+1,0,none⟩) Q.length K) (b0p .u64 Q) from by
    have:=HQ6.out.row (n:=K) (c:=K) (by rw[hql.out];exact O4 _) nr (by unfold maxLen;omega);rw[hql.out];rwa[E7 (by rw[hql.out];exact O4 _)]at this)
   clear c9 c11 c12 cs0;have HK6:=hid (show w6.heap[D]?=some (.deferred (some [])) from (B6.out.block D (I7.1 HK.out).1).trans HK.out)
   gi_wp2_with (refine⟨trivial,?_⟩;gi_at_call 254;have htq:=f0q w6 (some ⟨wr.heap.size+1,0,none⟩) K Q smq.out rq.out;rw[hql.out]at htq;refine (Ah.2 htq).mono ?_;clear htq;rintro e w' ⟨rfl,rfl⟩)
   refine b0X HK6.out (v:=.tuple #[.slice (some ⟨wr.heap.size+1,0,none⟩) (limbs (val Q)).length K,v6]) (by simp[results,results258,go_sem]) ⟨⟨_,_,rfl,?_,?_⟩,?_⟩
   .have h1:=i0X smq.out rq.out;have h2:=IsN.put h1 HK6.out (.deferred none);rw[<- hfin.out.1];exact h2
   .have h2:=IsN.put V6.out HK6.out (.deferred none);rwa[hfin.out.2]at h2
   .exact (a0a BW.out B6.out).trans (Lj (w:=w) nr _ D _ _ (by omega) HK6.out rfl rfl)
  case body=>
   rintro l pre ⟨j,z⟩ W ⟨hj,-⟩ ⟨⟨o2,Q,hD,hU,hQ⟩,hKp⟩;dsimp only at hj;rw[show K-pre.length=j+1 by omega]at hD;have hol:o2.length=A+1:=hD.lo;have hql:Q.length=K:=by rw[hD.lq];omega
   have hV:=hid (a0z (b*d));have hSI:=hid (show StepIn o2 (limbs (b*d)) j m from⟨hm2,by omega,HS.out,by rw[hol];omega,by rw[hol];omega,hD.so,a0o _,l0c (n:=m-1) (by rw[HS.out];omega),by rw[hV.out];exact hD.win (by omega)⟩);obtain⟨zq,hzq⟩:∃ z,Q[j]?=some z:=⟨_,Q0 (by omega)⟩;have k9:=hKp.blk Y9'.out (by omega) (by simp;omega);have k10:=hKp.blk Y10'.out (by omega) (by simp;omega);have k11:=hKp.blk Y11.out (by omega) (by simp);have k12:=hKp.blk Y12.out (by omega) (by simp);have kv:ArrP .u64 161 W gv (limbs (b*d)):=by
    obtain⟨cs,h1,h2⟩:=V0.out;exact⟨cs,hKp.blk h1 (by omega) (by simp;omega),h2⟩
   have rv:=hid (show Row W (.slice (some ⟨gv,0,none⟩) m cv) (b0p .u64 (limbs (b*d))) from by
    have:=kv.row (n:=m) (c:=cv) (by rw[HS.out];exact O4 _) hcv hcvm;rwa[E7 (by rw[HS.out];exact O4 _)]at this)
   have c9:=k9.cell 0;have c10:=k10.cell 0;have c11:=k11.cell 0;have c12:=k12.cell 0;simp only[K6,Cg]at c9 c10 c11 c12;obtain⟨HJ,HD,HU,HQ,HKP,HQL,HZQ⟩:=kx hj hD hU hQ hKp hql hzq;have f1:=qw j
   have f2:(j:Int)<(K:Int):=by omega
   have f3:(j:Int)+(m:Int)+1<=(cu:Int):=by omega
   have f4:(j:Int)<=(j:Int)+(m:Int)+1:=by omega
   have hjm:j+m<=2000002:=by omega
   clear hj hD hU hQ hKp hql hzq hol k9 k10 k11 k12 kv;have e1:IntKind.i64.wrap ((j:Int)+m)=(j:Int)+m:=U0 _ (by omega);have e2:IntKind.i64.wrap ((j:Int)+m+1)=(j:Int)+m+1:=U0 _ (by omega);have e3:((j:Int)+m+1).toNat=j+m+1:=by omega
   gi_wp2
   refine e0q 10 (fun W'=>W'.cell? ⟨wr.heap.size+1+1,0,none⟩=some (.slice (some ⟨wr.heap.size+1,0,none⟩) K K)/\W'.cell? ⟨w4.heap.size,0,none⟩=some (.slice (some ⟨gu,0,none⟩) (A+1) cu)/\W'.cell? ⟨wr.heap.size,0,none⟩=some (.int .i64 (m:Int))/\W'.cell? ⟨w4.heap.size+1,0,none⟩=some (.slice (some ⟨gv,0,none⟩) m cv)) (by kernel_rfl) (by kernel_rfl) (by kernel_rfl) rfl (by kernel_rfl) ⟨c12,c9,c11,c10⟩ ?_;simp only[Gr,Du]
   iterate 10
    apply Exists.intro
    refine⟨.inl ⟨by rfl,?_⟩,?_⟩
    ·(intro W' hW'
      obtain⟨q1,q2,q3,q4⟩:=hW'
      go_simp
      try (with_reducible rfl))
    simp only[Act.put,Bv,Kg,Jt]
   refine a0c (i:=10) (by kernel_rfl) rfl rfl ?_;go_wp2_with fail;rw[show j+m+1-j=m+1 by omega];refine (p0A _ gu j _ o2 gv 0 _ (limbs (b*d)) m hSI.out (HU.out.drewN 1) (rv.out.drewN 1) (by omega)).mono ?_;rintro e w5 ⟨he,o5,hw5,hA5,hg5⟩;rw[hV.out]at he hw5;have HN5:=hid (HD.out.next (by omega) hw5);obtain⟨qv,hqv⟩:=gn (val ((o2.drop j).take (m+1)) / (b*d));rw[hqv]at he HN5;subst he;obtain⟨A5,G5⟩:=zu hA5 (show W.grownBy w5 (some gu) from⟨hg5.os,hg5.tape,hg5.output,hg5.size,hg5.block⟩);have Q5:=hid (Arr.gb HQ.out G5.out (by omega));have s12:=d0r G5.out c12 (by simp<;>omega);have s9:=d0r G5.out c9 (by simp<;>omega);have s11:=d0r G5.out c11 (by simp<;>omega);have s10:=d0r G5.out c10 (by simp<;>omega);have d3:=Q5.out.cell HZQ.out;have d4:=Q5.out.free j;clear hw5 hA5 hg5 hqv c9 c10 c11 c12;go_wp2_with fail;refine⟨⟨s12,s9,s11,s10⟩,a0c (i:=11) (by kernel_rfl) rfl rfl ?_⟩;go_wp2_with fail;refine⟨⟨s12,s9,s11,s10⟩,a0c (i:=12) (by kernel_rfl) rfl rfl ?_⟩;go_wp2_with fail;have q5:=Q5.out.set j qv;refine⟨⟨?_,?_,?_,?_⟩,J8 (by kernel_rfl) ?_ _⟩
   .rw[Fq _ _ _ _ (by simp<;>omega)];exact s12
   .rw[Fq _ _ _ _ (by simp<;>omega)];exact s9
   .rw[Fq _ _ _ _ (by simp<;>omega)];exact s11
   .rw[Fq _ _ _ _ (by simp<;>omega)];exact s10
   simp only[b0b]
   gi_wp2
   have k13:=HKP.out.blk Y13.out (by omega) (by simp<;>omega);have l13:=k13.lt;refine⟨(KeepsFrom.of_grownBy G5.out (fun k e=>by injection e;omega)).trans ((Ai _ _ _).from _),⟨?_,fun _=>⟨_,q5,by rw[Bj,HQL.out]⟩⟩,⟨o5,_,?_,A5.out.other (by simp<;>omega) _,q5⟩,(HKP.out.grown G5.out (fun k e=>by injection e;omega)).set (.inr (.inl rfl)) _⟩
   .rw[Bc _ _ _ _ (by simp<;>omega)];exact G5.out.block _ l13 (by simp<;>omega)
   .rw[J5,U8,show K-(pre.length+1)=j by have:=HJ.out;omega];exact HN5.out
def j0F (w:World)(v u:Value)(a b:Nat)(ha:IsN .u64 w v a)(hb:IsN .u64 w u b)(h0:0<b)(hla:(limbs a).length<=1000000):
 Calls prog 258 #[v,u] w fun e w'=>t0G .u64 (a / b) (a%b) e w'/\Below w.heap.size w w':=by
 by_cases hlt:a<b
 .exact j0D w v u a b ha hb hlt hla
 .by_cases h1:b<1000000000
  .exact l0g w v u a b ha hb (by omega) h0 h1 hla
  .refine j0C w v u a b _ ha hb (by omega) rfl ?_ hla;have:1<(limbs b).length:=b0e.2 (by omega);omega
end
section
def Lo:=@Nat.gcd_comm
def b1s (w:World)(v u:Value)(a b:Nat)(ha:IsN .u64 w v a)(hb:IsN .u64 w u b)(hla:(limbs a).length<=1000000)(hlb:(limbs b).length<=1000000):
 Calls prog 253 #[v,u] w fun e w'=>i0e .u64 (Nat.gcd a b) e w'/\Below w.heap.size w w':=by
 obtain⟨HA,HB,LA,LB⟩:=zc ha hb hla hlb;clear ha hb hla hlb;go_enter func253,ntmps253;go_wp2_with fail
 go_loopw [0,1,5,6] (fun x y q r wr=>∃ m n:Nat,Hid (IsN .u64 wr x m)/\Hid (IsN .u64 wr y n)/\Hid ((limbs m).length<=1000000)/\Hid ((limbs n).length<=1000000)/\Hid (Nat.gcd m n=Nat.gcd a b)/\Hid (Below w.heap.size w wr))
  (fun x y q r wr=>u0V .u64 wr y)
 case atStart=>exact⟨a,b,HA,HB,LA,LB,rfl,J4 _ _⟩
 case round=>
  obtain⟨m,n,hx,hy,hm,hn,hg,hB⟩:=hrel;have hnum:=hid (g0G hy.out);obtain⟨a1,c1,rfl,h1,h1',h1''⟩:=hx.out.openI;obtain⟨a2,c2,rfl,h2,h2',h2''⟩:=hy.out.openI;clear h1'' h2'';by_cases h0:n=0
  .subst h0;have hl:(limbs 0).length=0:=by rw[limbs_zero];rfl
   rw[hl]at *;clear hl;go_wp2_with fail;go_ret
   exact⟨⟨_,rfl,by rw[<- hg.out,Nat.gcd_zero_right];exact hx.out⟩,hB.out⟩
  .have hpos:0<(limbs n).length:=Gp.2 (fun e=>h0 (b0Y.1 e));go_wp2_with fail;refine (j0F _ _ _ m n hx.out hy.out (by omega) hm.out).mono ?_;rintro e w1 ⟨⟨v1,v2,rfl,hv1,hv2⟩,hb1⟩;have V2:=hid hv2;have B1:=qx hB hb1;obtain⟨Y1,hlt⟩:=zu (hy.out.call hb1) (Il m (y:=n) (by omega));have hll:=hid (show (limbs (m%n)).length<=1000000 from J0 (a0h (De hlt.out)) hn.out);have hgg:=hid (show Nat.gcd n (m%n)=Nat.gcd a b from by rw[<- hg.out,Lo m n,Nat.gcd_rec n m,Lo]) ;clear hv1 hv2 hb1;go_wp2_with fail;go_roundw
   case rel=>exact⟨n,m%n,Y1,V2,hn,hll,hgg,B1⟩
   case measure=>rw[g0G V2.out,hnum.out];exact hlt.out
def c0L {n K:Nat}(h:nDigits n<=9*K):(limbs n).length<=K:=by
 refine a0g.2 ?_;have h1:=Ch n;have h2:10 ^ nDigits n<=10 ^ (9*K):=J6 (by omega) h;rw[Mr]at h2;exact J7 h1 h2
def a0n {n:Nat}(h:nDigits n<=4000):(limbs n).length<=445:=c0L (by omega)
def a0H {a b p q:Nat}(ha:(limbs a).length<=p)(hb:(limbs b).length<=q):(limbs (a*b)).length<=p+q:=by
 refine a0g.2 ?_;have h1:=a0g.1 ha;have h2:=a0g.1 hb;rw[Be];exact Ot h1 h2
theorem IsN.cast {k:IntKind}{w:World}{v:Value}{m n:Nat}(h:IsN k w v m)(e:m=n):IsN k w v n:=e ▸ h
def b0o:nDigits 1=1:=He (by omega)
def c0J:nDigits 0=1:=He (by omega)
open Go.Shelf
def b1f {n A:Nat}(h:nDigits n<=A):n<10 ^ A:=J7 (Ch n) (J6 (by omega) h)
def b1e {a b A B:Nat}(ha:nDigits a<=A)(hb:nDigits b<=B)(h0:0<A+B):nDigits (a*b)<=A+B:=a0l h0 (d0N (b1f ha) (b1f hb))
def w0C (n:Nat):0<nDigits n:=by
 rcases H8 (nDigits n) with e | e
 .rw[<- I9]at e;exact absurd (Aw e) (e0h n)
 .exact e
def o0C (s:ByteArray):Bool:=s.data.toList.all fun b=>b==48 || b==49
def k0i (s:ByteArray):Int:=if o0C s=true then 0 else 3
def p0Y:∀ (j:Nat) b,(⟨#[48,49]⟩:ByteArray).data.toList[j]?=some b->b.toNat<128:=ascii_of_all (by decide)
def t0y (s:ByteArray):(Lib.trimS s.data.toList [48,49]).isEmpty=o0C s:=by
 rw[Bk,List.isEmpty_iff,n0f,o0C,Bz];refine forall_congr' fun b=>forall_congr' fun _=>?_
 rw[List.contains_iff_mem];simp
def m0Z (w:World)(s:ByteArray)(hs:s.size<=100000000):
 qb 134 #[.string s] w (.int .i64 (k0i s)):=by
 have htr:=hid (Tryz.strings_Trim s ⟨#[48,49]⟩ w (by omega) (by decide) p0Y);have hb:=t0y s;obtain⟨r,hr⟩:=gn (Lib.trimS s.data.toList [48,49]);have e0:(⟨#[48,49]⟩:ByteArray).data.toList = [48,49]:=rfl;rw[e0,hr]at htr;rw[hr]at hb;cases r with
 | nil=>
  have e1:k0i s=0:=J3 hb.symm;rw[e1];clear hb hr e1;go_enter func134,ntmps134;go_wp2_with fail;refine ny htr fun w1 hb1=>?_;go_wp2_with fail;go_ret
  exact⟨rfl,hb1⟩
 | cons b r=>
  have e1:k0i s=3:=J2 (by rw[<- hb];simp);rw[e1];clear hb hr e1;go_enter func134,ntmps134;go_wp2_with fail;refine ny htr fun w1 hb1=>?_;go_wp2_with fail;go_ret
  exact⟨rfl,hb1⟩
def c0D (s:ByteArray):Int:=if o0C s=true then (if 256<s.size then 4 else 0) else 3
def i0i (l:List ByteArray):List Value:=l.map Value.string
@[simp] theorem strs_length (l:List ByteArray):(i0i l).length=l.length:=by simp[i0i]
def t0X {l:List ByteArray}{i:Nat}{b:ByteArray}(h:l[i]?=some b):(i0i l)[i]?=some (.string b):=by simp[i0i,h]
end
section
def sgn (m:Bool)(n:Nat):Int:=if m=true then -(n:Int) else n
def b0r (m:Bool)(n:Nat):(sgn m n).natAbs=n:=by cases m<;>simp[sgn]
def n0u (m:Bool):sgn m 0=0:=by cases m<;>simp[sgn]
def l0Z {m:Bool}{n:Nat}(h:0<n):decide (sgn m n<0)=m:=by cases m<;>simp[sgn]<;>omega
def i0o (z:Int):sgn (decide (z<0)) z.natAbs=z:=by
 unfold sgn;by_cases h:z<0<;>simp[h]<;>omega
def qmk (m:Bool)(n d:Nat):Rat:=mkRat (sgn m n) d
def x0y (m:Bool){n g:Nat}(h:g∣n):sgn m n / (g:Int)=sgn m (n / g):=by
 cases m
 .simp[sgn]
 .simp only[sgn,Ew];rw[Int.neg_ediv_of_dvd (Int.natCast_dvd_natCast.2 h)];simp
def Kh:=@Rat.num_mkRat
def h0t {m:Bool}{n d:Nat}(hd:0<d):(qmk m n d).num=sgn m (n / Nat.gcd n d):=by
 unfold qmk;rw[Kh,J2 (by omega),b0r,Lo,x0y m (Nat.gcd_dvd_left n d)]
def Oj:=@Rat.den_mkRat
def j0r {m:Bool}{n d:Nat}(hd:0<d):(qmk m n d).den=d / Nat.gcd n d:=by
 unfold qmk;rw[Oj,J2 (by omega),b0r,Lo]
def n0O (m:Bool)(d:Nat):qmk m 0 d=0:=by unfold qmk;rw[n0u,Rat.zero_mkRat]
def Lk:=@Rat.mkRat_self
def u0G (q:Rat):qmk (decide (q.num<0)) q.num.natAbs q.den=q:=by unfold qmk;rw[i0o,Lk]
structure IsQ (k:IntKind)(w:World)(v:Value)(q:Rat):Prop where
 ex:∃ N D,v=.agg #[.bool (decide (q.num<0)),N,D]/\IsN k w N q.num.natAbs/\IsN k w D q.den
theorem IsQ.call {k:IntKind}{w w':World}{v:Value}{q:Rat}(h:IsQ k w v q)(hb:Below w.heap.size w w'):IsQ k w' v q:=by
 obtain⟨N,D,rfl,h1,h2⟩:=h.ex;exact⟨N,D,rfl,h1.call hb,h2.call hb⟩
def Ge:=@Nat.gcd_pos_of_pos_left
theorem IsQ.mk' {k:IntKind}{w:World}{N D:Value}{m:Bool}{n d:Nat}(hn:0<n)(hd:0<d)(h1:IsN k w N (n / Nat.gcd n d))(h2:IsN k w D (d / Nat.gcd n d)):IsQ k w (.agg #[.bool m,N,D]) (qmk m n d):=by
 have hg:0<n / Nat.gcd n d:=Nat.div_pos (Nat.gcd_le_left d hn) (Ge d hn);refine⟨N,D,?_,?_,?_⟩
 .rw[h0t hd,l0Z hg]
 .rw[h0t hd,b0r];exact h1
 .rw[j0r hd];exact h2
theorem IsQ.zero_ {k:IntKind}{w:World}{N D:Value}(h1:IsN k w N 0)(h2:IsN k w D 1):IsQ k w (.agg #[.bool false,N,D]) 0:=⟨N,D,rfl,h1,h2⟩
def f0E (k:IntKind)(q:Rat)(e:Ending)(w':World):Prop:=∃ v,e=.returned v/\IsQ k w' v q
def e0A {s:ByteArray}(h:fB s=true):s=a0f (bN s):=by
 have h1:=e0J (a0W.1 h);apply Kc
 show s.data=(decDigits (dv s.data.toList)).toArray
 rw[<- h1]
def c1k {s:ByteArray}(h:fB s=true)(hs:¬ 1000<s.size):bN s<10 ^ eN:=by
 have h1:=v0I (f0u h);have e:s.data.toList.length=s.size:=Bh;exact J7 h1 (J6 (by omega) (by rw[e];unfold eN;omega))
def b0Z {s:ByteArray}(h:iM s=false):iD s=s:=by
 unfold iM at h;unfold iD Lib.trimPrefix;rw[h]
 rfl
def g0E {p:ByteArray}(he:qE p=0)(hm:¬ iM (cW p)=true)(hl:¬ (1000<(cW p).size\/1000<(qD p).size)):
 cW p=a0f (bN (cW p))/\qD p=a0f (bN (qD p))/\bN (cW p)<10 ^ eN/\bN (qD p)<10 ^ eN/\c0i (cW p).data.toList=0/\c0i (qD p).data.toList=0:=by
 have h1:=j0s he;have hm':iM (cW p)=false:=by simpa using hm
 have hW:fB (cW p)=true:=by
  have:=d0q (c0o h1.1);rwa[b0Z hm']at this
 have hD:=j0t h1.1;have l1:¬ 1000<(cW p).size:=fun h=>hl (.inl h)
 have l2:¬ 1000<(qD p).size:=fun h=>hl (.inr h)
 have s1:(cW p).data.toList.length=(cW p).size:=Bh;have s2:(qD p).data.toList.length=(qD p).size:=Bh;exact⟨e0A hW,e0A hD,c1k hW l1,c1k hD l2,f0V (a0W.1 hW) (by omega),f0V (a0W.1 hD) (by omega)⟩
def w0B (l:List UInt8):Prop:=∀ b∈l,b≠47
theorem s0i:∀ {l:List UInt8},w0B l->Lib.index l [47] = -1
 | [],_=>rfl
 | b::l,h=>by
  have h1:b≠47:=h b (Dg ..);have h2:=s0i (l:=l) (fun x hx=>h x (Br _ hx));have h3:((47:UInt8)==b)=false:=by rw[M5];exact fun e=>h1 e.symm
  simp[Lib.index,List.isPrefixOf,h2,h3]
def Jd:=@Bool.false_and
theorem y0C:∀ {l r:List UInt8},w0B l->Lib.index (l++47::r) [47]=l.length
 | [],r,_=>by simp[Lib.index,List.isPrefixOf]
 | b::l,r,h=>by
  have h1:b≠47:=h b (Dg ..);have h2:=y0C (l:=l) (r:=r) (fun x hx=>h x (Br _ hx));have h3:((47:UInt8)==b)=false:=by rw[M5];exact fun e=>h1 e.symm
  have h4:((l.length:Int) == -1)=false:=by rw[M5];omega
  simp only[Cm,Lib.index,List.isPrefixOf,h3,h2,h4,Jd];simp
def j0Z {l:List UInt8}(h:w0B l):Lib.cut l [47]=(l,[],false):=by
 unfold Lib.cut;rw[J2 (by rw[s0i h];decide)]
def t0h {l r:List UInt8}(h:w0B l):Lib.cut (l++47::r) [47]=(l,r,true):=by
 unfold Lib.cut;rw[J3 (by rw[y0C h];omega),y0C h];simp[List.drop_append]
theorem g0z:∀ s:List UInt8,w0B s\/∃ A B,w0B A/\s=A++47::B
 | []=>.inl (fun b h=>by cases h)
 | b::l=>by
  by_cases hb:b=47
  .exact .inr ⟨[],l,fun b h=>(by cases h),by rw[hb];rfl⟩
  .rcases g0z l with h | ⟨A,B,hA,e⟩
   .exact .inl (fun x hx=>by
     rcases Ck.1 hx with rfl | hx
     .exact hb
     .exact h x hx)
   .exact .inr ⟨b::A,B,fun x hx=>(by
     rcases Ck.1 hx with rfl | hx
     .exact hb
     .exact hA x hx),by rw[e];rfl⟩
def v0a {l:List UInt8}(h:allDig l):w0B l:=fun b hb e=>by
 have:=a0U.1 (h b hb);rw[e]at this;simp at this
def txB (m:Bool)(n d:Nat):ByteArray:=⟨((if m=true then [45] else [])++(decDigits n++(if d=1 then [] else 47::decDigits d))).toArray⟩
def txQ (q:Rat):ByteArray:=txB (decide (q.num<0)) q.num.natAbs q.den
def b0f {a b:ByteArray}(h:a.data.toList=b.data.toList):a=b:=by
 apply Kc
 exact Array.toList_inj.1 h
def b0U (m:Bool)(n d:Nat):(txB m n d).data.toList=(if m=true then [45] else [])++(decDigits n++(if d=1 then [] else 47::decDigits d)):=by simp[txB]
def q0m (m:Bool)(n:Nat):w0B ((if m=true then [45] else [])++decDigits n):=by
 intro b hb;rcases Ie.1 hb with h | h
 .cases m<;>simp at h
  rw[h];decide
 .exact v0a (b0F n) b h
def t0g (m:Bool)(n d:Nat):Lib.cut (txB m n d).data.toList [47]=((if m=true then [45] else [])++decDigits n,if d=1 then [] else decDigits d,!decide (d=1)):=by
 rw[b0U,<- Au];by_cases h:d=1
 .rw[J3 h,Cz,j0Z (q0m m n),J3 h];simp[h]
 .rw[J2 h,t0h (q0m m n),J2 h];simp[h]
def z0x (m:Bool)(n d:Nat):(cW (txB m n d)).data.toList=(if m=true then [45] else [])++decDigits n:=by simp[cW,t0g]
def c1h (m:Bool)(n d:Nat):(cB (txB m n d)).data.toList=if d=1 then [] else decDigits d:=by simp[cB,t0g]
def z0y (m:Bool)(n d:Nat):cS (txB m n d) = !decide (d=1):=by simp[cS,t0g]
def a1W (m:Bool)(n d:Nat):qD (txB m n d)=a0f d:=by
 unfold qD;rw[z0y];by_cases h:d=1
 .rw[h];rw[J2 (by simp)];unfold a0f;rw[f0X]
 .rw[J3 (by simp[h])];apply b0f
  rw[c1h,J2 h,a0t]
def f0n (n:Nat):List.isPrefixOf [(45:UInt8)] (decDigits n)=false:=by
 cases h:decDigits n with
 | nil=>rfl
 | cons b l=>
  have:=a0U.1 (b0F n b (by rw[h];exact Dg ..));have h3:((45:UInt8)==b)=false:=by
   rw[M5];rintro rfl;simp at this
  simp[List.isPrefixOf,h3]
def y0G (m:Bool)(n d:Nat):iM (cW (txB m n d))=m:=by
 unfold iM Lib.hasPrefix;rw[z0x];cases m
 .simpa using f0n n
 .simp[List.isPrefixOf]
def y0H (m:Bool)(n d:Nat):iD (cW (txB m n d))=a0f n:=by
 apply b0f
 have h:=y0G m n d;unfold iM at h;unfold iD Lib.trimPrefix;rw[h,z0x,a0t];cases m<;>simp
def o0E (m:Bool)(n d:Nat):bN (iD (cW (txB m n d)))=n:=by rw[y0H,b0A]
def o0D (m:Bool)(n d:Nat):bN (qD (txB m n d))=d:=by rw[a1W,b0A]
def b0W {a b:Nat}(h:a≠b):a0f a≠a0f b:=fun e=>h (by rw[<- b0A a,e,b0A])
def a0q:a0f 0=⟨#[48]⟩:=by unfold a0f;rw[c0f]
def c0e:a0f 1=⟨#[49]⟩:=by unfold a0f;rw[f0X]
def o0i (n:Nat):fB (a0f n)=true:=by unfold fB;rw[a0t];exact l0m n
def c1M {m:Bool}{n d:Nat}(hg:Nat.gcd n d=1)(hd:0<d)(hm:m=true->n≠0)(h1:nDigits n<=4000)(h2:nDigits d<=4000):qE (txB m n d)=0:=by
 refine c1N ?_ ?_ ?_
 .unfold qB iB;rw[y0H,y0G,z0y,o0i];have e1:(m && decide (a0f n=⟨#[48]⟩))=false:=by
   cases m
   .rfl
   .rw[<- a0q];simpa using b0W (hm rfl)
  rw[e1];by_cases h:d=1
  .simp[h]
  .have e2:cB (txB m n d)=a0f d:=by
    apply b0f
    rw[c1h,J2 h,a0t]
   have hn:n≠0:=fun e=>by rw[e,Nat.gcd_zero_left]at hg;exact h hg
   rw[e2,o0i,<- a0q,<- c0e];have q1:=b0W hn;have q2:=b0W (show d≠0 by omega);have q3:=b0W h;simp[q1,q2,q3]
 .unfold qL;rw[y0H,a1W,a0y,a0y];simp;omega
 .unfold qG;rw[o0E,o0D];simp[hg]
def vQ (s:ByteArray):Rat:=qmk (iM (cW s)) (bN (iD (cW s))) (bN (qD s))
def b1K {s:ByteArray}(h:fB s=true)(h0:s≠⟨#[48]⟩):0<bN s:=by
 rcases H8 (bN s) with e | e
 .have:=e0A h;rw[e,a0q]at this;exact absurd this h0
 .exact e
def Ly:=@Bool.or_eq_false_iff
def Ac:=@decide_eq_false_iff_not
def Of:=@Nat.gcd_one_right
def t0N {s:ByteArray}(h:qE s=0):Nat.gcd (bN (iD (cW s))) (bN (qD s))=1/\0<bN (qD s)/\(iM (cW s)=true->bN (iD (cW s))≠0)/\nDigits (bN (iD (cW s)))<=4000/\nDigits (bN (qD s))<=4000/\s=txB (iM (cW s)) (bN (iD (cW s))) (bN (qD s)):=by
 obtain⟨h1,h2,h3⟩:=j0s h;have hW:=d0q (c0o h1);have hD:=j0t h1;have eW:=e0A hW;have eD:=e0A hD;have hm:iM (cW s)=true->bN (iD (cW s))≠0:=by
  intro hm e;have h4:=c0o h1;unfold iB at h4;rw[e,a0q]at eW;rw[hm,eW]at h4;simp at h4
 unfold qL at h2;simp only[Ly,Ac]at h2;have l1:nDigits (bN (iD (cW s)))<=4000:=by
  have:=h2.1;rw[eW,a0y]at this;rw[eW,b0A]at *;omega
 have l2:nDigits (bN (qD s))<=4000:=by
  have:=h2.2;rw[eD,a0y]at this;rw[eD,b0A]at *;omega
 have es:(cW s).data.toList=(if iM (cW s)=true then [45] else [])++decDigits (bN (iD (cW s))):=by
  have e:(iD (cW s)).data.toList=decDigits (bN (iD (cW s))):=by rw[eW,b0A,a0t]
  rw[<- e];unfold iD Lib.trimPrefix;cases hm2:Lib.hasPrefix (cW s).data.toList [45]
  .have:iM (cW s)=false:=hm2;rw[this];simp
  .have:iM (cW s)=true:=hm2;rw[this];have hp:List.isPrefixOf [45] (cW s).data.toList=true:=hm2;obtain⟨t,ht⟩:=List.isPrefixOf_iff_prefix.1 hp;rw[<- ht];simp
 refine⟨?_,?_,hm,l1,l2,?_⟩
 .unfold qG at h3;cases hS:cS s
  .have:qD s=a0f 1:=by unfold qD;rw[hS,c0e];rfl
   rw[this,b0A,Of]
  .rw[hS]at h3;simpa using h3
 .cases hS:cS s
  .have:qD s=a0f 1:=by unfold qD;rw[hS,c0e];rfl
   rw[this,b0A];omega
  .unfold qB at h1;rw[hS]at h1;simp only[Aa,Av,Bool.not_true,Bn,false_or,H7]at h1;have:qD s=cB s:=by unfold qD;rw[J3 hS]
   rw[this];exact b1K h1.2.1.1.2 h1.2.1.2
 .apply b0f
  rw[b0U];rcases g0z s.data.toList with h4 | ⟨A,B,hA,e⟩
  .have hc:=j0Z h4;have hS:cS s=false:=by unfold cS;rw[hc]
   have hq:bN (qD s)=1:=by
    have:qD s=a0f 1:=by unfold qD;rw[hS,c0e];rfl
    rw[this,b0A]
   rw[hq,J3 rfl,Cz];have e1:(cW s).data.toList=s.data.toList:=by unfold cW;rw[hc]
   rw[<- es,e1]
  .have hc:=t0h (r:=B) hA;rw[<- e]at hc;have hS:cS s=true:=by unfold cS;rw[hc]
   have hB:qD s=cB s:=by unfold qD;rw[J3 hS]
   have e1:(cW s).data.toList=A:=by unfold cW;rw[hc]
   have e2:(cB s).data.toList=B:=by unfold cB;rw[hc]
   have e3:B=decDigits (bN (qD s)):=by rw[<- e2,<- hB,eD,b0A,a0t]
   have hne:bN (qD s)≠1:=by
    intro hb;unfold qB at h1;rw[hS]at h1;simp only[Aa,Av,Bool.not_true,Bn,false_or,H7]at h1;refine h1.2.2 ?_;rw[<- hB,eD,hb,c0e]
   rw[J2 hne,<- e3,e,<- Au,<- es,e1]
def Om:=@Nat.div_one
def a1N {m:Bool}{n d:Nat}(hg:Nat.gcd n d=1)(hd:0<d)(hm:m=true->n≠0):decide ((qmk m n d).num<0)=m/\(qmk m n d).num.natAbs=n/\(qmk m n d).den=d:=by
 have e1:=h0t (m:=m) (n:=n) hd;have e2:=j0r (m:=m) (n:=n) hd;rw[hg,Om]at e1 e2;refine⟨?_,by rw[e1,b0r],e2⟩;rw[e1];rcases H8 n with rfl | hn
 .cases m
  .rw[n0u];rfl
  .exact absurd rfl (hm rfl)
 .exact l0Z hn
def i0W {s:ByteArray}(h:qE s=0):decide ((vQ s).num<0)=iM (cW s)/\(vQ s).num.natAbs=bN (iD (cW s))/\(vQ s).den=bN (qD s):=by
 obtain⟨h1,h2,h3,-⟩:=t0N h;exact a1N h1 h2 h3
def ovQ (q:Rat):Prop:=4000<nDigits q.num.natAbs\/4000<nDigits q.den
instance (q:Rat):Decidable (ovQ q):=by unfold ovQ;infer_instance
def d0C {s:ByteArray}(h:qE s=0):¬ ovQ (vQ s):=by
 obtain⟨e1,e2,e3⟩:=i0W h;obtain⟨-,-,-,l1,l2,-⟩:=t0N h;unfold ovQ;rw[e2,e3];omega
def c1T (q:Rat):Nat.gcd q.num.natAbs q.den=1:=q.reduced
def c1Q (q:Rat):decide (q.num<0)=true->q.num.natAbs≠0:=by
 intro h;have:=Am h;omega
def n0Q {q:Rat}(h:¬ ovQ q):qE (txQ q)=0:=by
 unfold ovQ at h;exact c1M (c1T q) q.den_pos (c1Q q) (by omega) (by omega)
theorem e0P (q:Rat):vQ (txQ q)=q:=by
 unfold vQ txQ;rw[y0G,o0E,o0D,u0G]
def c0b (q:Rat):ByteArray:=if ovQ q then ⟨#[]⟩ else txQ q
def c0p (q:Rat):Int:=if ovQ q then 5 else 0
def z0U (f:Rat->Rat)(s:ByteArray):ByteArray:=if qE s=0 then c0b (f (vQ s)) else ⟨#[]⟩
def b1b (f:Rat->Rat)(s:ByteArray):Int:=if qE s=0 then c0p (f (vQ s)) else qE s
def b0D (f:Rat->Rat->Rat)(s t:ByteArray):ByteArray:=if qE s=0/\qE t=0 then c0b (f (vQ s) (vQ t)) else ⟨#[]⟩
def f0F (f:Rat->Rat->Rat)(s t:ByteArray):Int:=if qE s=0 then (if qE t=0 then c0p (f (vQ s) (vQ t)) else qE t) else qE s
open Go.Shelf
theorem Row.openS {w:World}{v:Value}{l:List ByteArray}(h:Row w v (i0i l)):∃ a c,v=.slice a l.length c/\l.length<=c/\c<=9223372036854775807/\∀ (i:Nat) (x:ByteArray),l[i]?=some x->∃ g o,a=some ⟨g,o,none⟩/\g<w.heap.size/\w.cell? ⟨g,o+i,none⟩=some (.string x):=by
 obtain⟨a,c,rfl,h1,h2,h3⟩:=h.ex;rw[strs_length]at *;exact⟨a,c,rfl,h1,by unfold maxLen at h2;omega,fun i x hx=>h3 i _ (t0X hx)⟩
end
section
attribute [local go_sem] Oper.semAt_some
def o0M {n:Nat}{P:Program}{Q:Exit->Act->World->Prop}{a:Act}{w:World}{c:Code}(h:c.wpIn Fence.wide n P (Exit.noGoto Q) a w):(Code.scope c).wpIn Fence.wide n P Q a w:=
 wpIn_wide.2 (wp_scope_straight (wpIn_wide.1 h))
def v0o:(prog.info? 3).map (fun i=>(i.zero,i.size,i.bytes))=some (some (.int .i64 0),1,8):=by kernel_rfl
def u0P {W:World}{b:Nat}{t:TypeId}{x:Value}(h:Blk W b #[x] t):W.ownsRow b t 1 (.slice (some ⟨b,0,none⟩) 1 1) 1 [x]:=
 ⟨rfl,.inr ⟨b,1,#[x],rfl,O4 _,h,O4 _,by unfold maxLen;omega,rfl,rfl⟩⟩
def m0p {W:World}{base:Nat}{e:TypeId}{g n cap:Nat}{xs:List Value}(h:W.ownsRow base e 1 (.slice (some ⟨g,0,none⟩) n cap) n xs)(i:Nat)(x:Value):(W.setCell ⟨g,i,none⟩ x).ownsRow base e 1 (.slice (some ⟨g,0,none⟩) n cap) n (xs.set i x):=by
 rcases h.2 with ⟨e1,_⟩ | ⟨g',cap',cur,e1,hb,hg,h1,h2,h3,h4⟩
 .simp at e1
 .simp at e1;obtain⟨rfl,rfl⟩:=e1;refine⟨by rw[Bj];exact h.1,.inr ⟨g,cap,cur.setIfInBounds i x,rfl,hb,Blk.set hg i x,h1,h2,by simpa using h3,?_⟩⟩;rw[Ir,Mj,h4]
def e0c {W:World}{base:Nat}{e:TypeId}{g n cap:Nat}{xs:List Value}(h:W.ownsRow base e 1 (.slice (some ⟨g,0,none⟩) n cap) n xs):base<=g/\g<W.heap.size/\(∀ i,W.frozen? ⟨g,i,none⟩=false)/\(∀ (i:Nat) (x:Value),xs[i]?=some x->W.cell? ⟨g,i,none⟩=some x)/\cap<=9223372036854775807/\n<=cap/\∀ (t:TypeId) (cs:Array Value) (b:Nat),t≠e->Blk W b cs t->b≠g:=by
 have hh:=h;rcases h.2 with ⟨e1,_⟩ | ⟨g',cap',cur,e1,hb,hg,h1,h2,h3,h4⟩
 .simp at e1
 .simp at e1;obtain⟨rfl,rfl⟩:=e1;refine⟨hb,(I7.1 hg).1,fun i=>Blk.free hg i,fun i x hx=>?_,by unfold maxLen at h2;omega,h1,?_⟩
  .have:=hh.cells rfl i x hx;rw[Addr.add_lit,F9]at this;exact this
  .rintro t cs b ht hB rfl;have:=(show W.heap[b]? = _ from hB).symm.trans hg;simp at this;exact ht this.2
variable {P : Program} {ops : Array Oper} {Q : Exit -> Act -> World -> Prop} {md : Region.Mode}
def c1A:List Oper->Nat->Option Oper
 | [],_=>none
 | o::_,0=>some o
 | _::l,i+1=>c1A l i
theorem n0T:∀ (l:List Oper) (i:Nat) (o:Oper),c1A l i=some o->l.toArray[i]?=some o
 | [],_,_,h=>by cases h
 | o::_,0,_,h=>by simpa[c1A]using h
 | _::l,i+1,o,h=>by simpa using n0T l i o h
def e0n (P:Program)(l:List Oper)(S:World->Prop)(L:Act->Prop):List Nat->Act->Prop
 | [],a=>L a
 | i::rest,a=>∃ o,c1A l i=some o/\∃ v,YieldsIf P l.toArray S o v a/\e0n P l S L rest (a.put o.dst v)
def k0U (md:Region.Mode)(ops:Array Oper):List Nat->Array Bool->Bool
 | [],_=>true
 | i::is,listed=>(Region.ready md ops listed).contains i && Region.free md ops listed i && k0U md ops is (listed.setIfInBounds i true)
def o0V:List Nat->Array Bool->Array Bool
 | [],listed=>listed
 | i::is,listed=>o0V is (listed.setIfInBounds i true)
theorem d0d {l:List Oper}{S:World->Prop}(hsel:Region.noSelect l.toArray=true){g:Nat}{w:World}(hS:S w):∀ (is:List Nat) (listed:Array Bool) (a:Act),k0U md l.toArray is listed=true ->
 e0n P l S (fun a'=>wpAnyH P md l.toArray (b0b Q) S g (o0V is listed) a' w) is a->wpAnyH P md l.toArray (b0b Q) S (g+is.length) listed a w
 | [],_,_,_,h=>h
 | i::is,listed,a,hB,h=>by
  simp only[k0U,Aa]at hB;obtain⟨⟨hr,hf⟩,hB'⟩:=hB;obtain⟨o,ho,v,hy,hrest⟩:=h;have hQ:∀ c a w,b0b Q (.panic c) (Act.put a o.dst v) w->b0b Q (.panic c) a w:=fun _ _ _ h=>h
  exact wpAnyH_take (n0T _ _ _ ho) hsel hf hr hQ hy hS (d0d hsel hS is _ _ hB' hrest)
theorem a0j {id:Nat}{a:Act}{w:World}{l:List Oper}(is:List Nat)(g:Nat)(S:World->Prop)(hm:P.follows .mixedOrders=true)(hsel:Region.noSelect l.toArray=true)(hg:g+is.length=l.toArray.size)(hB:k0U .any l.toArray is (Array.replicate l.toArray.size false)=true)(hS:S w.drew)
 (h:e0n P l S (fun a'=>wpAnyH P .any l.toArray (b0b Q) S g (o0V is (Array.replicate l.toArray.size false)) a' w.drew) is a):(Code.region id l.toArray true).wp P Q a w:=by
 have h2:=d0d (P:=P) (md:=.any) (Q:=Q) (S:=S) hsel (g:=g) hS is (Array.replicate l.toArray.size false) a hB h;rw[hg]at h2;exact (wpIn_wide (n:=1)).1 (Ms hm (l0I _ _ _ _ (Mh (S:=S) _ _ _ _ h2)))
theorem a0V {l:List Oper}{S:World->Prop}{is:List Nat}{g fuel:Nat}{listed:Array Bool}{a:Act}{w:World}(hsel:Region.noSelect l.toArray=true)(hf:fuel=g+is.length)(hS:S w)(hB:k0U md l.toArray is listed=true)
 (h:e0n P l S (fun a'=>wpAnyH P md l.toArray (b0b Q) S g (o0V is listed) a' w) is a):wpAnyH P md l.toArray (b0b Q) S fuel listed a w:=by
 rw[hf];exact d0d hsel hS is listed a hB h
end
section
variable {P : Program} {ops : Array Oper} {Q : Exit -> Act -> World -> Prop} {md : Region.Mode}
theorem s0u {S:World->Prop}{i:Nat}{o:Oper}{fuel:Nat}{listed:Array Bool}{a:Act}{w:World}(ho:ops[i]?=some o)(hg:o.guard=none)
 (h:wpList P ops (v0X P md ops (b0b Q) S fuel (listed.setIfInBounds i true)) [o] a w):wpOp P ops (b0b Q) i (fun a' w'=>S w'/\wpAnyH P md ops (b0b Q) S fuel (listed.setIfInBounds i true) a' w') a w:=by
 unfold wpOp;rw[ho];have hw:Region.wanted o (yielded ops a.tmps)=true:=by simp[Region.wanted,hg]
 simp only[hw,Ew];unfold wpList at h;rw[J3 hw]at h;rcases h with h | ⟨_,_,_,h⟩
 .left
  unfold Oper.wp at *;generalize (execOp a.eval o).run P w=r at *
  cases r with
  | ok m w'=>
   cases m<;>simp only[Oper.upon]at h |-
   case value u=>exact h
   case skip=>exact h
   case defer d=>exact h
   case enter f args=>
    refine Calls.mono h fun e w'' he=>?_
    cases e with
    | returned u=>exact he
    | panicked c=>exact he.elim
    | outgrown=>obtain⟨_,_,hx⟩:=he;exact hx.elim
   case row row args=>exact h
  | halt x w'=>
   cases x<;>simp only[Oper.upon]at h |-
   case panic u=>exact h.elim
 .exact h.elim
theorem c0M {S:World->Prop}{i j:Nat}{oi oj:Oper}{fuel:Nat}{listed:Array Bool}{a:Act}{w:World}(hr:Region.ready md ops listed = [i,j])(hi:ops[i]?=some oi)(hj:ops[j]?=some oj)(hgi:oi.guard=none)(hgj:oj.guard=none)
 (h1:wpList P ops (v0X P md ops (b0b Q) S fuel (listed.setIfInBounds i true)) [oi] a w)
 (h2:wpList P ops (v0X P md ops (b0b Q) S fuel (listed.setIfInBounds j true)) [oj] a w):wpAnyH P md ops (b0b Q) S (fuel+1) listed a w:=by
 refine wpAnyH_all hr (by simp) fun k hk=>?_
 rcases Ck.1 hk with rfl | hk
 .exact s0u hi hgi h1
 .obtain rfl:k=j:=by simpa using hk
  exact s0u hj hgj h2
end
def NoInt (cs:Array Value):Prop:=∀ (i:Nat) (k:IntKind) (x:Int),cs[i]? ≠ some (.int k x)
theorem NoInt.three (m:Bool)(a b:Option Addr)(n c n' c':Nat):NoInt #[.bool m,.slice a n c,.slice b n' c']:=by
 intro i k x h;rcases i with _ | _ | _ | i<;>simp at h
theorem IsN.setQ {k:IntKind}{w:World}{v:Value}{n b:Nat}{cs:Array Value}{t:TypeId}(h:IsN k w v n)(hb:Blk w b cs t)(hc:NoInt cs)(j:Nat)(u:Value):IsN k (w.setCell ⟨b,j,none⟩ u) v n:=by
 obtain⟨a,c,rfl,h1,h2,h3⟩:=h.ex;refine⟨a,c,rfl,h1,h2,fun i x hx=>?_⟩;obtain⟨g,o,e,hg,hcell⟩:=h3 i x hx;refine⟨g,o,e,by simpa[World.setCell]using hg,?_⟩;have hne:g≠b:=by
  rintro rfl;rw[hb.cell]at hcell;have:x∈b0p k (limbs n):=U7 hx;obtain⟨y,_,rfl⟩:=Gi.1 this;exact hc _ _ _ hcell
 rw[<- hcell];unfold World.cell?;rw[Bc _ _ _ _ (by simpa using hne)]
def c0C {w:World}{b:Nat}{m0:Bool}{a0 b0:Option Addr}{n0 c0 n1 c1:Nat}{t:TypeId}(hb:Blk w b #[.bool m0,.slice a0 n0 c0,.slice b0 n1 c1] t)(m:Bool)(a a':Option Addr)(n c n' c':Nat):
 (∀ (k:IntKind) (v:Value) (x:Nat),IsN k w v x->IsN k (((w.setCell ⟨b,0,none⟩ (.bool m)).setCell ⟨b,1,none⟩ (.slice a n c)).setCell ⟨b,2,none⟩ (.slice a' n' c')) v x) /\
 Blk (((w.setCell ⟨b,0,none⟩ (.bool m)).setCell ⟨b,1,none⟩ (.slice a n c)).setCell ⟨b,2,none⟩ (.slice a' n' c')) b #[.bool m,.slice a n c,.slice a' n' c'] t:=by
 have h1:=hb.set 0 (.bool m);have h2:=h1.set 1 (.slice a n c);have h3:=h2.set 2 (.slice a' n' c');simp at h1 h2 h3;refine⟨fun k v x h=>?_,h3⟩;exact ((h.setQ hb (NoInt.three _ _ _ _ _ _ _) 0 _).setQ h1 (NoInt.three _ _ _ _ _ _ _) 1 _).setQ h2 (NoInt.three _ _ _ _ _ _ _) 2 _
section
def isZ (n:Nat):Bool:=decide (n=0)
def isO (n:Nat):Bool:=decide (n=1)
def s0k {n:Nat}:isZ n=true↔n=0:=by simp[isZ]
def e0C {n:Nat}:isO n=true↔n=1:=by simp[isO]
def Ho:=@List.length_eq_zero_iff
def i0a {n:Nat}:(limbs n).length=0↔n=0:=by
 rw[Ho];exact b0Y
def g0h (w:World)(v:Value)(n:Nat)(h:IsN .u64 w v n):Calls prog 223 #[v] w fun e w'=>e=.returned (.bool (isZ n))/\w=w':=by
 obtain⟨a,c,rfl,h1,h2,-⟩:=h.openI;obtain⟨L,hL⟩:=gn ((limbs n).length);have hz:isZ n=((L:Int)==0):=by
  rw[Bk,s0k,Fi];rw[<- i0a,hL];omega
 have HZ:=hid hz;rw[hL];clear h hL hz h1;go_enter func223,ntmps223;go_wp2_with fail;go_ret
 exact⟨by rw[HZ.out];first | rfl | simp,rfl⟩
def Gm:=@Bool.eq_false_iff
def m0z (w:World)(v:Value)(n:Nat)(h:IsN .u64 w v n):Calls prog 200 #[v] w fun e w'=>e=.returned (.bool (isO n))/\w=w':=by
 obtain⟨a,c,rfl,h1,h2,h3⟩:=h.openI;by_cases hl:(limbs n).length=1
 .obtain⟨x,hx⟩:∃ x,(limbs n)[0]?=some x:=⟨_,Q0 (by omega)⟩;obtain⟨g,o,rfl,hg,hc⟩:=h3 0 x hx;rw[At]at hc;have hn:n=x:=by
   have h4:limbs n = [x]:=by
    apply Aq
    intro i;rcases i with _ | i
    .exact hx
    .rw[U6 (by omega)];simp
   have:=a0z n;rw[h4]at this;simpa[a0P]using this.symm
  subst hn;have HL:=hid hl;rw[hl];clear hl hx h3 h h1;by_cases h1:n=1
  .subst h1;go_enter func200,ntmps200;go_wp2_with fail;go_ret
   exact⟨rfl,rfl⟩
  .have q1:((n:Int)==1)=false:=M5.2 (by omega);have H1:=hid (show isO n=false by simp[isO,h1]);clear h1;go_enter func200,ntmps200;go_wp2_with fail;go_ret
   exact⟨n0F (by rw[H1.out]),rfl⟩
 .obtain⟨L,hL⟩:=gn ((limbs n).length);have hn:isO n=false:=by
   refine Gm.2 fun e=>hl ?_
   rw[e0C.1 e,d0b];rfl
  rw[hL]at hl |-;have q1:((L:Int)==1)=false:=M5.2 (by omega);have H1:=hid hn;clear hl hn hL h h3 h1;go_enter func200,ntmps200;go_wp2_with fail;go_ret
  exact⟨n0F (by rw[H1.out]),rfl⟩
open Go.Shelf
def w0p (w:World)(n:Nat)(h:n<=9223372036854775807)(hL:Lay w):
 qb 64 #[.int .i64 (n:Nat)] w (.string (a0f n)):=by
 refine (Tryz.strconv_Itoa (n:Int) (by omega) (by omega) w hL.tab).mono ?_;rintro e w' ⟨rfl,k,os,rfl⟩;have en:(⟨(Lib.itoa (n:Int)).toArray⟩:ByteArray)=a0f n:=by
  unfold a0f Lib.itoa;rw[J2 (by omega)];rfl
 exact⟨by rw[en],f0Z w k os⟩
end
section
open Go.Shelf
open Go.Lib (decDigits nDigits decNat decFrom digitVal)
def v0V (n:Nat):Lib.atoi (decDigits n)=some (n:Int):=by
 have hd:=b0F n;have hne:decDigits n ≠ []:=by
  intro e;have:=I9 n;rw[e]at this;have:=w0C n;simp at *;omega
 have hv:decNat (decDigits n)=some n:=by
  unfold decNat;rw[J2 (by simpa using hne),i0J hd,g0i,Gf,F9]
 cases h:decDigits n with
 | nil=>exact absurd h hne
 | cons b r=>
  have hb:=a0U.1 (hd b (by rw[h];exact Dg ..));unfold Lib.atoi;have n1:(b==45)=false:=by rw[M5];rintro rfl;revert hb;decide
  have n2:(b==43)=false:=by rw[M5];rintro rfl;revert hb;decide
  simp only[n1,n2,Bn,Eh];rw[<- h,hv];rfl
end
def Mt:=@Rat.num_eq_zero
def d0p {q:Rat}(h0:q≠0):(decide (q⁻¹.num<0))=decide (q.num<0)/\q⁻¹.num.natAbs=q.den/\q⁻¹.den=q.num.natAbs:=by
 have hn:q.num≠0:=fun e=>h0 (Mt.1 e)
 have hd:=q.den_pos;by_cases hneg:q.num<0
 .have:q⁻¹ = Rat.inv q:=rfl;rw[this];unfold Rat.inv;rw[dif_pos hneg];simp[hneg];omega
 .have hp:q.num > 0:=by omega
  have:q⁻¹ = Rat.inv q:=rfl;rw[this];unfold Rat.inv;rw[dif_neg hneg,dif_pos hp];simp[hneg]
def x0x (p q:Int):sgn (decide (p<0) != decide (q<0)) (p.natAbs*q.natAbs)=p*q:=by
 have hp:=i0o p;have hq:=i0o q;generalize decide (p<0)=m at *
 generalize decide (q<0)=n at *
 generalize p.natAbs=a at *
 generalize q.natAbs=b at *
 subst hp hq;cases m<;>cases n<;>simp[sgn,Int.neg_mul,Int.mul_neg]
def j0q (p q:Rat):qmk (decide (p.num<0) != decide (q.num<0)) (p.num.natAbs*q.num.natAbs) (p.den*q.den)=p*q:=by
 unfold qmk;rw[x0x,Rat.mkRat_mul_mkRat _ _ _ _ |>.symm,Lk,Lk]
def b1M (w:World):Calls prog 257 #[] w fun e w'=>f0E .u64 0 e w'/\Below w.heap.size w w':=by
 go_enter func257,ntmps257;go_wp2_with fail;refine ng (c1C _ 1 (by omega)) fun v1 w1 hv1 hb1=>?_;obtain⟨a3,c3,rfl,_⟩:=hv1.openI;obtain⟨HV,HB⟩:=zu hv1 (show Blk w1 w.heap.size #[.bool false,.slice none 0 0,.slice none 0 0] 126 from (Blk.new w _ _).call hb1);obtain⟨d0,d1,d2⟩:=qz HB.out;obtain⟨e0,e1,e2⟩:=qq HB.out;have HBB:=hid hb1;clear hb1 hv1;go_wp2_with fail;obtain⟨s1,s2⟩:=c0C HB.out false none a3 0 0 (limbs 1).length c3;obtain⟨f0,f1,f2⟩:=qz s2;refine C7 (v:=.agg #[.bool false,.slice none 0 0,.slice a3 (limbs 1).length c3]) (by simp[results,results257,go_sem,f0,f1,f2]) rfl ⟨⟨_,rfl,IsQ.zero_ (s1 _ _ _ (IsN.zero _ _)) (s1 _ _ _ HV.out)⟩,?_⟩;exact ((((br0.alloc nr _).trans (HBB.out.mono (by simp))).setCell nr _).setCell nr _).setCell nr _
def r0n {m:Bool}{n d:Nat}(hn:0<n)(hd:0<d){k:IntKind}{w:World}{N D:Value}(hg:Nat.gcd n d=1)(h1:IsN k w N n)(h2:IsN k w D d):IsQ k w (.agg #[.bool m,N,D]) (qmk m n d):=
 IsQ.mk' hn hd (by rw[hg,Om];exact h1) (by rw[hg,Om];exact h2)
def Mu:=@Go.Proofs.Tryz.results193
def s0G (w:World)(m:Bool)(v u:Value)(n d:Nat)(hn:IsN .u64 w v n)(hd:IsN .u64 w u d)(h0:0<d)(hln:(limbs n).length<=1000000)(hld:(limbs d).length<=1000000):
 Calls prog 193 #[.bool m,v,u] w fun e w'=>f0E .u64 (qmk m n d) e w'/\Below w.heap.size w w':=by
 obtain⟨HN,HD⟩:=zu hn hd;obtain⟨a1,c1,rfl,_⟩:=hn.openI;obtain⟨a2,c2,rfl,_⟩:=hd.openI;obtain⟨k1,hk1⟩:=gn ((limbs n).length);obtain⟨k2,hk2⟩:=gn ((limbs d).length);obtain⟨LN,LD,H0⟩:=zg hln hld h0;rw[hk1]at HN |-;rw[hk2]at HD |-;obtain⟨b0,x0⟩:=zu ((J4 w.heap.size w).alloc nr (.cells #[.bool false,.slice none 0 0,.slice none 0 0] 126)) (Blk.new w #[.bool false,.slice none 0 0,.slice none 0 0] 126);obtain⟨N0,D0⟩:=zu (HN.out.call b0.out) (HD.out.call b0.out);clear hn hd hln hld h0 hk1 hk2;rcases H8 n with rfl | hp
 .have hq:=hid (n0O m d);rw[hq.out];have hz:isZ 0=true:=rfl;go_enter func193,ntmps193;go_wp2_with fail;refine (g0h _ _ _ N0.out).mono ?_;rintro e w1 ⟨rfl,rfl⟩;rw[hz];clear hz;go_wp2_with fail;refine ng (b1M _) fun v1 w1 hv1 hb1=>?_;obtain⟨M,D,rfl,h2,h3⟩:=hv1.ex;obtain⟨a3,c3,rfl,_⟩:=h2.openI;obtain⟨a4,c4,rfl,_⟩:=h3.openI;have hm:decide ((0:Rat).num<0)=false:=rfl;rw[hm];have HB:=hid (x0.out.call hb1);have BB:=qx b0 hb1;obtain⟨d0,d1,d2⟩:=qz HB.out;obtain⟨e0,e1,e2⟩:=qq HB.out;obtain⟨H2,H3⟩:=zu h2 h3;clear hb1 hv1 h2 h3 hm;obtain⟨l1,hl1⟩:=gn ((limbs (0:Rat).num.natAbs).length);obtain⟨l2,hl2⟩:=gn ((limbs (0:Rat).den).length);rw[hl1]at H2 |-;rw[hl2]at H3 |-;clear hl1 hl2;go_wp2_with fail;obtain⟨s1,s2⟩:=c0C HB.out false a3 a4 l1 c3 l2 c4;obtain⟨f0,f1,f2⟩:=qz s2;refine C7 (v:=.agg #[.bool false,.slice a3 l1 c3,.slice a4 l2 c4]) (by simp[results,Mu,go_sem,f0,f1,f2]) rfl ⟨⟨_,rfl,⟨_,_,rfl,s1 _ _ _ H2.out,s1 _ _ _ H3.out⟩⟩,?_⟩;exact ((BB.out.setCell nr _).setCell nr _).setCell nr _
 .have hz:isZ n=false:=by unfold isZ;simpa using (by omega:n≠0)
  have HP:=hid hp;clear hp;by_cases h1:d=1
  .have ho:isO d=true:=e0C.2 h1;have HG:=hid (show Nat.gcd n d=1 by rw[h1,Of]);clear h1;go_enter func193,ntmps193;go_wp2_with fail;refine (g0h _ _ _ N0.out).mono ?_;rintro e w1 ⟨rfl,rfl⟩;rw[hz];clear hz;go_wp2_with fail;refine (m0z _ _ _ D0.out).mono ?_;rintro e w1 ⟨rfl,rfl⟩;rw[ho];clear ho;go_wp2_with fail;have hB:=Blk.new w #[.bool m,.slice a1 k1 c1,.slice a2 k2 c2] 126;obtain⟨f0,f1,f2⟩:=qz hB;have b1:=(J4 w.heap.size w).alloc nr (.cells #[.bool m,.slice a1 k1 c1,.slice a2 k2 c2] 126);refine C7 (v:=.agg #[.bool m,.slice a1 k1 c1,.slice a2 k2 c2]) (by simp[results,Mu,go_sem]) rfl ⟨⟨_,rfl,r0n HP.out H0.out HG.out (HN.out.call b1) (HD.out.call b1)⟩,b1⟩
  .have ho:isO d=false:=by unfold isO;simpa using h1
   obtain⟨g,hg⟩:=gn (Nat.gcd n d);have hgp:0<g:=hg ▸ Ge d HP.out;obtain⟨HG,HGP⟩:=zu hg hgp;clear h1 hg hgp;go_enter func193,ntmps193;go_wp2_with fail;refine (g0h _ _ _ N0.out).mono ?_;rintro e w1 ⟨rfl,rfl⟩;rw[hz];clear hz;go_wp2_with fail;refine (m0z _ _ _ D0.out).mono ?_;rintro e w1 ⟨rfl,rfl⟩;rw[ho];clear ho;go_wp2_with fail;refine ng (b1s _ _ _ _ _ N0.out D0.out LN.out LD.out) fun v1 w1 hv1 hb1=>?_;rw[HG.out]at hv1;have x1:=hid (x0.out.call hb1);have b1:=qx b0 hb1;obtain⟨N1,D1,G1⟩:=zg (N0.out.call hb1) (D0.out.call hb1) hv1;clear hb1 hv1;obtain⟨a5,c5,rfl,_⟩:=G1.out.openI;obtain⟨k5,hk5⟩:=gn ((limbs g).length);rw[hk5]at G1 |-;clear hk5;go_wp2_with fail;refine (m0z _ _ _ G1.out).mono ?_;rintro e w2 ⟨rfl,rfl⟩;by_cases hg1:g=1
   .have ho:isO g=true:=e0C.2 hg1;have HG1:=hid (show Nat.gcd n d=1 by rw[HG.out,hg1]);rw[ho];obtain⟨d0,d1,d2⟩:=qz x1.out;obtain⟨e0,e1,e2⟩:=qq x1.out;clear ho hg1;go_wp2_with fail;obtain⟨s1,s2⟩:=c0C x1.out m a1 a2 k1 c1 k2 c2;obtain⟨f0,f1,f2⟩:=qz s2;refine C7 (v:=.agg #[.bool m,.slice a1 k1 c1,.slice a2 k2 c2]) (by simp[results,Mu,go_sem,f0,f1,f2]) rfl ⟨⟨_,rfl,r0n HP.out H0.out HG1.out (s1 _ _ _ N1.out) (s1 _ _ _ D1.out)⟩,?_⟩;exact ((b1.out.setCell nr _).setCell nr _).setCell nr _
   .have ho:isO g=false:=by unfold isO;simpa using hg1
    rw[ho];clear ho hg1;go_wp2_with fail;refine (j0F _ _ _ n g N1.out G1.out HGP.out LN.out).mono ?_;rintro e w2 ⟨⟨v2,v3,rfl,hv2,-⟩,hb2⟩;have x2:=hid (x1.out.call hb2);have b2:=qx b1 hb2;obtain⟨D2,G2,V2⟩:=zg (D1.out.call hb2) (G1.out.call hb2) hv2;clear hb2 hv2;go_wp2_with fail;refine (j0F _ _ _ d g D2.out G2.out HGP.out LD.out).mono ?_;rintro e w3 ⟨⟨v4,v5,rfl,hv4,-⟩,hb3⟩;have x3:=hid (x2.out.call hb3);have b3:=qx b2 hb3;obtain⟨W2,W4⟩:=zu (V2.out.call hb3) hv4;clear hb3 hv4;obtain⟨a6,c6,rfl,_⟩:=W2.out.openI;obtain⟨a7,c7,rfl,_⟩:=W4.out.openI;obtain⟨d0,d1,d2⟩:=qz x3.out;obtain⟨e0,e1,e2⟩:=qq x3.out;go_wp2_with fail;obtain⟨s1,s2⟩:=c0C x3.out m a6 a7 (limbs (n / g)).length c6 (limbs (d / g)).length c7;obtain⟨f0,f1,f2⟩:=qz s2;refine C7 (v:=.agg #[.bool m,.slice a6 (limbs (n / g)).length c6,.slice a7 (limbs (d / g)).length c7]) (by simp[results,Mu,go_sem,f0,f1,f2]) rfl ⟨⟨_,rfl,IsQ.mk' HP.out H0.out (HG.out ▸ s1 _ _ _ W2.out) (HG.out ▸ s1 _ _ _ W4.out)⟩,?_⟩;exact ((b3.out.setCell nr _).setCell nr _).setCell nr _
end Go.Proofs.YtfkpfpobmobnbaaGreatDoor
