import Derived.Test.YtfkpfpobmobnbaaGreatDoorPb7
import Derived.Deep.AppendLies
import Derived.Sort.Walk0
set_option linter.all false
set_option maxRecDepth 100000
set_option maxHeartbeats 8000000
namespace Go.Proofs.YtfkpfpobmobnbaaGreatDoor
open Go.Proofs.Tryz Go.RowKit
open Go.Lib (decDigits nDigits)
def glE (a:ByteArray)(n:Int)(m:Int):Int:=if gPE a≠0 then gPE a else if n<0\/m<n then 2 else 0
def glB (a:ByteArray)(n:Int)(two:Bool):ByteArray:=if glE a n 256=0 then shB (gL (bN (cW a)) (bN (qD a)) two n.toNat) (2 ^ n.toNat) else ⟨#[]⟩
def y0Q (w:World)(a:ByteArray)(n:Int)(two:Bool)(ha:a.size<=100000)(hL:Lay w):
 qb 142 #[.string a,.int .i64 n,.bool two] w (.tuple #[.string (glB a n two),.int .i64 (glE a n 256)]):=by
 by_cases he:gPE a=0
 focus
  by_cases hn:n<0\/256<n
  focus
   have e1:glE a n 256=2:=by unfold glE;rw[J2 (by rw[he];simp),J3 hn]
   have e2:glB a n two=⟨#[]⟩:=by unfold glB;rw[J2 (by rw[e1];decide)]
   rw[e1,e2];have HA:=hid (d0L w a ha hL);rw[J3 he,J3 he,he]at HA;obtain⟨b1,k1⟩:=gn (decide (n<0));obtain⟨b2,k2⟩:=gn (decide (256<n));have k3:(b1 || b2)=true:=by rw[<- k1,<- k2];simpa using hn
   clear ha hL he hn e1 e2;cases b1
   focus
    obtain rfl:b2=true:=by simpa using k3
    clear k3
   rotate_left
   focus
    clear k2 k3
  rotate_left 2
  .obtain⟨m,rfl⟩:∃ m:Nat,n=(m:Nat):=⟨n.toNat,by omega⟩;have e1:glE a (m:Nat) 256=0:=by unfold glE;rw[J2 (by rw[he];simp),J2 hn]
   have hND:=(b0R he).2;obtain⟨l1,l2⟩:=y0z hND two m;have:=b1C w a m _ _ two ha he (by omega) rfl rfl hND hL l2;rw[l1]at this;unfold glB;rw[J3 e1,e1];exact this
 rotate_left 2
 focus
  have e1:glE a n 256=gPE a:=by unfold glE;rw[J3 he]
  have e2:glB a n two=⟨#[]⟩:=by unfold glB;rw[J2 (by rw[e1];exact he)]
  rw[e1,e2];have HA:=hid (d0L w a ha hL);rw[J2 he,J2 he]at HA;obtain⟨x,hx⟩:=gn (gPE a);rw[hx]at HA he |-;have x0:(x != 0)=true:=by simpa using he
  clear ha hL he hx e1 e2
 all_goals
  go_enter func142,ntmps142;go_wp2_with fail;refine nz HA fun w1 B1=>?_;clear HA;go_wp2_with fail;go_ret2
  exact⟨rfl,B1.out⟩
def i0F (w:World)(a:ByteArray)(n:Int)(ha:a.size<=100000)(hL:Lay w):
 qb 49 #[.string a,.int .i64 n] w (.tuple #[.string (glB a n true),.int .i64 (glE a n 256)]):=by
 have H:=hid (y0Q w a n true ha hL);obtain⟨o,ho⟩:=gn (glB a n true);obtain⟨x,hx⟩:=gn (glE a n 256);rw[ho,hx]at H |-;clear ha hL ho hx;go_enter func49,ntmps49;go_wp2_with fail;refine nz H fun w1 B1=>?_;go_wp2_with fail;go_ret2
 exact⟨rfl,B1.out⟩
structure Few (ws:List Nat):Prop where
 len:ws.length<=64
 dig:∀ x∈ws,nDigits x<=300
 pos:0<ws.sum
section
variable {ws : List Nat} {m : Nat} (h : Few ws) (hm : m <= 256)
include h
include hm
omit hm
end
def b1P (w:World)(v:Value)(q:Rat)(h:IsQ .u64 w v q)(h0:q≠0):
 Calls prog 158 #[v] w fun e w'=>f0E .u64 q⁻¹ e w'/\Below w.heap.size w w':=by
 obtain⟨N,D,rfl,hn,hd⟩:=h.ex;obtain⟨m,hm⟩:=gn (decide (q.num<0));obtain⟨HN,HD,HM,H0⟩:=zc hn hd hm h0;rw[hm];obtain⟨a1,c1,rfl,_⟩:=hn.openI;obtain⟨a2,c2,rfl,_⟩:=hd.openI;clear hn hd hm h0 h;go_enter func158,ntmps158;go_wp2_with fail;obtain⟨p1,p2,p3⟩:=d0p H0.out;have B:=((J4 w.heap.size w).alloc nr (.cells #[.bool m,.slice a1 (limbs q.num.natAbs).length c1,.slice a2 (limbs q.den).length c2] 126)).alloc (by simp) (.cells #[.bool m,.slice a2 (limbs q.den).length c2,.slice a1 (limbs q.num.natAbs).length c1] 126);refine C7 (v:=.agg #[.bool m,.slice a2 (limbs q.den).length c2,.slice a1 (limbs q.num.natAbs).length c1]) (by simp[results,results158,go_sem]) rfl ⟨⟨_,rfl,⟨_,_,rfl.trans ?_,by rw[p2];exact HD.out.call B,by rw[p3];exact HN.out.call B⟩⟩,B⟩;rw[p1,HM.out]
def sgQ (q:Rat):Int:=if q.num=0 then 0 else if q.num<0 then -1 else 1
def u0g {q:Rat}(h:q.num=0):sgQ q=0:=J3 h
def x0B {q:Rat}(h:¬ q.num=0)(h2:q.num<0):sgQ q = -1:=by rw[sgQ,J2 h,J3 h2]
def x0A {q:Rat}(h:¬ q.num=0)(h2:¬ q.num<0):sgQ q=1:=by rw[sgQ,J2 h,J2 h2]
def s0E (w:World)(v:Value)(q:Rat)(h:IsQ .u64 w v q):
 qb 157 #[v] w (.int .i64 (sgQ q)):=by
 obtain⟨N,D,rfl,hn,hd⟩:=h.ex;obtain⟨m,hm⟩:=gn (decide (q.num<0));obtain⟨HN,HM⟩:=zu hn hm;rw[hm];obtain⟨a1,c1,rfl,_⟩:=hn.openI;obtain⟨a2,c2,rfl,_⟩:=hd.openI;obtain⟨k1,hk1⟩:=gn ((limbs q.num.natAbs).length);obtain⟨k2,hk2⟩:=gn ((limbs q.den).length);rw[hk1]at HN |-;rw[hk2];have b0:=hid ((J4 w.heap.size w).alloc nr (.cells #[.bool m,.slice a1 k1 c1,.slice a2 k2 c2] 126));have N0:=hid (HN.out.call b0.out);clear hn hd hm h hk1 hk2;go_enter func157,ntmps157;go_wp2_with fail;refine zv (g0h _ _ _ N0.out) ?_;by_cases hz:q.num=0
 .have h1:isZ q.num.natAbs=true:=s0k.2 (by omega);rw[h1];have HZ:=hid hz;clear h1 hz;go_wp2_with fail;go_ret
  exact⟨a0R (u0g HZ.out).symm,b0.out⟩
 .have h1:isZ q.num.natAbs=false:=Z6 (by omega);rw[h1];have HZ:=hid hz;clear h1 hz;cases m
  .go_wp2_with fail;go_ret
   exact⟨a0R (x0A HZ.out (Fz HM.out)).symm,b0.out⟩
  .go_wp2_with fail;go_ret
   exact⟨a0R (x0B HZ.out (Am HM.out)).symm,b0.out⟩
def p0u {q:Rat}{m:Bool}(hm:decide (q.num<0)=m):decide ((-q).num<0)=(!m && !isZ q.num.natAbs)/\(-q).num.natAbs=q.num.natAbs/\(-q).den=q.den:=by
 refine⟨?_,by rw[Ij,Hw],Ld q⟩;rw[Ij,<- hm,Bk];unfold isZ;simp only[Aa,By,H7,Ac];omega
def c1Y (w:World)(v:Value)(q:Rat)(h:IsQ .u64 w v q):
 Calls prog 229 #[v] w fun e w'=>f0E .u64 (-q) e w'/\Below w.heap.size w w':=by
 obtain⟨N,D,rfl,hn,hd⟩:=h.ex;obtain⟨m,hm⟩:=gn (decide (q.num<0));obtain⟨HN,HD,HP⟩:=zg hn hd (p0u hm);rw[hm];obtain⟨a1,c1,rfl,_⟩:=hn.openI;obtain⟨a2,c2,rfl,_⟩:=hd.openI;obtain⟨k1,hk1⟩:=gn ((limbs q.num.natAbs).length);obtain⟨k2,hk2⟩:=gn ((limbs q.den).length);rw[hk1]at HN |-;rw[hk2]at HD |-;have HZ:=fun W h=>hid (g0h W (.slice a1 k1 c1) q.num.natAbs h)
 obtain⟨z,hz⟩:=gn (isZ q.num.natAbs);rw[hz]at HP HZ;clear hn hd hm h hk1 hk2 hz;have b1:=hid (((J4 w.heap.size w).alloc nr (.cells #[.bool m,.slice a1 k1 c1,.slice a2 k2 c2] 126)).alloc (by simp) (.cells #[.bool false,.slice none 0 0,.slice none 0 0] 126));cases m
 .go_enter func229,ntmps229;go_wp2_with fail;refine h0j 14 (by kernel_rfl) (by kernel_rfl) ?_;simp only[Gr,Du,Aj,K9]
  iterate 6 still_step
  still_call ((HZ _ (HN.out.call b1.out.drew)).out.mono fun _ _ h=>⟨h.1,h.2.symm⟩)
  iterate 7 still_step
  refine wpStill_nil ?_;go_wp2_with fail;have b2:=(((J4 w.heap.size w).alloc nr (.cells #[.bool false,.slice a1 k1 c1,.slice a2 k2 c2] 126)).alloc (by simp) (.cells #[.bool (!z),.slice a1 k1 c1,.slice a2 k2 c2] 126)).drew;obtain⟨p1,p2,p3⟩:=HP.out;refine C7 (v:=.agg #[.bool (!z),.slice a1 k1 c1,.slice a2 k2 c2]) (by simp[results,results229,go_sem]) rfl ⟨⟨_,rfl,⟨.slice a1 k1 c1,.slice a2 k2 c2,?_,?_,?_⟩⟩,b2⟩
  .rw[p1];rfl
  .rw[p2];exact HN.out.call b2
  .rw[p3];exact HD.out.call b2
 .go_enter func229,ntmps229;go_wp2_with fail;refine h0j 14 (by kernel_rfl) (by kernel_rfl) ?_;simp only[Gr,Du,Aj,K9]
  iterate 14 still_step
  refine wpStill_nil ?_;go_wp2_with fail;have b2:=(((J4 w.heap.size w).alloc nr (.cells #[.bool true,.slice a1 k1 c1,.slice a2 k2 c2] 126)).alloc (by simp) (.cells #[.bool false,.slice a1 k1 c1,.slice a2 k2 c2] 126)).drew;obtain⟨p1,p2,p3⟩:=HP.out;refine C7 (v:=.agg #[.bool false,.slice a1 k1 c1,.slice a2 k2 c2]) (by simp[results,results229,go_sem]) rfl ⟨⟨_,rfl,⟨.slice a1 k1 c1,.slice a2 k2 c2,?_,?_,?_⟩⟩,b2⟩
  .rw[p1];rfl
  .rw[p2];exact HN.out.call b2
  .rw[p3];exact HD.out.call b2
section
def cmF (p q:Rat):Int:=if sgQ p≠sgQ q then sgQ p-sgQ q else if p.num<0 then -b0g (p.num.natAbs*q.den) (q.num.natAbs*p.den) else b0g (p.num.natAbs*q.den) (q.num.natAbs*p.den)
def k0D {q:Rat}{d:Nat}(hd:0<d):sgQ q=q0a (q.num*(d:Int)):=by
 have hd':(0:Int)<(d:Int):=by omega
 unfold sgQ q0a;by_cases h0:q.num=0
 .rw[J3 h0,h0,Int.zero_mul,J3 rfl]
 .rw[J2 h0];have hne:q.num*(d:Int)≠0:=Int.mul_ne_zero h0 (by omega);rw[J2 hne];by_cases h1:q.num<0
  .rw[J3 h1,J3 (Int.mul_neg_of_neg_of_pos h1 hd')]
  .rw[J2 h1,J2 (by have:=Int.mul_pos (a:=q.num) (b:=(d:Int)) (by omega) hd';omega)]
def t0m {P Q:Int}{a b:Nat}(ha:P.natAbs=a)(hb:Q.natAbs=b):
 max (-1) (min 1 (if q0a P≠q0a Q then q0a P-q0a Q else if P<0 then -b0g a b else b0g a b))=q0a (P-Q):=by
 unfold q0a b0g
 split<;>(repeat' split)<;>omega
def Kl:=@Int.natAbs_natCast
def t0l (p q:Rat):max (-1) (min 1 (cmF p q))=g0f p q:=by
 have e1:g0f p q=q0a (p.num*q.den-q.num*p.den):=by
  have h:=y0k (a:=p.num) (b:=p.den) (c:=q.num) (d:=q.den) p.den_nz q.den_nz;rw[Lk,Lk]at h;exact h
 have h1:=k0D (q:=p) (d:=q.den) q.den_pos;have h2:=k0D (q:=q) (d:=p.den) p.den_pos;have hP:(p.num*(q.den:Int)).natAbs=p.num.natAbs*q.den:=by rw[Int.natAbs_mul,Kl]
 have hQ:(q.num*(p.den:Int)).natAbs=q.num.natAbs*p.den:=by rw[Int.natAbs_mul,Kl]
 have hs:p.num<0↔p.num*(q.den:Int)<0:=by
  have hd:(0:Int)<(q.den:Int):=by have:=q.den_pos;omega
  constructor
  .intro h;exact Int.mul_neg_of_neg_of_pos h hd
  .intro h;rcases Ft p.num 0 with h' | h'
   .exact h'
   .exact absurd (Int.mul_nonneg h' (Int.le_of_lt hd)) (by omega)
 rw[e1,<- t0m hP hQ,<- h1,<- h2];unfold cmF;simp only[hs]
def mnB (s t:ByteArray):ByteArray:=if cmE s t=0 then (if 0<cmB s t then t else s) else ⟨#[]⟩
def l0A (s t:ByteArray):cmB s t = -1\/cmB s t=0\/cmB s t=1:=by
 unfold cmB g0f n0z
 split
 .split
  .simp
  .split<;>simp
 .simp
open Go.Shelf
def wB (R:ByteArray)(s:ByteArray):ByteArray:=if qE s=0 then R else ⟨#[]⟩
def wE (x:Int)(s:ByteArray):Int:=if qE s=0 then x else qE s
def s0l {w:World}{v:Value}{s:ByteArray}(hq:qE s=0)(h:IsF w v (iM (cW s)) (bN (iD (cW s))) (bN (qD s))):IsQ .u64 w v (vQ s):=by
 obtain⟨N,D,rfl,h1,h2⟩:=h;obtain⟨e1,e2,e3⟩:=i0W hq;exact⟨N,D,by rw[e1],by rw[e2];exact h1,by rw[e3];exact h2⟩
def n0P (w:World)(s:ByteArray)(F:Nat)(cs:Array Value)(R:ByteArray)(x:Int)(hs:s.size<=1000000)(hL:Lay w)
 (hen:∀ args w,(callFunc F args).run prog w=.ok (.enter F args) w)
 (hF:∀ W v,qE s=0->Below w.heap.size w W->IsQ .u64 W v (vQ s)->Lay W->Calls prog F (#[v]++cs) W fun e w'=>e=.returned (.tuple #[.string R,.int .i64 x])/\Below W.heap.size W w'):
 qb 155 #[.string s,.func (.func F) #[] cs] w (.tuple #[.string (wB R s),.int .i64 (wE x s)]):=by
 obtain⟨HP,HL,HF⟩:=zg (j0R w s hs hL) hL hF;clear hF hs hL;by_cases h1:qE s=0
 .have e1:wB R s=R:=J3 h1;have e2:wE x s=x:=J3 h1;rw[e1,e2];have HQ:=hid h1;rw[h1]at HP;clear h1 e1 e2;go_enter func155,ntmps155;go_wp2_with fail;refine HP.out.mono ?_;rintro e w1 ⟨⟨v,rfl,hv,-⟩,hb1⟩;have hq:=s0l HQ.out (hv rfl);have y1:=hid hb1;obtain⟨N,D,hvv,hN,hD⟩:=hv rfl;subst hvv;obtain⟨a,c,rfl,_⟩:=hN.openI;obtain⟨a',c',rfl,_⟩:=hD.openI;obtain⟨k,hk⟩:=gn ((limbs (bN (iD (cW s)))).length);obtain⟨k',hk'⟩:=gn ((limbs (bN (qD s))).length);obtain⟨m,hm⟩:=gn (iM (cW s));rw[hk,hk',hm]at hq;rw[hk,hk',hm];obtain⟨X2,b2⟩:=zu (Blk.new w1 #[.bool m,.slice a k c,.slice a' k' c'] 126) ((J4 w1.heap.size w1).alloc nr (.cells #[.bool m,.slice a k c,.slice a' k' c'] 126));have y2:=qx y1 b2.out;have Q2:=hid (hq.call b2.out);obtain⟨r0,r1,r2⟩:=qz X2.out;clear hb1 hv hN hD hk hk' hm hq b2;go_wp2_with fail;refine nk (HF.out _ _ HQ.out y2.out Q2.out (HL.out.call y2.out)) y2 fun w3 y3=>?_;go_wp2_with fail;go_ret2
  exact⟨rfl,y3.out⟩
 .have e1:wB R s=⟨#[]⟩:=J2 h1;have e2:wE x s=qE s:=J2 h1;rw[e1,e2];obtain⟨y,hy⟩:=gn (qE s);rw[hy]at HP h1 |-;have q1:(y != 0)=true:=by simpa using h1
  have H1:=hid h1;clear e1 e2 hy h1;go_enter func155,ntmps155;go_wp2_with fail;refine HP.out.mono ?_;rintro e w1 ⟨⟨v,rfl,-,hv⟩,hb1⟩;have hv':=hv H1.out;subst hv';have y1:=hid hb1;have y2:=hid (y1.out.alloc y1.out.size (.cells #[.bool false,.slice none 0 0,.slice none 0 0] 126));clear hb1 hv;go_wp2_with fail;go_ret2
  exact⟨rfl,y2.out⟩
def tB (R:ByteArray)(s t:ByteArray):ByteArray:=wB (wB R t) s
def tE (x:Int)(s t:ByteArray):Int:=wE (wE x t) s
def u0I (w:World)(v u:Value)(p q:Rat)(F g1 g2:Nat)(R:ByteArray)(x:Int)(hv:IsQ .u64 w v p)(hu:IsQ .u64 w u q)(hL:Lay w)
 (hen:∀ args w,(callFunc F args).run prog w=.ok (.enter F args) w)
 (c1:w.cell? ⟨g1,0,none⟩=some (.func (.func F) #[] #[])) (m:Bool) (a a':Option Addr) (k c k' c':Nat) (hv0:v=.agg #[.bool m,.slice a k c,.slice a' k' c'])
 (c2:Blk w g2 #[.bool m,.slice a k c,.slice a' k' c'] 126)
 (hF:∀ W v u,IsQ .u64 W v p->IsQ .u64 W u q->Lay W->Calls prog F #[v,u] W fun e w'=>e=.returned (.tuple #[.string R,.int .i64 x])/\Below W.heap.size W w'):
 qb 217 #[u,.pointer (some ⟨g1,0,none⟩),.pointer (some ⟨g2,0,none⟩)] w (.tuple #[.string R,.int .i64 x]):=by
 obtain⟨HF,HL⟩:=zu hF hL;obtain⟨N,D,rfl,hN,hD⟩:=hu.ex;obtain⟨a1,d1,rfl,_⟩:=hN.openI;obtain⟨a2,d2,rfl,_⟩:=hD.openI;obtain⟨k1,hk1⟩:=gn ((limbs q.num.natAbs).length);obtain⟨k2,hk2⟩:=gn ((limbs q.den).length);obtain⟨mu,hmu⟩:=gn (decide (q.num<0));rw[hk1,hk2,hmu]at hu;rw[hk1,hk2,hmu];subst hv0;obtain⟨X2,b2⟩:=zu (Blk.new w #[.bool mu,.slice a1 k1 d1,.slice a2 k2 d2] 126) ((J4 w.heap.size w).alloc nr (.cells #[.bool mu,.slice a1 k1 d1,.slice a2 k2 d2] 126));obtain⟨V2,U2⟩:=zu (hv.call b2.out) (hu.call b2.out);have C1:=(b2.out.cell (a0e c1)).trans c1;have C2:=hid (c2.call b2.out);obtain⟨r0,r1,r2⟩:=qz X2.out;obtain⟨s0,s1,s2⟩:=qz C2.out;clear hk1 hk2 hmu hN hD hv hu c1 c2 hF hL;go_enter func217,ntmps217;go_wp2_with fail;refine nk (HF.out _ _ _ V2.out U2.out (HL.out.call b2.out)) b2 fun w3 y3=>?_;go_wp2_with fail;go_ret2
 exact⟨rfl,y3.out⟩
def y0a (w:World)(v:Value)(t:ByteArray)(p:Rat)(F g1 g2:Nat)(R:ByteArray)(x:Int)(ht:t.size<=1000000)(hv:IsQ .u64 w v p)(hL:Lay w)
 (hen:∀ args w,(callFunc F args).run prog w=.ok (.enter F args) w)
 (c1:w.cell? ⟨g1,0,none⟩=some (.string t)) (c2:w.cell? ⟨g2,0,none⟩=some (.func (.func F) #[] #[]))
 (hF:∀ W v u,qE t=0->IsQ .u64 W v p->IsQ .u64 W u (vQ t)->Lay W->Calls prog F #[v,u] W fun e w'=>e=.returned (.tuple #[.string R,.int .i64 x])/\Below W.heap.size W w'):
 qb 216 #[v,.pointer (some ⟨g1,0,none⟩),.pointer (some ⟨g2,0,none⟩)] w (.tuple #[.string (wB R t),.int .i64 (wE x t)]):=by
 obtain⟨HF,HL,HEN⟩:=zg hF hL hen;obtain⟨N,D,rfl,hN,hD⟩:=hv.ex;obtain⟨a1,d1,rfl,_⟩:=hN.openI;obtain⟨a2,d2,rfl,_⟩:=hD.openI;obtain⟨k1,hk1⟩:=gn ((limbs p.num.natAbs).length);obtain⟨k2,hk2⟩:=gn ((limbs p.den).length);obtain⟨mu,hmu⟩:=gn (decide (p.num<0));rw[hk1,hk2,hmu]at hv;rw[hk1,hk2,hmu];obtain⟨X2,b2⟩:=zu (Blk.new w #[.bool mu,.slice a1 k1 d1,.slice a2 k2 d2] 126) ((J4 w.heap.size w).alloc nr (.cells #[.bool mu,.slice a1 k1 d1,.slice a2 k2 d2] 126));have V2:=hid (hv.call b2.out);have C1:=(b2.out.cell (a0e c1)).trans c1;obtain⟨C2,L2⟩:=zu ((b2.out.cell (a0e c2)).trans c2) (HL.out.call b2.out);obtain⟨w2,hw2⟩:=gn (w.alloc (.cells #[.bool mu,.slice a1 k1 d1,.slice a2 k2 d2] 126));obtain⟨g3,hg3⟩:=gn (w.heap.size)
 have W2:=hid (n0P w2 t 217 #[.pointer (some ⟨g2,0,none⟩),.pointer (some ⟨g3,0,none⟩)] R x ht (hw2 ▸ L2.out) (Cw func217 (by kernel_rfl) rfl)
  (fun W u hq hb hu hLW=>by
   subst hw2;subst hg3;have hVW:=V2.out.call hb;have hX:=X2.out.call hb;have hC:=(hb.cell (a0e C2.out)).trans C2.out;exact u0I W _ u p (vQ t) F g2 w.heap.size R x hVW hu hLW HEN.out hC mu a1 a2 k1 d1 k2 d2 rfl hX (fun W v u h1 h2 h3=>HF.out W v u hq h1 h2 h3)))
 rw[hw2]at C1;clear hk1 hk2 hmu hN hD hv c1 c2 hF hL hen;go_enter func216,ntmps216;go_wp2_with fail;refine ny W2 fun w3 hb3=>?_;have y3:=hid (a0a b2.out (hw2 ▸ hb3));clear hb3;go_wp2_with fail;go_ret2
 exact⟨rfl,y3.out⟩
end
section
def x0e (b:Nat)(m1 m2:Bool)(n1 d1 n2 d2:Value)(w:World):Prop:=
 w.cell? ⟨b,0,none⟩=some (.bool m1)/\w.cell? ⟨b,1,none⟩=some n1/\w.cell? ⟨b,2,none⟩=some d1/\w.cell? ⟨b+1,0,none⟩=some (.bool m2)/\w.cell? ⟨b+1,1,none⟩=some n2/\w.cell? ⟨b+1,2,none⟩=some d2
structure Three (w W:World)(m1 m2:Bool)(n1 d1 n2 d2:Value):Prop where
 below:Below w.heap.size w W
 size:W.heap.size=w.heap.size+3
 b0:Blk W w.heap.size #[.bool m1,n1,d1] 126
 b1:Blk W (w.heap.size+1) #[.bool m2,n2,d2] 126
 b2:Blk W (w.heap.size+1+1) #[.bool false,.slice none 0 0,.slice none 0 0] 126
theorem Three.mk' {w W:World}{m1 m2:Bool}{n1 d1 n2 d2:Value}(h:((w.alloc (.cells #[.bool m1,n1,d1] 126)).alloc (.cells #[.bool m2,n2,d2] 126)).alloc (.cells #[.bool false,.slice none 0 0,.slice none 0 0] 126)=W):Three w W m1 m2 n1 d1 n2 d2:=by
 subst h;exact⟨((br0.alloc nr _).alloc (by simp) _).alloc (by simp;omega) _,by simp,((Blk.new w _ _).alloc _).alloc _,(Blk.made (w.alloc _) _ _ (by simp)).alloc _,Blk.made ((w.alloc _).alloc _) _ _ (by simp)⟩
theorem Three.cells {w W V:World}{m1 m2:Bool}{n1 d1 n2 d2:Value}(h:Three w W m1 m2 n1 d1 n2 d2)(hb:Below W.heap.size W V):x0e w.heap.size m1 m2 n1 d1 n2 d2 V:=
 have y0:=h.b0.call hb;have y1:=h.b1.call hb
 ⟨y0.cell 0,y0.cell 1,y0.cell 2,y1.cell 0,y1.cell 1,y1.cell 2⟩
theorem Three.stored {w W V:World}{m1 m2:Bool}{n1 d1 n2 d2:Value}(h:Three w W m1 m2 n1 d1 n2 d2)(hb:Below W.heap.size W V)(x y z:Value):x0e w.heap.size m1 m2 n1 d1 n2 d2 (((V.setCell ⟨w.heap.size+1+1,0,none⟩ x).setCell ⟨w.heap.size+1+1,1,none⟩ y).setCell ⟨w.heap.size+1+1,2,none⟩ z):=
 have y0:=((((h.b0.call hb).other (a:=⟨w.heap.size+1+1,0,none⟩) (by simp;omega) x).other (a:=⟨w.heap.size+1+1,1,none⟩) (by simp;omega) y).other (a:=⟨w.heap.size+1+1,2,none⟩) (by simp;omega) z);have y1:=((((h.b1.call hb).other (a:=⟨w.heap.size+1+1,0,none⟩) (by simp) x).other (a:=⟨w.heap.size+1+1,1,none⟩) (by simp) y).other (a:=⟨w.heap.size+1+1,2,none⟩) (by simp) z)
 ⟨y0.cell 0,y0.cell 1,y0.cell 2,y1.cell 0,y1.cell 1,y1.cell 2⟩
def b1O (w:World)(v u:Value)(p q:Rat)(hp:IsQ .u64 w v p)(hq:IsQ .u64 w u q)
 (h1:(limbs p.num.natAbs).length<=100000) (h2:(limbs p.den).length<=100000) (h3:(limbs q.num.natAbs).length<=100000) (h4:(limbs q.den).length<=100000):
 Calls prog 145 #[v,u] w fun e w'=>f0E .u64 (p*q) e w'/\Below w.heap.size w w':=by
 have hq0:=j0q p q;obtain⟨Q,hQ⟩:=gn (p*q);rw[hQ]at hq0 |-;have hD:=hid (Eb p.den_pos q.den_pos);obtain⟨N1,D1,rfl,hn1,hd1⟩:=hp.ex;obtain⟨N2,D2,rfl,hn2,hd2⟩:=hq.ex;clear hp hq hQ;generalize decide (p.num<0)=m1 at *
 generalize decide (q.num<0)=m2 at *
 generalize p.num.natAbs=n1 at *
 generalize q.num.natAbs=n2 at *
 generalize p.den=d1 at *
 generalize q.den=d2 at *
 have HQ:=hid hq0;clear hq0;obtain⟨HN1,HD1,HN2,HD2,L1,L2,H1,H2,H3,H4⟩:=ky hn1 hd1 hn2 hd2 (J0 (d0H h1 h3) (show 100000+100000<=1000000 by omega)) (J0 (d0H h2 h4) (show 100000+100000<=1000000 by omega)) (J0 h1 (show 100000<=1000000 by omega)) (J0 h2 (show 100000<=1000000 by omega)) (J0 h3 (show 100000<=1000000 by omega)) (J0 h4 (show 100000<=1000000 by omega));clear h1 h2 h3 h4;obtain⟨a1,c1,rfl,_⟩:=hn1.openI;obtain⟨a2,c2,rfl,_⟩:=hd1.openI;obtain⟨a3,c3,rfl,_⟩:=hn2.openI;obtain⟨a4,c4,rfl,_⟩:=hd2.openI;clear hn1 hd1 hn2 hd2;go_enter func145,ntmps145;go_wp2_with fail;obtain⟨W,hW⟩:=gn (((w.alloc (.cells #[.bool m1,.slice a1 (limbs n1).length c1,.slice a2 (limbs d1).length c2] 126)).alloc (.cells #[.bool m2,.slice a3 (limbs n2).length c3,.slice a4 (limbs d2).length c4] 126)).alloc (.cells #[.bool false,.slice none 0 0,.slice none 0 0] 126));have T:=hid (Three.mk' hW);rw[hW];clear hW;have hS:=T.out.cells br0.drew;obtain⟨B0,C0⟩:=zu (T.out.below.drew) ((J4 W.heap.size W).drew);refine a0j [0,1,2,3,4,5,6,7,8,10,11,12,13] 4 (x0e w.heap.size m1 m2 (.slice a1 (limbs n1).length c1) (.slice a2 (limbs d1).length c2) (.slice a3 (limbs n2).length c3) (.slice a4 (limbs d2).length c4)) (by kernel_rfl) (by kernel_rfl) (by kernel_rfl) (by kernel_rfl) hS ?_
 iterate 13
  refine⟨_,rfl,?_⟩;apply Exists.intro
  refine⟨.inl ⟨by rfl,?_⟩,?_⟩
  .rintro W' ⟨q1,q2,q3,q4,q5,q6⟩;go_simp;try with_reducible rfl
  go_frame
 clear hS;refine a0c (i:=9) (by kernel_rfl) rfl rfl ?_;go_wp2_with fail;refine ng (i0b _ _ _ n1 n2 (HN1.out.call B0.out) (HN2.out.call B0.out) H1.out H3.out) fun v1 w1 hv1 hb1=>?_;have B1:=hid (B0.out.trans (hb1.mono B0.out.size));have C1:=qx C0 hb1;have V1:=hid hv1;clear hb1 hv1;go_wp2_with fail;refine⟨T.out.cells C1.out,?_⟩;refine a0c (i:=14) (by kernel_rfl) rfl rfl ?_;go_wp2_with fail;refine ng (i0b _ _ _ d1 d2 (HD1.out.call B1.out) (HD2.out.call B1.out) H2.out H4.out) fun v2 w2 hv2 hb2=>?_;have B2:=hid (B1.out.trans (hb2.mono B1.out.size));have C2:=qx C1 hb2;obtain⟨V2,W1⟩:=zu hv2 (V1.out.call hb2);clear hb2 hv2;go_wp2_with fail;refine⟨T.out.cells C2.out,?_⟩;refine a0c (i:=15) (by kernel_rfl) rfl rfl ?_;go_wp2_with fail;refine ng (s0G _ _ _ _ (n1*n2) (d1*d2) W1.out V2.out hD.out L1.out L2.out) fun v3 w3 hv3 hb3=>?_;have hbn:(!(m1==m2))=(m1 != m2):=rfl;rw[hbn,HQ.out]at hv3;clear hbn;have B3:=hid (B2.out.trans (hb3.mono B2.out.size));have C3:=qx C2 hb3;clear hb3;obtain⟨N3,D3,rfl,hN3,hD3⟩:=hv3.ex;obtain⟨a5,c5,rfl,_⟩:=hN3.openI;obtain⟨a6,c6,rfl,_⟩:=hD3.openI;obtain⟨k5,hk5⟩:=gn ((limbs Q.num.natAbs).length);obtain⟨k6,hk6⟩:=gn ((limbs Q.den).length);obtain⟨mq,hmq⟩:=gn (decide (Q.num<0));rw[hk5]at hN3 |-;rw[hk6]at hD3 |-;rw[hmq];obtain⟨HN3,HD3,HMQ,Z⟩:=zc hN3 hD3 hmq (T.out.b2.call C3.out);obtain⟨t0,t1,t2⟩:=qz Z.out;obtain⟨t3,t4,t5⟩:=qq Z.out;clear hv3 hN3 hD3 hk5 hk6 hmq;go_wp2_with fail;refine⟨T.out.cells C3.out,?_⟩;refine a0c (i:=16) (by kernel_rfl) rfl rfl ?_;go_wp2_with fail;refine⟨T.out.stored C3.out _ _ _,?_⟩;refine J8 (by kernel_rfl) ?_ _;simp only[b0b];obtain⟨s1,s2⟩:=c0C Z.out mq a5 a6 k5 c5 k6 c6;obtain⟨f0,f1,f2⟩:=qz s2;clear t0 t1 t2 t3 t4 t5;go_wp2_with fail;refine C7 (v:=.agg #[.bool mq,.slice a5 k5 c5,.slice a6 k6 c6]) (by simp[results,results145,go_sem,f0,f1,f2]) rfl ⟨⟨_,rfl,⟨.slice a5 k5 c5,.slice a6 k6 c6,by rw[HMQ.out],s1 _ _ _ HN3.out,s1 _ _ _ HD3.out⟩⟩,?_⟩;exact ((B3.out.setCell (by simp;omega) _).setCell (by simp;omega) _).setCell (by simp;omega) _
def p0i {p q:Rat}{m:Bool}(h1:decide (p.num<0)=m)(h2:decide (q.num<0)=m):qmk m (p.num.natAbs*q.den+q.num.natAbs*p.den) (p.den*q.den)=p+q:=by
 rw[p0l,h1,h2,n0v];rfl
def p0k {p q:Rat}{m1 m2:Bool}(h1:decide (p.num<0)=m1)(h2:decide (q.num<0)=m2)(h:m1≠m2)(hl:p.num.natAbs*q.den<q.num.natAbs*p.den):qmk m2 (q.num.natAbs*p.den-p.num.natAbs*q.den) (p.den*q.den)=p+q:=by
 rw[p0l,h1,h2,n0y h hl];rfl
def p0j {p q:Rat}{m1 m2:Bool}(h1:decide (p.num<0)=m1)(h2:decide (q.num<0)=m2)(h:m1≠m2)(hl:q.num.natAbs*p.den<=p.num.natAbs*q.den):qmk m1 (p.num.natAbs*q.den-q.num.natAbs*p.den) (p.den*q.den)=p+q:=by
 rw[p0l,h1,h2,n0x h hl];rfl
def v0A (w:World)(v u:Value)(p q:Rat)(hp:IsQ .u64 w v p)(hq:IsQ .u64 w u q)
 (h1:(limbs p.num.natAbs).length<=100000) (h2:(limbs p.den).length<=100000) (h3:(limbs q.num.natAbs).length<=100000) (h4:(limbs q.den).length<=100000):
 Calls prog 114 #[v,u] w fun e w'=>f0E .u64 (p+q) e w'/\Below w.heap.size w w':=by
 obtain⟨m1,hm1⟩:=gn (decide (p.num<0));obtain⟨m2,hm2⟩:=gn (decide (q.num<0));have s1:=fun (e:m1=m2)=>p0i (m:=m1) hm1 (hm2.trans e.symm)
 have s2:=p0k hm1 hm2;have s3:=p0j hm1 hm2;obtain⟨Q,hQ⟩:=gn (p+q);rw[hQ]at s1 s2 s3 |-;have hD:=hid (Eb p.den_pos q.den_pos);obtain⟨N1,D1,rfl,hn1,hd1⟩:=hp.ex;obtain⟨N2,D2,rfl,hn2,hd2⟩:=hq.ex;rw[hm1,hm2];clear hp hq hQ hm1 hm2;generalize p.num.natAbs=n1 at *
 generalize q.num.natAbs=n2 at *
 generalize p.den=d1 at *
 generalize q.den=d2 at *
 obtain⟨S1,S2,S3,HN1,HD1,HN2,HD2⟩:=kx s1 s2 s3 hn1 hd1 hn2 hd2;have lx:=d0H h1 h4;have ly:=d0H h3 h2;have ld:=d0H h2 h4;obtain⟨LX,LY,LD,LXY,H1,H2,H3,H4⟩:=kq (J0 lx (show 100000+100000<=200000 by omega)) (J0 ly (show 100000+100000<=200000 by omega)) (J0 ld (show 100000+100000<=1000000 by omega)) (J0 (m0x lx ly) (show 100000+100000+(100000+100000)+1<=1000000 by omega)) (J0 h1 (show 100000<=1000000 by omega)) (J0 h2 (show 100000<=1000000 by omega)) (J0 h3 (show 100000<=1000000 by omega)) (J0 h4 (show 100000<=1000000 by omega));clear h1 h2 h3 h4 lx ly ld s1 s2 s3;obtain⟨a1,c1,rfl,_⟩:=hn1.openI;obtain⟨a2,c2,rfl,_⟩:=hd1.openI;obtain⟨a3,c3,rfl,_⟩:=hn2.openI;obtain⟨a4,c4,rfl,_⟩:=hd2.openI;clear hn1 hd1 hn2 hd2;go_enter func114,ntmps114;go_wp2_with fail;obtain⟨W,hW⟩:=gn (((w.alloc (.cells #[.bool m1,.slice a1 (limbs n1).length c1,.slice a2 (limbs d1).length c2] 126)).alloc (.cells #[.bool m2,.slice a3 (limbs n2).length c3,.slice a4 (limbs d2).length c4] 126)).alloc (.cells #[.bool false,.slice none 0 0,.slice none 0 0] 126));have T:=hid (Three.mk' hW);rw[hW];clear hW;have hS:=T.out.cells br0.drew;obtain⟨B0,C0⟩:=zu (T.out.below.drew) ((J4 W.heap.size W).drew);refine a0j [0,1,2,3,5,6,7,8] 4 (x0e w.heap.size m1 m2 (.slice a1 (limbs n1).length c1) (.slice a2 (limbs d1).length c2) (.slice a3 (limbs n2).length c3) (.slice a4 (limbs d2).length c4)) (by kernel_rfl) (by kernel_rfl) (by kernel_rfl) (by kernel_rfl) hS ?_
 iterate 8
  refine⟨_,rfl,?_⟩;apply Exists.intro
  refine⟨.inl ⟨by rfl,?_⟩,?_⟩
  .rintro W' ⟨q1,q2,q3,q4,q5,q6⟩;go_simp;try with_reducible rfl
  go_frame
 clear hS;refine a0c (i:=4) (by kernel_rfl) rfl rfl ?_;go_wp2_with fail;refine ng (i0b _ _ _ n1 d2 (HN1.out.call B0.out) (HD2.out.call B0.out) H1.out H4.out) fun v1 w1 hv1 hb1=>?_;have B1:=hid (B0.out.trans (hb1.mono B0.out.size));have C1:=qx C0 hb1;have V1:=hid hv1;clear hb1 hv1;go_wp2_with fail;refine⟨T.out.cells C1.out,?_⟩;refine a0c (i:=9) (by kernel_rfl) rfl rfl ?_;go_wp2_with fail;refine ng (i0b _ _ _ n2 d1 (HN2.out.call B1.out) (HD1.out.call B1.out) H3.out H2.out) fun v2 w2 hv2 hb2=>?_;have B2:=hid (B1.out.trans (hb2.mono B1.out.size));have C2:=qx C1 hb2;obtain⟨V2,W1⟩:=zu hv2 (V1.out.call hb2);clear hb2 hv2;go_wp2_with fail;refine⟨T.out.cells C2.out,?_⟩;refine a0V (is:=[10,11]) (g:=0) (by kernel_rfl) rfl (T.out.cells C2.out) (by kernel_rfl) ?_
 iterate 2
  refine⟨_,rfl,?_⟩;apply Exists.intro
  refine⟨.inl ⟨by rfl,?_⟩,?_⟩
  ·(intro W' hW';clear hW';go_simp;try (with_reducible rfl))
  go_frame
 refine J8 (by kernel_rfl) ?_ _;simp only[b0b];obtain⟨k0,k1,k2,k3,k4,k5⟩:=T.out.cells C2.out;go_wp2_with fail;refine ng (i0b _ _ _ d1 d2 (HD1.out.call B2.out) (HD2.out.call B2.out) H2.out H4.out) fun v3 w3 hv3 hb3=>?_;have B3:=hid (B2.out.trans (hb3.mono B2.out.size));have C3:=qx C2 hb3;obtain⟨V3,X1,X2⟩:=zg hv3 (W1.out.call hb3) (V2.out.call hb3);clear hb3 hv3 k0 k1 k2 k3 k4 k5;go_wp2_with fail;refine nj (m0A _ _ _ (n1*d2) (n2*d1) X1.out X2.out (J0 LX.out (by omega))) fun w4 hb4=>?_;have B4:=hid (B3.out.trans (hb4.mono B3.out.size));have C4:=qx C3 hb4;obtain⟨V4,Y1,Y2⟩:=zg (V3.out.call hb4) (X1.out.call hb4) (X2.out.call hb4);clear hb4;obtain⟨k0,k1,k2,k3,k4,k5⟩:=T.out.cells C4.out;clear B0 B1 B2 B3 C0 C1 C2 C3 V1 V2 V3 W1 X1 X2;obtain⟨X,hX⟩:=gn (n1*d2);obtain⟨Y,hY⟩:=gn (n2*d1);obtain⟨E,hE⟩:=gn (d1*d2);rw[hX]at S1 S2 S3 LX LXY Y1 |-;rw[hY]at S1 S2 S3 LY LXY Y2 |-;rw[hE]at S1 S2 S3 LD V4 hD;clear hX hY hE;by_cases em:m1=m2
 focus
  have q0:(m1==m2)=true:=by rw[em];exact beq_self_eq_true m2
  have LA:=fun W' (h:Below w4.heap.size w4 W')=>hid (b1u W' _ _ X Y (Y1.out.call h) (Y2.out.call h) (J0 LX.out (by omega)) (J0 LY.out (by omega)))
  have LR:=LXY;have SQ:=hid (S1.out em);clear em;obtain⟨R,hR⟩:=gn (X+Y);rw[hR]at LA LR SQ;clear hR
 rotate_left
 focus
  have q0:(m1==m2)=false:=by simpa using em
  have HE:=hid em;clear em;by_cases hc:X<Y
  focus
   have LA:=fun W' (h:Below w4.heap.size w4 W')=>hid (y0A W' _ _ Y X (Y2.out.call h) (Y1.out.call h) (De hc) (J0 LY.out (by omega)))
   have LR:Hid ((limbs (Y-X)).length<=1000000):=J0 (a0h (Hv Y X)) (J0 LY.out (by omega));have SQ:=hid (S2.out HE.out hc);rw[b0N hc];clear hc;obtain⟨R,hR⟩:=gn (Y-X);rw[hR]at LA LR SQ;clear hR
  rotate_left
  focus
   have q1:decide (b0g X Y<0)=false:=by
    rcases Ct Y X with h | h
    .rw[c0k h];rfl
    .rw[show X=Y by omega,c0P];rfl
   have hle:Y<=X:=by omega
   have LA:=fun W' (h:Below w4.heap.size w4 W')=>hid (y0A W' _ _ X Y (Y1.out.call h) (Y2.out.call h) hle (J0 LX.out (by omega)))
   have LR:Hid ((limbs (X-Y)).length<=1000000):=J0 (a0h (Hv X Y)) (J0 LX.out (by omega));have SQ:=hid (S3.out HE.out hle);clear hc hle;obtain⟨R,hR⟩:=gn (X-Y);rw[hR]at LA LR SQ;clear hR
 all_goals
  go_wp2_with fail;have hS:=T.out.cells C4.out.drew;obtain⟨B0,C0⟩:=zu B4.out.drew C4.out.drew;refine a0j [0,1,2,3,5] 3 (x0e w.heap.size m1 m2 (.slice a1 (limbs n1).length c1) (.slice a2 (limbs d1).length c2) (.slice a3 (limbs n2).length c3) (.slice a4 (limbs d2).length c4)) (by kernel_rfl) (by kernel_rfl) (by kernel_rfl) (by kernel_rfl) hS ?_
  iterate 5
   refine⟨_,rfl,?_⟩;apply Exists.intro
   refine⟨.inl ⟨by rfl,?_⟩,?_⟩
   .rintro W' ⟨q1,q2,q3,q4,q5,q6⟩;go_simp;try with_reducible rfl
   go_frame
  clear hS;refine a0c (i:=4) (by kernel_rfl) rfl rfl ?_;go_wp2_with fail;refine nu (LA _ br0.drew) fun v5 w5 hv5 hb5=>?_;obtain⟨B5,C5,V5,E5⟩:=zc (B0.out.trans (hb5.mono B0.out.size)) (C0.out.trans (hb5.mono C0.out.size)) hv5 (V4.out.call (show Below w4.heap.size w4 w5 from br0.drew.trans hb5));clear hb5 hv5;go_wp2_with fail;refine⟨T.out.cells C5.out,?_⟩;refine a0c (i:=6) (by kernel_rfl) rfl rfl ?_;go_wp2_with fail;refine ng (s0G _ _ _ _ R E V5.out E5.out hD.out LR.out LD.out) fun v3 w6 hv3 hb6=>?_;rw[SQ.out]at hv3;obtain⟨B6,C6⟩:=zu (B5.out.trans (hb6.mono B5.out.size)) (C5.out.trans (hb6.mono C5.out.size));clear hb6;obtain⟨N3,D3,rfl,hN3,hD3⟩:=hv3.ex;obtain⟨a5,c5,rfl,_⟩:=hN3.openI;obtain⟨a6,c6,rfl,_⟩:=hD3.openI;obtain⟨k5,hk5⟩:=gn ((limbs Q.num.natAbs).length);obtain⟨k6,hk6⟩:=gn ((limbs Q.den).length);obtain⟨mq,hmq⟩:=gn (decide (Q.num<0));rw[hk5]at hN3 |-;rw[hk6]at hD3 |-;rw[hmq];obtain⟨HN3,HD3,HMQ,Z⟩:=zc hN3 hD3 hmq (T.out.b2.call C6.out);obtain⟨t0,t1,t2⟩:=qz Z.out;obtain⟨t3,t4,t5⟩:=qq Z.out;clear hv3 hN3 hD3 hk5 hk6 hmq;go_wp2_with fail;refine⟨T.out.cells C6.out,?_⟩;refine a0c (i:=7) (by kernel_rfl) rfl rfl ?_;go_wp2_with fail;refine⟨T.out.stored C6.out _ _ _,?_⟩;refine J8 (by kernel_rfl) ?_ _;simp only[b0b];obtain⟨s1,s2⟩:=c0C Z.out mq a5 a6 k5 c5 k6 c6;obtain⟨f0,f1,f2⟩:=qz s2;clear t0 t1 t2 t3 t4 t5;go_wp2_with fail;refine C7 (v:=.agg #[.bool mq,.slice a5 k5 c5,.slice a6 k6 c6]) (by simp[results,results114,go_sem,f0,f1,f2]) rfl ⟨⟨_,rfl,⟨.slice a5 k5 c5,.slice a6 k6 c6,by rw[HMQ.out],s1 _ _ _ HN3.out,s1 _ _ _ HD3.out⟩⟩,?_⟩;exact ((B6.out.setCell (by simp;omega) _).setCell (by simp;omega) _).setCell (by simp;omega) _
def c1V (w:World)(v u:Value)(p q:Rat)(hp:IsQ .u64 w v p)(hq:IsQ .u64 w u q)
 (h1:(limbs p.num.natAbs).length<=100000) (h2:(limbs p.den).length<=100000) (h3:(limbs q.num.natAbs).length<=100000) (h4:(limbs q.den).length<=100000):
 Calls prog 165 #[v,u] w fun e w'=>f0E .u64 (p-q) e w'/\Below w.heap.size w w':=by
 have e1:p + -q=p-q:=(Id p q).symm;have F1:=fun V v h=>hid (c1Y V v q h)
 have F2:=fun V v u hv hu=>hid (v0A V v u p (-q) hv hu h1 h2 (by rw[Ij,Hw];exact h3) (by rw[Ld];exact h4))
 rw[e1]at F2;obtain⟨Q,hQ⟩:=gn (p-q);rw[hQ]at F2 |-;obtain⟨HP,HQ'⟩:=zu hp hq;obtain⟨N1,D1,rfl,hn1,hd1⟩:=hp.ex;obtain⟨N2,D2,rfl,hn2,hd2⟩:=hq.ex;obtain⟨a1,c1,rfl,_⟩:=hn1.openI;obtain⟨a2,c2,rfl,_⟩:=hd1.openI;obtain⟨a3,c3,rfl,_⟩:=hn2.openI;obtain⟨a4,c4,rfl,_⟩:=hd2.openI;clear hp hq hQ e1 hn1 hd1 hn2 hd2 h1 h2 h3 h4;obtain⟨m1,hm1⟩:=gn (decide (p.num<0));obtain⟨m2,hm2⟩:=gn (decide (q.num<0));obtain⟨l1,hl1⟩:=gn ((limbs p.num.natAbs).length);obtain⟨l2,hl2⟩:=gn ((limbs p.den).length);obtain⟨l3,hl3⟩:=gn ((limbs q.num.natAbs).length);obtain⟨l4,hl4⟩:=gn ((limbs q.den).length);rw[hm1,hl1,hl2]at HP;rw[hm2,hl3,hl4]at HQ';rw[hm1,hm2,hl1,hl2,hl3,hl4];clear hm1 hm2 hl1 hl2 hl3 hl4;go_enter func165,ntmps165;go_wp2_with fail;obtain⟨W,hW⟩:=gn (((w.alloc (.cells #[.bool m1,.slice a1 l1 c1,.slice a2 l2 c2] 126)).alloc (.cells #[.bool m2,.slice a3 l3 c3,.slice a4 l4 c4] 126)).alloc (.cells #[.bool false,.slice none 0 0,.slice none 0 0] 126));have T:=hid (Three.mk' hW);rw[hW];clear hW;have hS:=T.out.cells br0.drew;obtain⟨B0,C0⟩:=zu (T.out.below.drew) ((J4 W.heap.size W).drew);refine a0j [0,1] 3 (x0e w.heap.size m1 m2 (.slice a1 l1 c1) (.slice a2 l2 c2) (.slice a3 l3 c3) (.slice a4 l4 c4)) (by kernel_rfl) (by kernel_rfl) (by kernel_rfl) (by kernel_rfl) hS ?_
 iterate 2
  refine⟨_,rfl,?_⟩;apply Exists.intro
  refine⟨.inl ⟨by rfl,?_⟩,?_⟩
  .rintro W' ⟨q1,q2,q3,q4,q5,q6⟩;go_simp;try with_reducible rfl
  go_frame
 clear hS;refine a0c (i:=2) (by kernel_rfl) rfl rfl ?_;go_wp2_with fail;refine nu (F1 _ _ (HQ'.out.call B0.out)) fun v1 w1 hv1 hb1=>?_;have B1:=hid (B0.out.trans (hb1.mono B0.out.size));have C1:=qx C0 hb1;have V1:=hid hv1;clear hb1 hv1;go_wp2_with fail;refine⟨T.out.cells C1.out,?_⟩;refine a0c (i:=3) (by kernel_rfl) rfl rfl ?_;go_wp2_with fail;refine nu (F2 _ _ _ (HP.out.call B1.out) V1.out) fun v3 w3 hv3 hb3=>?_;have B3:=hid (B1.out.trans (hb3.mono B1.out.size));have C3:=qx C1 hb3;clear hb3;obtain⟨N3,D3,rfl,hN3,hD3⟩:=hv3.ex;obtain⟨a5,c5,rfl,_⟩:=hN3.openI;obtain⟨a6,c6,rfl,_⟩:=hD3.openI;obtain⟨k5,hk5⟩:=gn ((limbs Q.num.natAbs).length);obtain⟨k6,hk6⟩:=gn ((limbs Q.den).length);obtain⟨mq,hmq⟩:=gn (decide (Q.num<0));rw[hk5]at hN3 |-;rw[hk6]at hD3 |-;rw[hmq];obtain⟨HN3,HD3,HMQ,Z⟩:=zc hN3 hD3 hmq (T.out.b2.call C3.out);obtain⟨t0,t1,t2⟩:=qz Z.out;obtain⟨t3,t4,t5⟩:=qq Z.out;clear hv3 hN3 hD3 hk5 hk6 hmq;go_wp2_with fail;refine⟨T.out.cells C3.out,?_⟩;refine a0c (i:=4) (by kernel_rfl) rfl rfl ?_;go_wp2_with fail;refine⟨T.out.stored C3.out _ _ _,?_⟩;refine J8 (by kernel_rfl) ?_ _;simp only[b0b];obtain⟨s1,s2⟩:=c0C Z.out mq a5 a6 k5 c5 k6 c6;obtain⟨f0,f1,f2⟩:=qz s2;clear t0 t1 t2 t3 t4 t5;go_wp2_with fail;refine C7 (v:=.agg #[.bool mq,.slice a5 k5 c5,.slice a6 k6 c6]) (by simp[results,results165,go_sem,f0,f1,f2]) rfl ⟨⟨_,rfl,⟨.slice a5 k5 c5,.slice a6 k6 c6,by rw[HMQ.out],s1 _ _ _ HN3.out,s1 _ _ _ HD3.out⟩⟩,?_⟩;exact ((B3.out.setCell (by simp;omega) _).setCell (by simp;omega) _).setCell (by simp;omega) _
def c1Z (w:World)(v u:Value)(p q:Rat)(hp:IsQ .u64 w v p)(hq:IsQ .u64 w u q)(h0:q≠0)
 (h1:(limbs p.num.natAbs).length<=100000) (h2:(limbs p.den).length<=100000) (h3:(limbs q.num.natAbs).length<=100000) (h4:(limbs q.den).length<=100000):
 Calls prog 115 #[v,u] w fun e w'=>f0E .u64 (p / q) e w'/\Below w.heap.size w w':=by
 have e1:p*q⁻¹ = p / q:=(Rat.div_def p q).symm;have F1:=fun V v h=>hid (b1P V v q h h0)
 have F2:=fun V v u hv hu=>hid (b1O V v u p q⁻¹ hv hu h1 h2 (by rw[(d0p h0).2.1];exact h4) (by rw[(d0p h0).2.2];exact h3))
 rw[e1]at F2;obtain⟨Q,hQ⟩:=gn (p / q);rw[hQ]at F2 |-;obtain⟨HP,HQ'⟩:=zu hp hq;obtain⟨N1,D1,rfl,hn1,hd1⟩:=hp.ex;obtain⟨N2,D2,rfl,hn2,hd2⟩:=hq.ex;obtain⟨a1,c1,rfl,_⟩:=hn1.openI;obtain⟨a2,c2,rfl,_⟩:=hd1.openI;obtain⟨a3,c3,rfl,_⟩:=hn2.openI;obtain⟨a4,c4,rfl,_⟩:=hd2.openI;clear hp hq hQ e1 hn1 hd1 hn2 hd2 h0 h1 h2 h3 h4;obtain⟨m1,hm1⟩:=gn (decide (p.num<0));obtain⟨m2,hm2⟩:=gn (decide (q.num<0));obtain⟨l1,hl1⟩:=gn ((limbs p.num.natAbs).length);obtain⟨l2,hl2⟩:=gn ((limbs p.den).length);obtain⟨l3,hl3⟩:=gn ((limbs q.num.natAbs).length);obtain⟨l4,hl4⟩:=gn ((limbs q.den).length);rw[hm1,hl1,hl2]at HP;rw[hm2,hl3,hl4]at HQ';rw[hm1,hm2,hl1,hl2,hl3,hl4];clear hm1 hm2 hl1 hl2 hl3 hl4;go_enter func115,ntmps115;go_wp2_with fail;obtain⟨W,hW⟩:=gn (((w.alloc (.cells #[.bool m1,.slice a1 l1 c1,.slice a2 l2 c2] 126)).alloc (.cells #[.bool m2,.slice a3 l3 c3,.slice a4 l4 c4] 126)).alloc (.cells #[.bool false,.slice none 0 0,.slice none 0 0] 126));have T:=hid (Three.mk' hW);rw[hW];clear hW;have hS:=T.out.cells br0.drew;obtain⟨B0,C0⟩:=zu (T.out.below.drew) ((J4 W.heap.size W).drew);refine a0j [0,1] 3 (x0e w.heap.size m1 m2 (.slice a1 l1 c1) (.slice a2 l2 c2) (.slice a3 l3 c3) (.slice a4 l4 c4)) (by kernel_rfl) (by kernel_rfl) (by kernel_rfl) (by kernel_rfl) hS ?_
 iterate 2
  refine⟨_,rfl,?_⟩;apply Exists.intro
  refine⟨.inl ⟨by rfl,?_⟩,?_⟩
  .rintro W' ⟨q1,q2,q3,q4,q5,q6⟩;go_simp;try with_reducible rfl
  go_frame
 clear hS;refine a0c (i:=2) (by kernel_rfl) rfl rfl ?_;go_wp2_with fail;refine nu (F1 _ _ (HQ'.out.call B0.out)) fun v1 w1 hv1 hb1=>?_;have B1:=hid (B0.out.trans (hb1.mono B0.out.size));have C1:=qx C0 hb1;have V1:=hid hv1;clear hb1 hv1;go_wp2_with fail;refine⟨T.out.cells C1.out,?_⟩;refine a0c (i:=3) (by kernel_rfl) rfl rfl ?_;go_wp2_with fail;refine nu (F2 _ _ _ (HP.out.call B1.out) V1.out) fun v3 w3 hv3 hb3=>?_;have B3:=hid (B1.out.trans (hb3.mono B1.out.size));have C3:=qx C1 hb3;clear hb3;obtain⟨N3,D3,rfl,hN3,hD3⟩:=hv3.ex;obtain⟨a5,c5,rfl,_⟩:=hN3.openI;obtain⟨a6,c6,rfl,_⟩:=hD3.openI;obtain⟨k5,hk5⟩:=gn ((limbs Q.num.natAbs).length);obtain⟨k6,hk6⟩:=gn ((limbs Q.den).length);obtain⟨mq,hmq⟩:=gn (decide (Q.num<0));rw[hk5]at hN3 |-;rw[hk6]at hD3 |-;rw[hmq];obtain⟨HN3,HD3,HMQ,Z⟩:=zc hN3 hD3 hmq (T.out.b2.call C3.out);obtain⟨t0,t1,t2⟩:=qz Z.out;obtain⟨t3,t4,t5⟩:=qq Z.out;clear hv3 hN3 hD3 hk5 hk6 hmq;go_wp2_with fail;refine⟨T.out.cells C3.out,?_⟩;refine a0c (i:=4) (by kernel_rfl) rfl rfl ?_;go_wp2_with fail;refine⟨T.out.stored C3.out _ _ _,?_⟩;refine J8 (by kernel_rfl) ?_ _;simp only[b0b];obtain⟨s1,s2⟩:=c0C Z.out mq a5 a6 k5 c5 k6 c6;obtain⟨f0,f1,f2⟩:=qz s2;clear t0 t1 t2 t3 t4 t5;go_wp2_with fail;refine C7 (v:=.agg #[.bool mq,.slice a5 k5 c5,.slice a6 k6 c6]) (by simp[results,results115,go_sem,f0,f1,f2]) rfl ⟨⟨_,rfl,⟨.slice a5 k5 c5,.slice a6 k6 c6,by rw[HMQ.out],s1 _ _ _ HN3.out,s1 _ _ _ HD3.out⟩⟩,?_⟩;exact ((B3.out.setCell (by simp;omega) _).setCell (by simp;omega) _).setCell (by simp;omega) _
open Go.Shelf
def r0q (w:World)(s t:ByteArray)(F:Nat)(R:ByteArray)(x:Int)(hs:s.size<=1000000)(ht:t.size<=1000000)(hL:Lay w)
 (hen:∀ args w,(callFunc F args).run prog w=.ok (.enter F args) w)
 (hF:∀ W v u,qE s=0->qE t=0->IsQ .u64 W v (vQ s)->IsQ .u64 W u (vQ t)->Lay W->Calls prog F #[v,u] W fun e w'=>e=.returned (.tuple #[.string R,.int .i64 x])/\Below W.heap.size W w'):
 qb 143 #[.string s,.string t,.func (.func F) #[] #[]] w (.tuple #[.string (tB R s t),.int .i64 (tE x s t)]):=by
 obtain⟨HF,HL,HEN,HT,b1⟩:=zd hF hL hen ht ((J4 w.heap.size w).alloc nr (.cells #[.string t] 23));obtain⟨w1,hw1⟩:=gn (w.alloc (.cells #[.string t] 23));obtain⟨g1,hg1⟩:=gn (w.heap.size);have X1:=hid (Blk.new w #[.string t] 23);rw[hw1]at b1;rw[hw1,hg1]at X1;have b2:=hid ((J4 w1.heap.size w1).alloc nr (.cells #[.func (.func F) #[] #[]] 150));obtain⟨w2,hw2⟩:=gn (w1.alloc (.cells #[.func (.func F) #[] #[]] 150));obtain⟨X2,X12⟩:=zu (Blk.new w1 #[.func (.func F) #[] #[]] 150) (X1.out.call b2.out);have y2:=qx b1 b2.out;have hg2:w1.heap.size=g1+1:=by rw[<- hw1,<- hg1];simp
 rw[hw2]at b2 X12 y2;rw[hw2,hg2]at X2;have L2:=hid (HL.out.call y2.out)
 have W2:=hid (n0P w2 s 216 #[.pointer (some ⟨g1,0,none⟩),.pointer (some ⟨g1+1,0,none⟩)] (wB R t) (wE x t) hs L2.out (Cw func216 (by kernel_rfl) rfl)
  (fun W v hq hb hv hLW=>by
   have hX1:=(X12.out.call hb).cell 0;have hX2:=(X2.out.call hb).cell 0;exact y0a W v t (vQ s) F g1 (g1+1) R x HT.out hv hLW HEN.out hX1 hX2 (fun W v u h0 h1 h2 h3=>HF.out W v u hq h0 h1 h2 h3)))
 obtain⟨HW1,HW2,HG1⟩:=zg hw1 hw2 hg1;clear hF hL hen hs ht hw1 hw2 hg1 hg2 b1;go_enter func143,ntmps143;go_wp2_with fail;have hw1:=HW1.out;have hw2:=HW2.out;have hg1:=HG1.out;rw[hw1,hg1,hw2];refine nw W2 y2 fun w3 y3=>?_;clear hw1 hw2 hg1;go_wp2_with fail;go_ret2
 exact⟨rfl,by have:=y3.out;exact this⟩
structure Sml (K:Nat)(q:Rat):Prop where
 n:(limbs q.num.natAbs).length<=K
 d:(limbs q.den).length<=K
def d0x {s:ByteArray}(h:qE s=0):Sml 1000 (vQ s):=by
 obtain⟨-,e2,e3⟩:=i0W h;obtain⟨-,-,-,l1,l2,-⟩:=t0N h;exact⟨by rw[e2];exact J0 (a0n l1) (by omega),by rw[e3];exact J0 (a0n l2) (by omega)⟩
theorem Sml.up {K L:Nat}{q:Rat}(h:Sml K q)(hl:K<=L):Sml L q:=⟨J0 h.n hl,J0 h.d hl⟩
def x0v {K:Nat}{q:Rat}(h:Sml K q):Sml K (-q):=⟨by rw[Ij,Hw];exact h.n,by rw[Ld];exact h.d⟩
def w0l {K:Nat}{z:Int}{d:Nat}(hd:0<d)(h1:(limbs z.natAbs).length<=K)(h2:(limbs d).length<=K):Sml K (mkRat z d):=by
 refine⟨?_,?_⟩
 .rw[Kh,J2 (by omega)];refine J0 (a0h ?_) h1;exact Je _ _
 .rw[Oj,J2 (by omega)];exact J0 (a0h (Ef _ _)) h2
def n0q {K L:Nat}{p q:Rat}(hp:Sml K p)(hq:Sml L q):Sml (K+L) (p*q):=by
 rw[<- j0q];unfold qmk;exact w0l (Eb p.den_pos q.den_pos) (by rw[b0r];exact a0H hp.n hq.n) (a0H hp.d hq.d)
def j0c {K L:Nat}{p q:Rat}(hp:Sml K p)(hq:Sml L q):Sml (K+L+(K+L)+1) (p+q):=by
 rw[p0l];refine w0l (Eb p.den_pos q.den_pos) ?_ (J0 (a0H hp.d hq.d) (by omega));refine J0 (a0h (i0p _ _ _ _)) ?_;exact J0 (m0x (a0H hp.n hq.d) (a0H hq.n hp.d)) (by omega)
def x0w {p q:Rat}(hp:Sml 1000 p)(hq:Sml 1000 q):Sml 10000 (p*q):=(n0q hp hq).up (by omega)
def q0M {p q:Rat}(hp:Sml 1000 p)(hq:Sml 1000 q):Sml 10000 (p+q):=(j0c hp hq).up (by omega)
def x0u {p q:Rat}(hp:Sml 1000 p)(hq:Sml 1000 q):Sml 10000 (p-q):=by rw[Id];exact q0M hp (x0v hq)
def t2B {f:Rat->Rat->Rat}{s t:ByteArray}:tB (c0b (f (vQ s) (vQ t))) s t=b0D f s t:=by
 unfold tB wB b0D;by_cases h1:qE s=0<;>by_cases h2:qE t=0<;>simp[h1,h2]
def t2E {f:Rat->Rat->Rat}{s t:ByteArray}:tE (c0p (f (vQ s) (vQ t))) s t=f0F f s t:=by
 unfold tE wE f0F;by_cases h1:qE s=0<;>by_cases h2:qE t=0<;>simp[h1,h2]
def x0Y (w:World)(v u:Value)(p q Q:Rat)(hp:IsQ .u64 w v p)(hq:IsQ .u64 w u q)(sQ:Sml 10000 Q)(hL:Lay w):
 ((∀ V v u,IsQ .u64 V v p->IsQ .u64 V u q->Calls prog 145 #[v,u] V fun e w'=>f0E .u64 Q e w'/\Below V.heap.size V w')->Calls prog 144 #[v,u] w fun e w'=>e=.returned (.tuple #[.string (c0b Q),.int .i64 (c0p Q)])/\Below w.heap.size w w') /\
 ((∀ V v u,IsQ .u64 V v p->IsQ .u64 V u q->Calls prog 114 #[v,u] V fun e w'=>f0E .u64 Q e w'/\Below V.heap.size V w')->Calls prog 245 #[v,u] w fun e w'=>e=.returned (.tuple #[.string (c0b Q),.int .i64 (c0p Q)])/\Below w.heap.size w w') /\
 ((∀ V v u,IsQ .u64 V v p->IsQ .u64 V u q->Calls prog 165 #[v,u] V fun e w'=>f0E .u64 Q e w'/\Below V.heap.size V w')->Calls prog 164 #[v,u] w fun e w'=>e=.returned (.tuple #[.string (c0b Q),.int .i64 (c0p Q)])/\Below w.heap.size w w'):=by
 have F2:=fun V v hv hV=>hid (s0F V v Q hv (J0 sQ.n (by omega)) (J0 sQ.d (by omega)) hV)
 refine⟨fun F1=>?_,fun F1=>?_,fun F1=>?_⟩
 all_goals
  have HL:=hid hL;obtain⟨N1,D1,rfl,hn1,hd1⟩:=hp.ex;obtain⟨N2,D2,rfl,hn2,hd2⟩:=hq.ex;obtain⟨a1,c1,rfl,_⟩:=hn1.openI;obtain⟨a2,c2,rfl,_⟩:=hd1.openI;obtain⟨a3,c3,rfl,_⟩:=hn2.openI;obtain⟨a4,c4,rfl,_⟩:=hd2.openI;obtain⟨k1,hk1⟩:=gn ((limbs p.num.natAbs).length);obtain⟨k2,hk2⟩:=gn ((limbs p.den).length);obtain⟨k3,hk3⟩:=gn ((limbs q.num.natAbs).length);obtain⟨k4,hk4⟩:=gn ((limbs q.den).length);obtain⟨m1,hm1⟩:=gn (decide (p.num<0));obtain⟨m2,hm2⟩:=gn (decide (q.num<0));rw[hk1,hk2,hm1]at hp |-;rw[hk3,hk4,hm2]at hq |-;obtain⟨X1,b1⟩:=zu (Blk.new w #[.bool m1,.slice a1 k1 c1,.slice a2 k2 c2] 126) ((J4 w.heap.size w).alloc nr (.cells #[.bool m1,.slice a1 k1 c1,.slice a2 k2 c2] 126));obtain⟨Y1,X2,b2⟩:=zg (X1.out.alloc (.cells #[.bool m2,.slice a3 k3 c3,.slice a4 k4 c4] 126)) (Blk.new (w.alloc (.cells #[.bool m1,.slice a1 k1 c1,.slice a2 k2 c2] 126)) #[.bool m2,.slice a3 k3 c3,.slice a4 k4 c4] 126) (b1.out.alloc b1.out.size (.cells #[.bool m2,.slice a3 k3 c3,.slice a4 k4 c4] 126));obtain⟨P2,Q2⟩:=zu (hp.call b2.out) (hq.call b2.out);obtain⟨r0,r1,r2⟩:=qz Y1.out;obtain⟨s0,s1,s2⟩:=qz X2.out;clear hk1 hk2 hk3 hk4 hm1 hm2 hn1 hn2 hd1 hd2 hp hq hL sQ
  first
   | go_enter func144,ntmps144
   | go_enter func245,ntmps245
   | go_enter func164,ntmps164
  go_wp2_with fail;refine ng (F1 _ _ _ P2.out Q2.out) fun v3 w3 hv3 hb3=>?_;have y3:=qx b2 hb3;obtain⟨N3,D3,rfl,hn3,hd3⟩:=hv3.ex;obtain⟨a5,c5,rfl,_⟩:=hn3.openI;obtain⟨a6,c6,rfl,_⟩:=hd3.openI;obtain⟨k5,hk5⟩:=gn ((limbs Q.num.natAbs).length);obtain⟨k6,hk6⟩:=gn ((limbs Q.den).length);obtain⟨m3,hm3⟩:=gn (decide (Q.num<0));rw[hk5,hk6,hm3]at hv3 |-;have V3:=hid hv3;clear hb3 hv3 hn3 hd3 hk5 hk6 hm3;go_wp2_with fail;refine nw (F2 _ _ V3.out (HL.out.call y3.out)) y3 fun w4 y4=>?_;go_wp2_with fail;go_ret2
  exact⟨rfl,y4.out⟩
def a1R (w:World)(v u:Value)(p q:Rat)(hp:IsQ .u64 w v p)(hq:IsQ .u64 w u q)(sp:Sml 1000 p)(sq:Sml 1000 q)(hL:Lay w):
 qb 144 #[v,u] w (.tuple #[.string (c0b (p*q)),.int .i64 (c0p (p*q))]):=
 (x0Y w v u p q _ hp hq (x0w sp sq) hL).1 fun V v u hv hu=>b1O V v u p q hv hu (J0 sp.n (by omega)) (J0 sp.d (by omega)) (J0 sq.n (by omega)) (J0 sq.d (by omega))
def a1S (w:World)(s t:ByteArray)(hs:s.size<=1000000)(ht:t.size<=1000000)(hL:Lay w):
 qb 50 #[.string s,.string t] w (.tuple #[.string (b0D (· * ·) s t),.int .i64 (f0F (· * ·) s t)]):=by
 have H:=hid (r0q w s t 144 (c0b (vQ s*vQ t)) (c0p (vQ s*vQ t)) hs ht hL (Cw func144 (by kernel_rfl) rfl)
  (fun W v u h1 h2 hv hu hLW=>a1R W v u _ _ hv hu (d0x h1) (d0x h2) hLW))
 rw[t2B,t2E (f:=(· * ·))]at H;obtain⟨B,hB⟩:=gn (b0D (· * ·) s t);obtain⟨E,hE⟩:=gn (f0F (· * ·) s t);rw[hB,hE]at H |-;clear hB hE hs ht hL;go_enter func50,ntmps50;go_wp2_with fail;refine nz H fun w1 y1=>?_;go_wp2_with fail;go_ret2
 exact⟨rfl,y1.out⟩
def a1V (w:World)(v u:Value)(p q:Rat)(hp:IsQ .u64 w v p)(hq:IsQ .u64 w u q)(sp:Sml 1000 p)(sq:Sml 1000 q)(hL:Lay w):
 qb 245 #[v,u] w (.tuple #[.string (c0b (p+q)),.int .i64 (c0p (p+q))]):=
 (x0Y w v u p q _ hp hq (q0M sp sq) hL).2.1 fun V v u hv hu=>v0A V v u p q hv hu (J0 sp.n (by omega)) (J0 sp.d (by omega)) (J0 sq.n (by omega)) (J0 sq.d (by omega))
def c1L (w:World)(s t:ByteArray)(hs:s.size<=1000000)(ht:t.size<=1000000)(hL:Lay w):
 qb 183 #[.string s,.string t] w (.tuple #[.string (b0D (· + ·) s t),.int .i64 (f0F (· + ·) s t)]):=by
 have H:=hid (r0q w s t 245 (c0b (vQ s+vQ t)) (c0p (vQ s+vQ t)) hs ht hL (Cw func245 (by kernel_rfl) rfl)
  (fun W v u h1 h2 hv hu hLW=>a1V W v u _ _ hv hu (d0x h1) (d0x h2) hLW))
 rw[t2B,t2E (f:=(· + ·))]at H;obtain⟨B,hB⟩:=gn (b0D (· + ·) s t);obtain⟨E,hE⟩:=gn (f0F (· + ·) s t);rw[hB,hE]at H |-;clear hB hE hs ht hL;go_enter func183,ntmps183;go_wp2_with fail;refine nz H fun w1 y1=>?_;go_wp2_with fail;go_ret2
 exact⟨rfl,y1.out⟩
def a1P (w:World)(v u:Value)(p q:Rat)(hp:IsQ .u64 w v p)(hq:IsQ .u64 w u q)(sp:Sml 1000 p)(sq:Sml 1000 q)(hL:Lay w):
 qb 164 #[v,u] w (.tuple #[.string (c0b (p-q)),.int .i64 (c0p (p-q))]):=
 (x0Y w v u p q _ hp hq (x0u sp sq) hL).2.2 fun V v u hv hu=>c1V V v u p q hv hu (J0 sp.n (by omega)) (J0 sp.d (by omega)) (J0 sq.n (by omega)) (J0 sq.d (by omega))
def c1H (w:World)(s t:ByteArray)(hs:s.size<=1000000)(ht:t.size<=1000000)(hL:Lay w):
 qb 63 #[.string s,.string t] w (.tuple #[.string (b0D (· - ·) s t),.int .i64 (f0F (· - ·) s t)]):=by
 have H:=hid (r0q w s t 164 (c0b (vQ s-vQ t)) (c0p (vQ s-vQ t)) hs ht hL (Cw func164 (by kernel_rfl) rfl)
  (fun W v u h1 h2 hv hu hLW=>a1P W v u _ _ hv hu (d0x h1) (d0x h2) hLW))
 rw[t2B,t2E (f:=(· - ·))]at H;obtain⟨B,hB⟩:=gn (b0D (· - ·) s t);obtain⟨E,hE⟩:=gn (f0F (· - ·) s t);rw[hB,hE]at H |-;clear hB hE hs ht hL;go_enter func63,ntmps63;go_wp2_with fail;refine nz H fun w1 y1=>?_;go_wp2_with fail;go_ret2
 exact⟨rfl,y1.out⟩
def q0L {K:Nat}{q:Rat}(h0:q≠0)(h:Sml K q):Sml K q⁻¹ := ⟨by rw[(d0p h0).2.1];exact h.d,by rw[(d0p h0).2.2];exact h.n⟩
def c1E {q:Rat}(h:q≠0):(sgQ q==0)=false:=by
 rw[M5];have:q.num≠0:=fun e=>h (Mt.1 e)
 unfold sgQ
 repeat' split
 all_goals first | omega | (intro h;omega) | simp_all
def Is:=@Nat.mod_two_eq_zero_or_one
theorem q0P (m:Bool)(a:Nat):∀ n:Nat,(sgn m a) ^ n=sgn (m && decide (n%2=1)) (a ^ n)
 | 0=>by simp[sgn]
 | n+1=>by
  rw[Int.pow_succ,q0P m a n,E9];rcases Is n with h | h
  .have e:(n+1)%2=1:=by omega
   cases m<;>simp[sgn,h,e,Int.mul_neg]
  .have e:(n+1)%2=0:=by omega
   cases m<;>simp[sgn,h,e,Int.mul_neg,Int.neg_mul]
def h0u (q:Rat)(n:Nat):decide ((q ^ n).num<0)=(decide (q.num<0) && decide (n%2=1))/\(q ^ n).num.natAbs=q.num.natAbs ^ n/\(q ^ n).den=q.den ^ n:=by
 have h1:(q ^ n).num=sgn (decide (q.num<0) && decide (n%2=1)) (q.num.natAbs ^ n):=by
  rw[Rat.num_pow,<- q0P,i0o]
 refine⟨?_,by rw[h1,b0r],Rat.den_pow q n⟩;rw[h1];by_cases hq:q.num<0
 .rw[l0Z (Gb (by omega))]
 .have:decide (q.num<0)=false:=by simpa using hq
  rw[this];simp[sgn];exact Int.natCast_nonneg _
def n0R {q:Rat}{n:Nat}(h:4000<nDigits (q.num.natAbs ^ n)\/4000<nDigits (q.den ^ n)):c0b (q ^ n)=⟨#[]⟩/\c0p (q ^ n)=5:=by
 obtain⟨-,h2,h3⟩:=h0u q n;have:ovQ (q ^ n):=by unfold ovQ;rw[h2,h3];exact h
 exact⟨J3 this,J3 this⟩
def a1Q (w:World)(v:Value)(q:Rat)(n g1:Nat)(hp:IsQ .u64 w v q)(sp:Sml 1000 q)(hn:n<=9223372036854775807)(hL:Lay w)(c1:w.cell? ⟨g1,0,none⟩=some (.int .i64 (n:Nat))):
 qb 156 #[v,.pointer (some ⟨g1,0,none⟩)] w (.tuple #[.string (c0b (q ^ n)),.int .i64 (c0p (q ^ n))]):=by
 have F1:=fun V v hv hV=>hid (s0e V v q.num.natAbs n hv (J0 sp.n (by omega)) (by omega) hV)
 have F2:=fun V v hv hV=>hid (s0e V v q.den n hv (J0 sp.d (by omega)) (by omega) hV)
 obtain⟨e1,e2,e3⟩:=h0u q n;have HOV:=hid (fun h=>n0R (q:=q) (n:=n) h);have F3:=fun V v hv hV (h1:nDigits (q.num.natAbs ^ n)<=4000) (h2:nDigits (q.den ^ n)<=4000)=>hid (s0F V v (q ^ n) hv (by rw[e2];exact J0 (a0n h1) (by omega)) (by rw[e3];exact J0 (a0n h2) (by omega)) hV)
 obtain⟨B,hB⟩:=gn (c0b (q ^ n));obtain⟨E,hE⟩:=gn (c0p (q ^ n));rw[hB,hE]at F3 HOV |-;clear hB hE;have HL:=hid hL;obtain⟨N1,D1,rfl,hn1,hd1⟩:=hp.ex;obtain⟨a1,c1',rfl,_⟩:=hn1.openI;obtain⟨a2,c2',rfl,_⟩:=hd1.openI;obtain⟨k1,hk1⟩:=gn ((limbs q.num.natAbs).length);obtain⟨k2,hk2⟩:=gn ((limbs q.den).length);obtain⟨m1,hm1⟩:=gn (decide (q.num<0));rw[hk1,hk2,hm1]at hp |-;rw[hk1]at hn1;rw[hk2]at hd1;rw[hm1]at e1;obtain⟨X1,b1⟩:=zu (Blk.new w #[.bool m1,.slice a1 k1 c1',.slice a2 k2 c2'] 126) ((J4 w.heap.size w).alloc nr (.cells #[.bool m1,.slice a1 k1 c1',.slice a2 k2 c2'] 126));obtain⟨N2,D2⟩:=zu (hn1.call b1.out) (hd1.call b1.out);obtain⟨r0,r1,r2⟩:=qz X1.out;have C1:=(b1.out.cell (a0e c1)).trans c1;have q0:decide ((n:Int)<0)=false:=by simp
 have w0:IntKind.u64.wrap (n:Int)=(n:Int):=Ci _ ⟨by omega,by omega⟩;obtain⟨E1,E2,E3⟩:=zg e1 e2 e3;clear hk1 hk2 hm1 hn1 hd1 hp hL sp e1 e2 e3 c1 hn;go_enter func156,ntmps156;go_wp2_with fail;refine (F1 _ _ N2.out (HL.out.call b1.out)).out.mono ?_;rintro e w3 ⟨hr3,hb3⟩;have y3:=qx b1 hb3;obtain⟨X3,D3⟩:=zu (X1.out.call hb3) (D2.out.call hb3);clear hb3 r0 r1 r2 C1;obtain⟨r0,r1,r2⟩:=qz X3.out;rcases hr3 with ⟨l3,v3,rfl,hv3⟩ | ⟨l3,rfl⟩
 .obtain⟨a3,c3,rfl,_⟩:=hv3.openI;obtain⟨k3,hk3⟩:=gn ((limbs (q.num.natAbs ^ n)).length);rw[hk3]at hv3 |-;obtain⟨V3,L3⟩:=zu hv3 l3;clear hk3 hv3 l3;go_wp2_with fail;refine (F2 _ _ D3.out (HL.out.call y3.out)).out.mono ?_;rintro e w4 ⟨hr4,hb4⟩;have y4:=qx y3 hb4;obtain⟨X4,V4⟩:=zu (X3.out.call hb4) (V3.out.call hb4);clear hb4 r0 r1 r2;obtain⟨r0,r1,r2⟩:=qz X4.out;rcases hr4 with ⟨l4,v4,rfl,hv4⟩ | ⟨l4,rfl⟩
  .obtain⟨a4,c4,rfl,_⟩:=hv4.openI;obtain⟨k4,hk4⟩:=gn ((limbs (q.den ^ n)).length);rw[hk4]at hv4 |-;obtain⟨W4,L4⟩:=zu hv4 l4;clear hk4 hv4 l4;have M:=hid (show IsQ .u64 w4 (.agg #[.bool (m1 && decide (n%2=1)),.slice a3 k3 c3,.slice a4 k4 c4]) (q ^ n) from⟨_,_,by rw[E1.out],by rw[E2.out];exact V4.out,by rw[E3.out];exact W4.out⟩);obtain⟨Q,hQ⟩:=gn (q ^ n);rw[hQ]at F3 M;clear hQ HOV F1 F2;have F4:=F3 _ _ M.out (HL.out.call y4.out) L3.out L4.out;cases m1
   focus
    simp only[Jd]at F4
   rotate_left
   focus
    simp only[Dn]at F4;have e9:((n:Int)%2==1)=decide (n%2=1):=by
     rw[Bk,Fi,H7];omega
    rw[<- e9]at F4;clear e9
   all_goals
    go_wp2_with fail;refine nw F4 y4 fun w5 y5=>?_;go_wp2_with fail;go_ret2
    exact⟨rfl,y5.out⟩
  .have e7:=hid (HOV.out (.inr l4));clear l4;go_wp2_with fail;go_ret2
   exact⟨by rw[e7.out.1,e7.out.2];rfl,y4.out⟩
 .have e7:=hid (HOV.out (.inl l3));clear l3;go_wp2_with fail;refine (F2 _ _ D3.out (HL.out.call y3.out)).out.mono ?_;rintro e w4 ⟨hr4,hb4⟩;have y4:=qx y3 hb4;rcases hr4 with ⟨l4,v4,rfl,hv4⟩ | ⟨l4,rfl⟩
  .obtain⟨a4,c4,rfl,_⟩:=hv4.openI;obtain⟨k4,hk4⟩:=gn ((limbs (q.den ^ n)).length);rw[hk4];clear hk4 hv4 l4 hb4;go_wp2_with fail;go_ret2
   exact⟨by rw[e7.out.1,e7.out.2];rfl,y4.out⟩
  .clear l4 hb4;go_wp2_with fail;go_ret2
   exact⟨by rw[e7.out.1,e7.out.2];rfl,y4.out⟩
def pwB (n:Nat)(s:ByteArray):ByteArray:=z0U (· ^ n) s
def pwE (n:Nat)(s:ByteArray):Int:=b1b (· ^ n) s
def c1I (w:World)(s:ByteArray)(n:Nat)(hs:s.size<=1000000)(hn:n<=9223372036854775807)(hL:Lay w):
 qb 57 #[.string s,.int .i64 (n:Nat)] w (.tuple #[.string (pwB n s),.int .i64 (pwE n s)]):=by
 obtain⟨HL,b1,X1⟩:=zg hL ((J4 w.heap.size w).alloc nr (.cells #[.int .i64 (n:Nat)] 3)) (Blk.new w #[.int .i64 (n:Nat)] 3);obtain⟨g1,hg1⟩:=gn (w.heap.size);obtain⟨w1,hw1⟩:=gn (w.alloc (.cells #[.int .i64 (n:Nat)] 3));have L1:=hid (HL.out.call b1.out);rw[hw1]at b1 X1 L1;rw[hg1]at X1
 have W1:=hid (n0P w1 s 156 #[.pointer (some ⟨g1,0,none⟩)] (c0b (vQ s ^ n)) (c0p (vQ s ^ n)) hs L1.out (Cw func156 (by kernel_rfl) rfl)
  (fun W v hq hb hv hLW=>a1Q W v (vQ s) n g1 hv (d0x hq) hn hLW ((X1.out.call hb).cell 0)))
 have e1:wB (c0b (vQ s ^ n)) s=pwB n s:=rfl;have e2:wE (c0p (vQ s ^ n)) s=pwE n s:=rfl;rw[e1,e2]at W1;obtain⟨B,hB⟩:=gn (pwB n s);obtain⟨E,hE⟩:=gn (pwE n s);rw[hB,hE]at W1 |-;obtain⟨HW,HG⟩:=zu hw1 hg1;clear hB hE hs hL hn e1 e2 hw1 hg1;go_enter func57,ntmps57;go_wp2_with fail;have hw1:=HW.out;have hg1:=HG.out;rw[hw1,hg1];refine nw W1 b1 fun w2 y2=>?_;clear hw1 hg1;go_wp2_with fail;go_ret2
 exact⟨rfl,y2.out⟩
end
section
def f0d {a:ByteArray}(h:gPE a=0):qE a=0/\0<=(vQ a).num/\(vQ a).num.natAbs<(vQ a).den/\Dig 1000 (vQ a):=by
 have h2:=b0R h;unfold gPE at h
 split at h
 .rename_i he;exact absurd h he
 rename_i he
 have he':qE a=0:=Ip.1 he
 split at h
 .cases h
 rename_i hm
 split at h
 .cases h
 rename_i hl
 obtain⟨e1,e2,l1,l2,e3,e4⟩:=g0E he' (fun h=>hm (.inl h)) hl;unfold eN at l1 l2;obtain⟨g1,g2,g3⟩:=i0W he';have hmf:iM (cW a)=false:=by
  have:¬ iM (cW a)=true:=fun h=>hm (.inl h)
  simpa using this
 rw[b0Z hmf]at g2;refine⟨he',?_,by rw[g2,g3];exact h2.2,⟨by rw[g2];exact l1,by rw[g3];exact l2⟩⟩;rw[hmf]at g1;have:=Fz g1;omega
open Go.Shelf
def t0P {q:Rat}(h:¬ ovQ q):(txQ q).size<=10000:=by
 unfold ovQ at h;have h1:=a0A (txQ q);unfold txQ at h1 |-;rw[b0U]at h1;rw[<- h1];simp only[J5,I9];have e1:(if decide (q.num<0)=true then [45] else ([]:List UInt8)).length<=1:=by split<;>simp
 have e2:(if q.den=1 then [] else (47:UInt8)::decDigits q.den).length<=4001:=by
  split
  .simp
  .simp only[E8,I9];omega
 omega
def p0s (q:Rat):(c0b q).size<=10000:=by
 unfold c0b
 split
 .decide
 .rename_i h;exact t0P h
def r0K (f:Rat->Rat->Rat)(s t:ByteArray):(b0D f s t).size<=10000:=by
 unfold b0D
 split
 .exact p0s _
 .decide
end
def n0e (n:Nat):2 ^ n≠0:=Ow (Gb (by omega))
def b1F {N D:Nat}(h:N<D)(two:Bool)(n:Nat):gL N D two n<=2 ^ n:=by have:=h0M h two n;omega
section
variable {a : ByteArray} {n : Nat} (hG : gPE a = 0) (hs : a.size <= 20) (hn : n <= 12)
include hG hs hn
end
section
theorem q0S {N D:Nat}(h:N<D):∀ j,(sdx N D j).2=true->(sdx N D j).1=N*2 ^ j%D/\0<(sdx N D j).1/\(sdx N D j).1<D
 | 0,ho=>by
  simp only[sdx,H7]at ho |-;rw[Dd,Dr,Bw h];omega
 | j+1,ho=>by
  cases hj:(sdx N D j).2 with
  | false=>rw[e0Z hj (j+1) (by omega)]at ho;cases ho
  | true=>
   obtain⟨h1,h2,h3⟩:=q0S h j hj;have e:N*2 ^ (j+1)%D=2*(sdx N D j).1%D:=by
    rw[h1,E9,<- A9,M9 _ 2,Nat.mul_mod_mod]
   rw[e];rw[sdx,hj,J3 rfl]at ho |-;generalize (sdx N D j).1=x at *
   by_cases hc:D<=2*x
   .rw[if_pos hc]at ho |-;simp only[decide_eq_true_eq]at ho;refine⟨?_,by dsimp only;omega,by dsimp only;omega⟩;dsimp only;rw[Nat.mod_eq_sub_mod hc,Nat.mod_eq_of_lt (by omega)]
   .rw[if_neg hc];exact⟨(Nat.mod_eq_of_lt (by omega)).symm,by dsimp only;omega,by dsimp only;omega⟩
def u0t {N D:Nat}(h:N<D)(j:Nat):
 a0D N D (j+1)=((sdx N D j).2 && decide (N*2 ^ (j+1) / D%2=1)) /\
 a0i N D (j+1)=((sdx N D j).2 && (!decide (N*2 ^ (j+1) / D%2=1) || (decide (N*2 ^ (j+1) / D%2=1) && decide (N*2 ^ (j+1)%D=0)))) /\
 (sdx N D (j+1)).2=((sdx N D j).2 && !(decide (N*2 ^ (j+1) / D%2=1) && decide (N*2 ^ (j+1)%D=0))):=by
 cases hj:(sdx N D j).2 with
 | false=>
  refine⟨by rw[a0D,hj];rfl,by rw[a0i,hj];rfl,?_⟩;rw[e0Z hj (j+1) (by omega)];rfl
 | true=>
  obtain⟨h1,h2,h3⟩:=q0S h j hj;obtain⟨k,hk⟩:∃ k,N*2 ^ j=D*k+(sdx N D j).1:=⟨N*2 ^ j / D,by rw[h1];exact (Ig _ _).symm⟩;have e:N*2 ^ (j+1)=D*(2*k)+2*(sdx N D j).1:=by
   rw[E9,<- A9,hk,Bo,M9 2 k,<- A9];omega
  rw[a0D,a0i,sdx,hj,e];generalize (sdx N D j).1=x at *
  clear e hk h1 hj;simp only[Dn,Ew];have hD:0<D:=by omega
  by_cases hc:D<=2*x
  .have hq:(D*(2*k)+2*x) / D=2*k+1:=by
    rw[Mo hD,show 2*x=D+(2*x-D) by omega,Nat.add_div_left _ hD,Ds (by omega)]
   have hr:(D*(2*k)+2*x)%D=2*x-D:=by
    rw[Nat.mul_add_mod,Nat.mod_eq_sub_mod hc,Bw (by omega)]
   rw[hq,hr,J3 hc,Z7 hc,Z7 (show (2*k+1)%2=1 by omega)];refine⟨rfl,?_,?_⟩
   .simp only[Bool.not_true,Bool.false_or,Dn];rw[Gc];omega
   .simp only[Dn,ne_eq,decide_not]
    congr 1
    rw[Gc];omega
  .have hq:(D*(2*k)+2*x) / D=2*k:=by
    rw[Mo hD,Ds (by omega)];omega
   rw[hq,J2 hc,Z6 hc,Z6 (show ¬ 2*k%2=1 by omega)];refine⟨rfl,?_,rfl⟩;simp;omega
def t0b (f:Nat->Nat):cvo f pw2 0=f 0:=by simp[cvo,a0m,pw2]
def m0O (f:Nat->Nat)(n:Nat):cvo f pw2 (n+1)=cvo f pw2 n+cvo f pw2 n+f (n+1):=by
 unfold cvo;rw[a0m];have e:a0m (fun s=>f s*pw2 (n+1-s)) (n+1)=a0m (fun s=>f s*pw2 (n-s)) (n+1)+a0m (fun s=>f s*pw2 (n-s)) (n+1):=by
  rw[<- c0c];refine a0d fun s hs=>?_
  unfold pw2;rw[show n+1-s=n-s+1 by omega,E9,Nat.mul_two,Al]
 rw[e,Bq];simp[pw2]
def p3 (N D n i k s:Nat)(v:Int):Nat:=if (k:Int)-(i:Int)=v then a0m (fun s'=>edn N D k s'*cw (n-s') (h0Z N D i)) s else 0
def q3 (N D n i k:Nat)(v:Int):Nat:=a0m (fun k'=>p3 N D n i k' (n+1) v) k
def t3 (N D n i:Nat)(v:Int):Nat:=a0m (fun i'=>q3 N D n i' (n+1) v) i
def c3 (N D n i k s:Nat)(v:Int):Nat:=t3 N D n i v+q3 N D n i k v+p3 N D n i k s v
def f0M (N D n i k:Nat)(v:Int):p3 N D n i k 0 v=0:=by unfold p3;split<;>rfl
def z0A (N D n:Nat):c3 N D n 0 0 0=fun _=>0:=by funext v;simp[c3,t3,q3,f0M,a0m]
def d1e (N D n i k s:Nat):c3 N D n i k (s+1)=k0j (c3 N D n i k s) ((k:Int)-(i:Int)) (edn N D k s*cw (n-s) (h0Z N D i)):=by
 funext v
 unfold k0j c3 p3;by_cases h:(k:Int)-(i:Int)=v
 .subst h;rw[J3 rfl,J3 rfl,J3 rfl,a0m];omega
 .rw[J2 h,J2 h,J2 (fun e=>h e.symm)]
def d1z (N D n i k:Nat):c3 N D n i k (n+1)=c3 N D n i (k+1) 0:=by
 funext v
 unfold c3;rw[f0M];unfold q3;rw[a0m];omega
def d1A (N D n i:Nat):c3 N D n i (n+1) 0=c3 N D n (i+1) 0 0:=by
 funext v
 unfold c3;rw[f0M,f0M];unfold t3;rw[a0m];simp only[q3,a0m]
def w0U {N D:Nat}(h:N<D)(n:Nat)(v:Int):c3 N D n (n+1) 0 0 v=gV N D true n v:=by
 rw[w0N h];unfold c3;rw[f0M];simp only[q3,a0m,At];unfold t3 q3;rw[h0b];refine a0d fun i _=>a0d fun k _=>?_
 unfold p3;by_cases hv:(i:Int)-(k:Int)=v
 .rw[J3 hv,J3 hv,m0K h k i n];unfold cvo;refine a0d fun s _=>?_
  rw[e0K h]
  rfl
 .rw[J2 hv,J2 hv]
def d1f {N D n i k s:Nat}(h:N<D)(hi:i<=n)(hk:k<=n)(hs:s<=n+1)(v:Int):c3 N D n i k s v<=gV N D true n v:=by
 rw[<- w0U h];have a1:p3 N D n i k s v<=p3 N D n i k (n+1) v:=by
  unfold p3
  split
  .exact a0Q hs
  .exact O4 _
 have a2:q3 N D n i k v+p3 N D n i k (n+1) v<=q3 N D n i (n+1) v:=by
  unfold q3;have:=a0Q (f:=fun k'=>p3 N D n i k' (n+1) v) (show k+1<=n+1 by omega);rw[a0m]at this;exact this
 have a3:t3 N D n i v+q3 N D n i (n+1) v<=t3 N D n (n+1) v:=by
  unfold t3;have:=a0Q (f:=fun i'=>q3 N D n i' (n+1) v) (show i+1<=n+1 by omega);rw[a0m]at this;exact this
 unfold c3;rw[f0M];simp only[q3,a0m];unfold q3 at a1 a2 a3;omega
def o0q {N D:Nat}(h:N<D)(n:Nat):a0m (fun i=>(b0S (a0D N D) (a0i N D) n (n+1)).2.getD i 0*cw (n-i) (g0k N D)) (n+1)=cw n (d0Q N D):=by
 rw[<- n0h h n (O4 n),b0J];unfold cvo;refine a0d fun i hi=>?_
 rw[<- i0Y h n (m:=n-i) (by omega)]
 rfl
def b0O {w w':World}(h:Below w.heap.size w w')(row:Option Nat):w.grownBy w' row:=⟨h.os,h.tape,h.output,h.size,fun k hk _=>h.block k hk⟩
open Go.Shelf
def Lq:=@Go.Proofs.Tryz.func139
def Km:=@Go.Proofs.Tryz.ntmps139
def u0x (w:World)(s:ByteArray)(hs:s.size<=100000000):
 Calls prog 139 #[.string s] w fun e w'=>e=.returned (.int .i64 (c0D s))/\w=w':=by
 have HC:=hid (n0K w s (by omega));by_cases hb:o0C s=true
 .have e0:k0i s=0:=J3 hb;rw[e0]at HC;by_cases hl:256<s.size
  .have e1:c0D s=4:=by rw[c0D,J3 hb,J3 hl]
   have q0:decide ((256:Int)<(s.size:Int))=true:=by simp;omega
   rw[e1];clear hb hl e0 e1;go_enter Lq,Km;go_wp2_with fail;refine HC.out.mono ?_;rintro e w1 ⟨rfl,rfl⟩;go_wp2_with fail;go_ret
   exact⟨rfl,rfl⟩
  .have e1:c0D s=0:=by rw[c0D,J3 hb,J2 hl]
   have q0:decide ((256:Int)<(s.size:Int))=false:=by simp;omega
   rw[e1];clear hb hl e0 e1;go_enter Lq,Km;go_wp2_with fail;refine HC.out.mono ?_;rintro e w1 ⟨rfl,rfl⟩;go_wp2_with fail;go_ret
   exact⟨rfl,rfl⟩
 .have e0:k0i s=3:=J2 hb;have e1:c0D s=3:=J2 hb;rw[e0]at HC;rw[e1];clear hb e0 e1;go_enter Lq,Km;go_wp2_with fail;refine zx HC ?_;go_wp2_with fail;go_ret
  exact⟨rfl,rfl⟩
def Ap (x o:Value)(n:Nat):Prop:=n=0\/∀ g,x.ownBlock=some g->o.ownBlock≠some g
def s0m {k:IntKind}{w:World}{v:Value}{n g:Nat}(h:IsN k w v n)(h0:n≠0)(hg:v.ownBlock=some g):g<w.heap.size:=by
 obtain⟨a,c,rfl,h1,h2,h3⟩:=h.openI;have hl:0<(limbs n).length:=by
  rw[b0y (by omega)];simp
 obtain⟨g',o,rfl,hg',hc⟩:=h3 0 _ (Q0 hl);simp only[Value.ownBlock,Az]at hg;omega
def f0r {k:IntKind}{w w':World}{row:Option Nat}{v:Value}{n:Nat}(h:IsN k w v n)(hg:w.grownBy w' row)(hne:n=0\/∀ g,v.ownBlock=some g->row≠some g):IsN k w' v n:=by
 obtain⟨a,c,rfl,h1,h2,h3⟩:=h.ex;rw[ints_length]at *;refine⟨a,c,by rw[ints_length],by rw[ints_length];exact h1,h2,fun i x hx=>?_⟩;obtain⟨g,o,rfl,hg',hc⟩:=h3 i x hx;rcases hne with rfl | hne
 .rw[limbs_zero]at hx;simp[b0p]at hx
 .exact⟨g,o,rfl,J7 hg' hg.size,hg.cell hc (fun e=>hne g rfl e.symm)⟩
def NRow (w:World)(v:Value)(m:Nat)(f:Nat->Nat):Prop:=∃ vs:List Value,vs.length=m/\Row w v vs/\∀ j x,vs[j]?=some x->IsN .i64 w x (f j)
theorem NRow.call {w w':World}{v:Value}{m:Nat}{f:Nat->Nat}(h:NRow w v m f)(hb:Below w.heap.size w w'):NRow w' v m f:=by
 obtain⟨vs,h1,h2,h3⟩:=h;exact⟨vs,h1,h2.call hb,fun j x hx=>(h3 j x hx).call hb⟩
theorem NRow.open {w:World}{v:Value}{m:Nat}{f:Nat->Nat}(h:NRow w v m f):∃ a c,v=.slice a m c/\m<=c/\c<=9223372036854775807/\∀ i,i<m->∃ g o x,a=some ⟨g,o,none⟩/\g<w.heap.size/\w.cell? ⟨g,o+i,none⟩=some x/\IsN .i64 w x (f i):=by
 obtain⟨vs,rfl,h2,h3⟩:=h;obtain⟨a,c,rfl,k1,k2,k3⟩:=h2.ex;refine⟨a,c,rfl,k1,by unfold maxLen at k2;omega,fun i hi=>?_⟩;obtain⟨x,hx⟩:∃ x,vs[i]?=some x:=⟨_,Q0 hi⟩;obtain⟨g,o,e,q1,q2⟩:=k3 i x hx;exact⟨g,o,x,e,q1,q2,h3 i x hx⟩
def NOwn (B:Nat)(w:World)(v:Value)(m:Nat)(f:Nat->Nat):Prop:=∃ vs:List Value,w.ownsRow B 79 1 v m vs/\∀ j x,vs[j]?=some x->IsN .i64 w x (f j)/\Ap x v (f j)
theorem NOwn.nil (B:Nat)(w:World)(f:Nat->Nat):NOwn B w (.slice none 0 0) 0 f:=⟨[],Cq _ _ _ _,fun j x hx=>by simp at hx⟩
theorem NOwn.next {B B':Nat}{w w1 w3:World}{v v3 x:Value}{m:Nat}{f:Nat->Nat}{o:Obj}{vs:List Value}(k1:w.ownsRow B 79 1 v m vs)(k2:∀ j x,vs[j]?=some x->IsN .i64 w x (f j)/\Ap x v (f j))(hb:Below w.heap.size w w1)(hx:IsN .i64 w1 x (f m))(hB':w.heap.size<=B')(hf:∀ g,x.ownBlock=some g->B'<=g)
 (h3:w3.ownsRow B 79 1 v3 (m+1) (vs ++ [x])) (hg:(w1.alloc o).grownBy w3 v.ownBlock) (hat:v3.ownBlock=v.ownBlock\/v3.ownBlock=some (w1.alloc o).heap.size):NOwn B w3 v3 (m+1) f:=by
 have c1:(w1.alloc o).ownsRow B 79 1 v m vs:=(k1.kept (b0O hb none) (by cases hv:v.ownBlock<;>simp)).alloc o;have hal:Below w1.heap.size w1 (w1.alloc o):=br0.alloc nr o;refine⟨vs ++ [x],h3,fun j y hy=>?_⟩;have hl:vs.length=m:=by have:=k1.1;omega
 have key:IsN .i64 w1 y (f j)/\Ap y v (f j):=by
  by_cases hj:j<vs.length
  .rw[As hj]at hy;exact⟨(k2 j y hy).1.call hb,(k2 j y hy).2⟩
  .rw[G8 (by omega)]at hy;have hj':j-vs.length=0:=by
    rcases H8 (j-vs.length) with h | h
    .exact h
    .rw[U6 (by simp;omega)]at hy;cases hy
   rw[hj']at hy;obtain rfl:j=m:=by omega
   simp at hy;subst hy;refine⟨hx,.inr fun g hg' e=>?_⟩;have:=hf g hg';have:=(k1.lt g e).2;omega
 obtain⟨q1,q2⟩:=key;have q3:IsN .i64 (w1.alloc o) y (f j):=q1.call hal;refine⟨f0r q3 hg q2,?_⟩;by_cases h0:f j=0
 .exact .inl h0
 .refine .inr fun g hg'=>?_
  rcases q2 with e | q2
  .exact absurd e h0
  .rcases hat with e | e
   .rw[e];exact q2 g hg'
   .rw[e];intro e';injection e' with e'
    have:=s0m q3 h0 hg';omega
def y0E:(prog.info? 79).map (fun i=>(i.zero,i.size,i.bytes))=some (some (.slice none 0 0),1,24):=by kernel_rfl
end
section
def r0m (w:World)(v u:Value)(a b:Nat)(ha:IsN .i64 w v a)(hb:IsN .i64 w u b)(hle:b<=a)(hla:(limbs a).length<=1000000):
 Calls prog 177 #[v,u] w fun e w'=>RetFr w.heap.size .i64 (a-b) e w'/\Below w.heap.size w w':=by
 obtain⟨i0,hi,hz0,hz1,hz2⟩:=Dx j0I;obtain⟨a1,c1,rfl,h1,h2,h3⟩:=ha.openI;obtain⟨a2,c2,rfl,k1,k2,k3⟩:=hb.openI;obtain⟨H3,K3⟩:=zu h3 k3;clear h3 k3 ha hb;have hmn:=a0h hle;obtain⟨n,ea⟩:=gn ((limbs a).length);obtain⟨m,eb⟩:=gn ((limbs b).length);rw[ea]at h1 hla hmn |-;rw[eb]at k1 hmn |-;obtain⟨HA,HB,HL⟩:=zg ea eb hle;clear ea eb hle;go_enter func177,ntmps177;go_wp2_with fail
 go_loopw [5,6,7,8] (fun o cc i nn wr=>∃ (s:List Nat) (c:Nat) (C:Int),i=.int .i64 s.length/\cc=.int .i64 C/\C=(c:Int)/\c<=1/\s.length<=n/\Hid (MinusI a b s c)/\Hid (wr.ownsRow w.heap.size 3 1 o s.length (b0p .i64 s))/\Hid (Below w.heap.size w wr))
  (fun _ _ i _ _=>n-(intOf i).toNat)
 case atStart=>exact⟨[],0,0,rfl,rfl,rfl,by omega,by simp,MinusI.start a b,Cq _ _ _ _,J4 _ _⟩
 case round=>
  obtain⟨s,c,C,rfl,rfl,hC,hc1,hs1,hP,hO,hB⟩:=hrel;obtain⟨ao,co,rfl⟩:=b0l hO.out;by_cases hA:s.length<n
  .obtain⟨x,hx⟩:∃ x,(limbs a)[s.length]?=some x:=⟨_,Q0 (by rw[HA.out];exact hA)⟩;obtain⟨g,og,rfl,hg,hc⟩:=H3.out _ x hx;have hc':=(hB.out.cell (p:=⟨g,og+s.length,none⟩) hg).trans hc;have hxl:=(a0o a).get hx;have HX:=hid hx;clear hx hc;by_cases hB':s.length<m
   focus
    obtain⟨y,hy⟩:∃ y,(limbs b)[s.length]?=some y:=⟨_,Q0 (by rw[HB.out];exact hB')⟩;obtain⟨g',og',rfl,hg',hd⟩:=K3.out _ y hy;have hd':=(hB.out.cell (p:=⟨g',og'+s.length,none⟩) hg').trans hd;have hyl:=(a0o b).get hy;have HY:=hid hy;clear hy hd;rcases (show c=0\/c=1 by omega) with rfl | rfl
    focus
     obtain rfl:C=0:=by omega
     clear hC;by_cases hneg:x<y+0
     focus
      obtain⟨z,hz0',hz1',hzI⟩:∃ z:Nat,x+1000000000*1=z+0+y/\z<1000000000/\Hid ((↑x - ↑y+1000000000:Int)=(z:Int)):=⟨((↑x - ↑y+1000000000:Int)).toNat,by omega,by omega,by rw[Hid];omega⟩;have HN:=hid (hP.out.next (z:=z) (c':=1) (by rw[a0K HX.out,a0K HY.out];omega) hz1' (by omega));clear hz0' hz1';have q1:decide ((x:Int)-(y:Int)<0)=true:=by simp<;>omega
     rotate_left
     focus
      obtain⟨z,hz0',hz1',hzI⟩:∃ z:Nat,x+1000000000*0=z+0+y/\z<1000000000/\Hid ((↑x - ↑y:Int)=(z:Int)):=⟨((↑x - ↑y:Int)).toNat,by omega,by omega,by rw[Hid];omega⟩;have HN:=hid (hP.out.next (z:=z) (c':=0) (by rw[a0K HX.out,a0K HY.out];omega) hz1' (by omega));clear hz0' hz1';have q1:decide ((x:Int)-(y:Int)<0)=false:=by simp<;>omega
    rotate_left 2
    focus
     obtain rfl:C=1:=by omega
     clear hC;by_cases hneg:x<y+1
     focus
      obtain⟨z,hz0',hz1',hzI⟩:∃ z:Nat,x+1000000000*1=z+1+y/\z<1000000000/\Hid ((↑x-1 - ↑y+1000000000:Int)=(z:Int)):=⟨((↑x-1 - ↑y+1000000000:Int)).toNat,by omega,by omega,by rw[Hid];omega⟩;have HN:=hid (hP.out.next (z:=z) (c':=1) (by rw[a0K HX.out,a0K HY.out];omega) hz1' (by omega));clear hz0' hz1';have q1:decide ((x:Int)-1-(y:Int)<0)=true:=by simp<;>omega
     rotate_left
     focus
      obtain⟨z,hz0',hz1',hzI⟩:∃ z:Nat,x+1000000000*0=z+1+y/\z<1000000000/\Hid ((↑x-1 - ↑y:Int)=(z:Int)):=⟨((↑x-1 - ↑y:Int)).toNat,by omega,by omega,by rw[Hid];omega⟩;have HN:=hid (hP.out.next (z:=z) (c':=0) (by rw[a0K HX.out,a0K HY.out];omega) hz1' (by omega));clear hz0' hz1';have q1:decide ((x:Int)-1-(y:Int)<0)=false:=by simp<;>omega
   rotate_left 4
   focus
    skip
    rcases (show c=0\/c=1 by omega) with rfl | rfl
    focus
     obtain rfl:C=0:=by omega
     clear hC;by_cases hneg:x<0+0
     .omega
     focus
      obtain⟨z,hz0',hz1',hzI⟩:∃ z:Nat,x+1000000000*0=z+0+0/\z<1000000000/\Hid ((↑x:Int)=(z:Int)):=⟨((↑x:Int)).toNat,by omega,by omega,by rw[Hid];omega⟩;have HN:=hid (hP.out.next (z:=z) (c':=0) (by rw[a0K HX.out,b0h (by rw[HB.out];omega)];omega) hz1' (by omega));clear hz0' hz1';have q1:decide ((x:Int)<0)=false:=by simp<;>omega
    rotate_left
    focus
     obtain rfl:C=1:=by omega
     clear hC;by_cases hneg:x<0+1
     focus
      obtain⟨z,hz0',hz1',hzI⟩:∃ z:Nat,x+1000000000*1=z+1+0/\z<1000000000/\Hid ((↑x-1+1000000000:Int)=(z:Int)):=⟨((↑x-1+1000000000:Int)).toNat,by omega,by omega,by rw[Hid];omega⟩;have HN:=hid (hP.out.next (z:=z) (c':=1) (by rw[a0K HX.out,b0h (by rw[HB.out];omega)];omega) hz1' (by omega));clear hz0' hz1';have q1:decide ((x:Int)-1<0)=true:=by simp<;>omega
     rotate_left
     focus
      obtain⟨z,hz0',hz1',hzI⟩:∃ z:Nat,x+1000000000*0=z+1+0/\z<1000000000/\Hid ((↑x-1:Int)=(z:Int)):=⟨((↑x-1:Int)).toNat,by omega,by omega,by rw[Hid];omega⟩;have HN:=hid (hP.out.next (z:=z) (c':=0) (by rw[a0K HX.out,b0h (by rw[HB.out];omega)];omega) hz1' (by omega));clear hz0' hz1';have q1:decide ((x:Int)-1<0)=false:=by simp<;>omega
   all_goals
    clear hneg;go_wp2_with (at_builtin;refine Dz _ rfl _ _ 79 rfl w.heap.size 3 i0 (.int .i64 0) 1 8 Lf hi hz0 hz1 hz2 rfl (by decide) _ s.length _ rfl (hO.out.alloc _) ⟨wr.heap.size,0,none⟩ 1 1 [_] rfl rfl (Eu wr _ _) (by simp[Value.oneCell']) (by unfold maxLen;omega) (by omega) (by have:=hB.out.size;simp;omega) ?_;intro v' w3 hown3 hgrow3 _;have HO3:=hid hown3;have HG3:=hid hgrow3;clear hown3 hgrow3)
    obtain⟨n1,n2⟩:=f0j hO.out hB.out HO3.out HG3.out hzI.out;obtain⟨N1,N2⟩:=zu n1 n2;clear n1 n2 HO3 HG3;obtain⟨a3,k3,rfl⟩:=b0l N1.out;go_wp2_with fail;go_roundw
    case rel=>exact⟨s ++ [z],_,_,by simp,rfl,by simp,by omega,by simp<;>omega,HN,N1,N2⟩
    case measure=>simp[intOf]<;>omega
  .obtain rfl:s.length=n:=by omega
   have hv:=hid (hP.out.done HA.out.symm HL.out);go_wp2_with (go_at_call 222;refine (c0V _ _ _ s hP.out.sm (Row.of_owns hO.out)).mono ?_;rintro e w1 ⟨⟨m1,rfl,hv1⟩,rfl⟩)
   go_ret
   exact⟨⟨_,rfl,by rw[<- hv.out];exact hv1,fun g hg=>(hO.out.lt g (by cases ao<;>exact hg)).1⟩,hB.out⟩
def f0f (w:World)(v u:Value)(a b:Nat)(ha:IsN .i64 w v a)(hb:IsN .i64 w u b)(hle:b<=a)(hla:(limbs a).length<=1000000):
 Calls prog 177 #[v,u] w fun e w'=>i0e .i64 (a-b) e w'/\Below w.heap.size w w':=
 (r0m w v u a b ha hb hle hla).mono fun _ _ h=>⟨h.1.ret,h.2⟩
open Go.Shelf
def k0W {w0 w w1 w3:World}{t:TypeId}{v:Value}{m:Nat}{vs:List Value}{o:Obj}(h:w.ownsRow w0.heap.size t 1 v m vs)(h0:Below w0.heap.size w0 w)(hb:Below w.heap.size w w1)(hg:(w1.alloc o).grownBy w3 v.ownBlock):Below w0.heap.size w0 w3:=by
 have h1:Below w0.heap.size w0 (w1.alloc o):=(h0.trans (hb.mono h0.size)).alloc (h0.trans (hb.mono h0.size)).size _;refine h1.trans ⟨hg.os,hg.tape,hg.output,hg.size,fun j hj=>hg.block j (J7 hj h1.size) fun e=>?_⟩;have:=(h.lt j e.symm).1;omega
def d0I {k:IntKind}{w:World}{v:Value}{n:Nat}{a:Addr}(h:IsN k w v n)(hne:n=0\/v.ownBlock≠some a.block)(x:Value):IsN k (w.setCell a x) v n:=by
 obtain⟨a',c,rfl,h1,h2,h3⟩:=h.ex;rw[ints_length]at *;refine⟨a',c,by rw[ints_length],by rw[ints_length];exact h1,h2,fun i y hy=>?_⟩;obtain⟨g,o,rfl,hg',hc⟩:=h3 i y hy;rcases hne with rfl | hne
 .rw[limbs_zero]at hy;simp[b0p]at hy
 .refine⟨g,o,rfl,by simpa[World.setCell]using hg',?_⟩;have hb:g≠a.block:=fun e=>hne (by rw[<- e];rfl)
  rw[<- hc];unfold World.setCell World.cell?;simp[Cu,Ne.symm hb]
structure NTab (B:Nat)(w:World)(g m c:Nat)(f:Nat->Nat):Prop where
 ex:∃ vs,w.ownsRow B 79 1 (.slice (some ⟨g,0,none⟩) m c) m vs/\∀ j x,vs[j]?=some x->IsN .i64 w x (f j)/\(f j=0\/∀ g',x.ownBlock=some g'->B<=g'/\g'≠g)
theorem NTab.slot {B:Nat}{w:World}{g m c:Nat}{f:Nat->Nat}(h:NTab B w g m c f):B<=g/\g<w.heap.size/\m<=c/\c<=9223372036854775807/\∀ i,w.frozen? ⟨g,i,none⟩=false:=by
 obtain⟨vs,h1,h2⟩:=h.ex;have hs:=e0c h1;exact⟨hs.1,hs.2.1,hs.2.2.2.2.2.1,hs.2.2.2.2.1,hs.2.2.1⟩
theorem NTab.call {B:Nat}{w w':World}{g m c:Nat}{f:Nat->Nat}(h:NTab B w g m c f)(hb:Below w.heap.size w w'):NTab B w' g m c f:=by
 obtain⟨vs,h1,h2⟩:=h.ex;exact⟨vs,h1.kept (b0O hb none) (by simp[Value.ownBlock]),fun j x hx=>⟨(h2 j x hx).1.call hb,(h2 j x hx).2⟩⟩
theorem NTab.at {B:Nat}{w:World}{g m c:Nat}{f:Nat->Nat}(h:NTab B w g m c f){i:Nat}(hi:i<m):∃ x,w.cell? ⟨g,i,none⟩=some x/\IsN .i64 w x (f i)/\(f i=0\/∀ g',x.ownBlock=some g'->B<=g'/\g'≠g):=by
 obtain⟨vs,h1,h2⟩:=h.ex;have hl:vs.length=m:=by have:=h1.1;omega
 obtain⟨x,hx⟩:∃ x,vs[i]?=some x:=⟨_,Q0 (by omega)⟩;exact⟨x,(e0c h1).2.2.2.1 i x hx,(h2 i x hx).1,(h2 i x hx).2⟩
theorem NTab.row {B:Nat}{w:World}{g m c:Nat}{f:Nat->Nat}(h:NTab B w g m c f):NRow w (.slice (some ⟨g,0,none⟩) m c) m f:=by
 obtain⟨vs,h1,h2⟩:=h.ex;exact⟨vs,by have:=h1.1;omega,Row.of_owns h1,fun j x hx=>(h2 j x hx).1⟩
theorem NTab.fn {B:Nat}{w:World}{g m c:Nat}{f f':Nat->Nat}(h:NTab B w g m c f)(e:∀ i,i<m->f i=f' i):NTab B w g m c f':=by
 obtain⟨vs,h1,h2⟩:=h.ex;have hl:vs.length=m:=by have:=h1.1;omega
 refine⟨vs,h1,fun j x hx=>?_⟩;rw[<- e j (by have:=(U4.1 hx).1;omega)];exact h2 j x hx
theorem NTab.put {B:Nat}{w:World}{g m c n:Nat}{f:Nat->Nat}{x:Value}(h:NTab B w g m c f)(i:Nat)(hx:IsN .i64 w x n)(hne:n=0\/∀ g',x.ownBlock=some g'->B<=g'/\g'≠g):NTab B (w.setCell ⟨g,i,none⟩ x) g m c (fun j=>if j=i then n else f j):=by
 obtain⟨vs,h1,h2⟩:=h.ex;refine⟨vs.set i x,m0p h1 i x,fun j y hy=>?_⟩;rw[Db]at hy;by_cases hj:i=j
 .subst hj;rw[J3 rfl]at hy
  split at hy
  .obtain rfl:=Ag hy;rw[J3 rfl];refine⟨d0I hx (hne.imp id fun e e'=>(e _ e').2 rfl) _,hne⟩
  .cases hy
 .rw[J2 hj]at hy;rw[J2 (fun e=>hj e.symm)];obtain⟨k1,k2⟩:=h2 j y hy;exact⟨d0I k1 (k2.imp id fun e e'=>(e _ e').2 rfl) _,k2⟩
theorem NTab.other {B:Nat}{w:World}{g m c:Nat}{f:Nat->Nat}(h:NTab B w g m c f){a:Addr}(ha:a.block<B)(x:Value):NTab B (w.setCell a x) g m c f:=by
 obtain⟨vs,h1,h2⟩:=h.ex;refine⟨vs,?_,fun j y hy=>?_⟩
 .refine⟨h1.1,?_⟩;rcases h1.2 with h0 | ⟨g',cap,cur,e,k1,k2,k3⟩
  .exact .inl h0
  .refine .inr ⟨g',cap,cur,e,k1,?_,k3⟩;have hg:g'≠a.block:=by omega
   rw[<- k2];unfold World.setCell;simp[Cu,Ne.symm hg]
 .obtain⟨k1,k2⟩:=h2 j y hy;exact⟨d0I k1 (k2.imp id fun e e'=>by have:=(e _ e').1;omega) _,k2⟩
theorem NTab.mono {B B':Nat}{w:World}{g m c:Nat}{f:Nat->Nat}(h:NTab B w g m c f)(hB:B'<=B):NTab B' w g m c f:=by
 obtain⟨vs,h1,h2⟩:=h.ex;refine⟨vs,⟨h1.1,?_⟩,fun j y hy=>?_⟩
 .rcases h1.2 with h0 | ⟨g',cap,cur,e,k1,k2,k3⟩
  .exact .inl h0
  .exact .inr ⟨g',cap,cur,e,by omega,k2,k3⟩
 .obtain⟨k1,k2⟩:=h2 j y hy;exact⟨k1,k2.imp id fun e g' hg=>⟨by have:=(e g' hg).1;omega,(e g' hg).2⟩⟩
theorem NTab.of {B:Nat}{w:World}{v:Value}{m:Nat}(h:NOwn B w v (m+1) (fun _=>0)):∃ g c,v=.slice (some ⟨g,0,none⟩) (m+1) c/\NTab B w g (m+1) c (fun _=>0):=by
 obtain⟨vs,h1,h2⟩:=id h;obtain⟨g,c,rfl,k1,k2⟩:=h1.form (Ev m);exact⟨g,c,rfl,vs,h1,fun j x hx=>⟨(h2 j x hx).1,.inl rfl⟩⟩
def n0J (w:World)(v:Value)(m n:Nat)(hv:IsN .i64 w v m)(hn:n<=256)(hm:m<=2 ^ 256):
 qb 220 #[v,.int .i64 (n:Nat)] w (.string (shB m (2 ^ n))):=by
 have RT:=fun V=>hid (n0I V n (by omega))
 obtain⟨t,ht⟩:=gn (2 ^ n);rw[ht]at RT |-;have tle:t<=2 ^ 256:=by rw[<- ht];exact J6 (by omega) (by omega)
 have tpos:t≠0:=by rw[<- ht];exact Ow (Gb (by omega))
 have big:∀ x,x<=2 ^ 256->nDigits x<=78:=fun x hx=>a0l (by omega) (Di hx (by decide))
 have dm:=big m hm;have dt:=big t tle;have LM:Hid ((limbs m).length<=1000000):=a0x (by omega);have LT:Hid ((limbs t).length<=1000000):=a0x (by omega);have RM:=fun V=>hid (m0i V m t (by omega) (by omega) tpos)
 have V0:=hid hv;clear hv ht tle tpos big hm dm dt;go_enter func220,ntmps220;go_wp2_with fail;refine nv (a0S _ _ _ V0.out LM.out) fun w1 B1=>?_;go_wp2_with fail;refine nu (RT _) fun v2 w2 hv2 hb2=>?_;have V2:=hid hv2;have B2:=qx B1 hb2;clear hv2 hb2;go_wp2_with fail;refine nk (a0S _ _ _ V2.out LT.out) B2 fun w3 B3=>?_;go_wp2_with fail;refine nw (RM _) B3 fun w4 B4=>?_;go_wp2_with fail;go_ret
 exact⟨rfl,B4.out⟩
def ltB (x z:ByteArray):Bool:=Op.bytesLess x.toList z.toList
def i0T (L:List (ByteArray×ByteArray))(key p:ByteArray):List (ByteArray×ByteArray):=
 if p=⟨#[48]⟩ then L else L.takeWhile (fun x=>ltB x.1 key)++(key,p)::L.dropWhile (fun x=>ltB x.1 key)
def n0l {L:List (ByteArray×ByteArray)}{f:ByteArray×ByteArray->Bool}:∀ {k:Nat},(∀ j x,j<k->L[j]?=some x->f x=true)->(∀ x,L[k]?=some x->f x=false)->L.takeWhile f=L.take k/\L.dropWhile f=L.drop k:=by
 induction L with
 | nil=>intro k _ _;simp
 | cons a r ih=>
  intro k h1 h2;cases k with
  | zero=>
   have:=h2 a (by simp);simp[this]
  | succ k=>
   have ha:=h1 0 a (by omega) (by simp);obtain⟨e1,e2⟩:=ih (k:=k) (fun j x hj hx=>h1 (j+1) x (by omega) (by simpa using hx)) (fun x hx=>h2 x (by simpa using hx));simp[ha,e1,e2]
def a0G {P:Program}(w:World){ops:Array Oper}{o:Oper}{a:Act}{K:Act->World->Prop}{Q:Exit->Act->World->Prop}{E:Prop}(hgd:o.guard=none)(s x:Operand)(t:TypeId)
 (ho:o.op=.call { callee:=.builtin .append,args:=#[s,x],argTypes:=#[t,t] })
 (base:Nat) (e:TypeId) (i:TypeInfo) (z:Value) (size bytes:Nat) (ht:P.underlying t=some (.slice e)) (hi:P.info? e=some i) (hz:i.zero=some z)
 (hsize:i.size=size) (hby:i.bytes=bytes) (hzs:z.cells.size=size) (hsz:0<size)
 (v:Value) (n:Nat) (xs:List Value) (hs:a.eval s=v) (hown:w.ownsRow base e size v n xs) (hv:v ≠ .slice none 0 0)
 (ao:Option Addr) (m c:Nat) (news:List Value) (hx:a.eval x=.slice ao m c) (hl:news.length=m*size) (hnews:∀ j u,news[j]?=some u->∃ ad,ao=some ad/\w.cell? (ad.add j)=some u) (h1:∀ u∈news,u.oneCell'=true)
 (h63:n+m<=maxLen) (hbytes:(n+m)*bytes<=140737488355328) (hbase:base<=w.heap.size)
 (h:∀ v' w',w'.ownsRow base e size v' (n+m) (xs++news)->w.grownBy w' v.ownBlock->v' ≠ .slice none 0 0->K (a.put o.dst v') w'):
 if Region.wanted o (yielded ops a.tmps)=true then Oper.wp P o a w K Q else E:=by
 have hw:Region.wanted o (yielded ops a.tmps)=true:=by simp[Region.wanted,hgd]
 rw[J3 hw];have key:∃ v' w',(Builtin.append_ #[t,t] o.type #[v,.slice ao m c]).run P w=.ok v' w'/\w'.ownsRow base e size v' (n+m) (xs++news)/\w.grownBy w' v.ownBlock/\v' ≠ .slice none 0 0:=by
  cases ao with
  | some ad=>
   obtain⟨v',w',hr,k1,k2,k3,-⟩:=run_append_own_at (P:=P) w base t o.type e i z size bytes ht hi hz hsize hby hzs hsz v n xs hown ad m c news hl (fun j u hu=>by obtain⟨ad',e',hc⟩:=hnews j u hu;cases e';exact hc) h1 h63 hbytes hbase;exact⟨v',w',hr,k1,k2,fun e=>hv (k3.1 e).1⟩
  | none=>
   have hn:news = []:=by
    cases news with
    | nil=>rfl
    | cons u r=>obtain⟨ad,e,_⟩:=hnews 0 u rfl;cases e
   subst hn;have hm:m=0:=by
    rcases H8 m with h | h
    .exact h
    .have:=Eb h hsz;simp at hl;omega
   subst hm;refine⟨v,w,?_,by simpa using hown,⟨rfl,rfl,rfl,O4 _,fun _ _ _=>rfl⟩,hv⟩;rcases hown.2 with ⟨e,_⟩ | ⟨g,cap,cur,rfl,hb,hg,h1',h2',h3',h4'⟩
   .exact absurd e hv
   .simp[Builtin.append_,run_underlying ht,sizeOf,typeInfo,hi,Builtin.lenOf,Builtin.firstCells,loadCells,loadCellsFrom,storeCells,h1']
 obtain⟨v',w',hr,h2,h3,h4⟩:=key;unfold Oper.wp execOp;simp only[ho,resolve,invoke,builtin,Sem.run_bind,Sem.run_pure,Result.andThen_ok,List.map_toArray,Kj,List.map_nil,hs,hx,hr];exact h v' w' h2 h3 h4
def c0Y (M:List (ByteArray×ByteArray)):∀ u∈a0N M,u.oneCell'=true:=by
 intro u hu;obtain⟨x,_,hx⟩:=List.mem_flatMap.1 hu;simp at hx;rcases hx with rfl | rfl<;>rfl
def c0l (M:List (ByteArray×ByteArray))(x y:ByteArray):a0N (M ++ [(x,y)])=a0N M ++ [.string x,.string y]:=b0x _ _
def e0B {W:World}{g:Nat}:∀ {M:List (ByteArray×ByteArray)} {O:Nat},(∀ (i:Nat) (y:ByteArray×ByteArray),M[i]?=some y->W.cell? ⟨g,O+2*i,none⟩=some (.string y.1)/\W.cell? ⟨g,O+2*i+1,none⟩=some (.string y.2))->∀ (j:Nat) (u:Value),(a0N M)[j]?=some u->W.cell? ⟨g,O+j,none⟩=some u:=by
 intro M
 induction M with
 | nil=>intro O _ j u hu;simp[a0N]at hu
 | cons q r ih=>
  intro O h j u hu;have e:a0N (q::r)=.string q.1 :: .string q.2::a0N r:=rfl;rw[e]at hu
  match j,hu with
  | 0,hu=>simp at hu;subst hu;exact (h 0 q rfl).1
  | 1,hu=>simp at hu;subst hu;exact (h 0 q rfl).2
  | j+2,hu=>
   have:=ih (O:=O+2) (fun i y hy=>by
    have:=h (i+1) y (by simpa using hy);rw[show O+2*(i+1)=O+2+2*i by omega]at this;exact this) j u (by simpa using hu)
   rw[show O+(j+2)=O+2+j by omega];exact this
def m0t {W:World}{B:Nat}{x y:ByteArray}{t:TypeId}{fr:Nat×Nat}(h:W.heap[B]?=some (.cells #[.string x,.string y] t fr)):∀ (j:Nat) (u:Value),[Value.string x,Value.string y][j]?=some u->∃ ad,some (⟨B,0,none⟩:Addr)=some ad/\W.cell? (ad.add j)=some u:=fun j u hu=>⟨_,rfl,World.news_of_block h j u hu⟩
def b0C {w0 W w3:World}{t:TypeId}{z:Nat}{v:Value}{m:Nat}{vs:List Value}(h:W.ownsRow w0.heap.size t z v m vs)(h0:Below w0.heap.size w0 W)(hg:W.grownBy w3 v.ownBlock):Below w0.heap.size w0 w3:=by
 refine h0.trans ⟨hg.os,hg.tape,hg.output,hg.size,fun j hj=>hg.block j (J7 hj h0.size) fun e=>?_⟩;have:=(h.lt j e.symm).1;omega
def a0w {w X:World}{B:Nat}{t:TypeId}(hB:X.heap.size=B)(h:w.heap.size<=X.heap.size):(X.alloc (.cells #[] t)).ownsRow w.heap.size t 2 (.slice (some ⟨B,0,none⟩) 0 0) 0 []:=by subst hB;exact Ke _ _ 0 h (by unfold maxLen;omega) rfl
def Hs:=@Go.Addr.mk.injEq
def Hx:=@Go.heap_alloc_new
def Cc:=@Go.Proofs.Tryz.underlying37
def Ia:=@List.drop_eq_nil_of_le
def k0L (w:World)(v:Value)(L:List (ByteArray×ByteArray))(key p:ByteArray)(hv:MRow w v L)(hn:L.length<=1000000):
 Calls prog 74 #[v,.string key,.string p] w fun e w'=>(∃ u,e=.returned u/\MRow w' u (i0T L key p))/\Below w.heap.size w w':=by
 obtain⟨i0,hi,hz0,hz1,hz2⟩:=Dx h0I;have HV:=hid hv;obtain⟨a,c,rfl,h1,h2,h3⟩:=hv.ex;obtain⟨n,hN⟩:=gn (L.length);rw[hN]at h1 HV hn |-;obtain⟨HN,H3⟩:=zu hN h3;clear hv h3 hN;by_cases hp:p=⟨#[48]⟩
 .have e:Hid (i0T L key p=L):=by show i0T L key p=L;rw[i0T,J3 hp]
  rw[e.out];have q0:(p.toList == [48])=true:=by subst hp;rw[Cy];rfl
  clear hp e;go_enter func74,ntmps74;go_wp2_with fail;go_ret
  exact⟨⟨_,rfl,HV.out⟩,J4 _ _⟩
 .have E:Hid (i0T L key p=L.takeWhile (fun x=>ltB x.1 key)++(key,p)::L.dropWhile (fun x=>ltB x.1 key)):=by show i0T L key p=_;rw[i0T,J2 hp]
  have q0:(p.toList == [48])=false:=a0O hp;rw[E.out];clear hp E;go_enter func74,ntmps74;go_wp2_with fail
  go_loop [7] (fun ii=>∃ k:Nat,ii=.int .i64 k/\k<=n/\Hid (∀ j x,j<k->L[j]?=some x->ltB x.1 key=true)) (fun ii=>n-(intOf ii).toNat)
  case atStart=>exact⟨0,rfl,K5 _,fun j x hj=>absurd hj (by omega)⟩
  case round=>
   obtain⟨k,rfl,hk,hI⟩:=hrel;have c1:=qw k
   by_cases hlt:k<n
   .obtain⟨x,hx⟩:∃ x,L[k]?=some x:=⟨_,Q0 (by rw[HN.out];exact hlt)⟩;obtain⟨g,o,rfl,hg,hc,-⟩:=H3.out k x hx;have HX:=hid hx;rw[M9 2 k]at hc;have c2:(k:Int)<(n:Int):=by omega
    have wi:=qy k (by omega)
    obtain⟨lb,hlb⟩:=gn (Op.bytesLess x.1.toList key.toList);have HLB:=hid (show ltB x.1 key=lb from hlb);clear hx;have SRC1:Hid (∀ W,Below w.heap.size w W->∀ j u,(a0N (L.take k))[j]?=some u->∃ ad,some (⟨g,o,none⟩:Addr)=some ad/\W.cell? (ad.add j)=some u):=fun W hW j u hu=>by
     refine⟨_,rfl,?_⟩;rw[Addr.add_lit];refine e0B (fun i y hy=>?_) j u hu;rw[Cd]at hy
     split at hy
     .obtain⟨g',o',e,k0,k1,k2⟩:=H3.out i y hy;simp only[Az,Hs]at e;obtain⟨rfl,rfl,-⟩:=e;exact⟨(hW.cell (p:=⟨g,_,none⟩) hg).trans k1,(hW.cell (p:=⟨g,_,none⟩) hg).trans k2⟩
     .cases hy
    have SRC2:Hid (∀ W,Below w.heap.size w W->∀ j u,(a0N (L.drop k))[j]?=some u->∃ ad,some (⟨g,o+k*2,none⟩:Addr)=some ad/\W.cell? (ad.add j)=some u):=fun W hW j u hu=>by
     refine⟨_,rfl,?_⟩;rw[Addr.add_lit];refine e0B (fun i y hy=>?_) j u hu;rw[Bm]at hy;obtain⟨g',o',e,k0,k1,k2⟩:=H3.out _ y hy;simp only[Az,Hs]at e;obtain⟨rfl,rfl,-⟩:=e;rw[show o+2*(k+i)=o+k*2+2*i by omega]at k1 k2;exact⟨(hW.cell (p:=⟨g,_,none⟩) hg).trans k1,(hW.cell (p:=⟨g,_,none⟩) hg).trans k2⟩
    have SL1:Hid ((a0N (L.take k)).length=k*2):=by show _=_;rw[b0a,M6 (by rw[HN.out];omega)]
    have SL2:Hid ((a0N (L.drop k)).length=(n-k)*2):=by show _=_;rw[b0a,Af,HN.out]
    have MZ2:Hid (((w.alloc (.cells #[] 42)).alloc (.cells #[.string key,.string p] 42)).drew.heap[w.heap.size+1]?=some (.cells #[.string key,.string p] 42 (0,0))):=by
     have:=Hx (w.alloc (.cells #[] 42)) (.cells #[.string key,.string p] 42);rw[show (w.alloc (.cells #[] 42)).heap.size=w.heap.size+1 from by simp]at this;exact this
    have MZ3:Hid (((w.alloc (.cells #[.string key,.string p] 42)).alloc (.cells #[] 42)).drew.heap[w.heap.size]?=some (.cells #[.string key,.string p] 42 (0,0))):=(heap_alloc_old (w.alloc (.cells #[.string key,.string p] 42)) (.cells #[] 42) _ (by simp)).trans (Hx w (.cells #[.string key,.string p] 42));have d1:(k:Int)<=(c:Int):=by omega
    have d2:(k:Int)<=(n:Int):=by omega
    have d4:¬ c=k:=by omega
    cases lb
    .have TK:=hid (n0l (L:=L) (f:=fun x=>ltB x.1 key) (k:=k) hI.out (fun y hy=>by have:=HX.out;rw[hy]at this;cases this;exact HLB.out));go_wp2_with fail
     go_region_held3 (fun _=>True) (first | trivial)
      (first
       | (refine a0G _ rfl _ _ _ rfl w.heap.size 42 i0 _ 2 32 Cc hi hz0 hz1 hz2 rfl (by decide) (.slice (some ⟨_,0,none⟩) 0 0) 0 [] rfl (by first | exact (a0w rfl nr).drew | exact ((a0w rfl nr).alloc _).drew | exact (a0w (by simp) (by simp)).drew) (by intro e;cases e) (some ⟨g,o,none⟩) k c (a0N (L.take k)) rfl SL1.out (SRC1.out _ (by first | exact (br0.alloc nr _).drew | exact ((br0.alloc nr _).alloc (by simp) _).drew)) (c0Y _) (by unfold maxLen;omega) (by omega) (by simp<;>omega) ?_;intro v1 w1 hown1 hg1 hne1;have B1:Hid (Below w.heap.size w w1):=b0C (w0:=w) (w3:=w1) (by first | exact (a0w rfl nr).drew | exact ((a0w rfl nr).alloc _).drew | exact (a0w (by simp) (by simp)).drew) (by first | exact (br0.alloc nr _).drew | exact ((br0.alloc nr _).alloc (by simp) _).drew) hg1;have O1:=hid (show w1.ownsRow w.heap.size 42 2 v1 k (a0N (L.take k)) from by rw[F9]at hown1;exact hown1);have NE1:=hid hne1;have HG1:=hid hg1;clear hown1 hg1 hne1)
       | (refine a0G _ rfl _ _ _ rfl w.heap.size 42 i0 _ 2 32 Cc hi hz0 hz1 hz2 rfl (by decide) v1 k _ rfl (by first | exact O1.out | exact O1.out.alloc _) NE1.out (some ⟨_,0,none⟩) 1 1 [.string key,.string p] rfl rfl (m0t (by first | exact Hx _ _ | exact (HG1.out.block (w.heap.size+1) (by simp<;>omega) (by simp[Value.ownBlock])).trans MZ2.out | exact (HG1.out.block w.heap.size (by simp<;>omega) (by simp[Value.ownBlock])).trans MZ3.out)) (by simp[Value.oneCell']) (by unfold maxLen;omega) (by omega) (by first | exact B1.out.size | exact (B1.out.alloc B1.out.size _).size) ?_;intro v2 w2 hown2 hg2 hne2;have B2:Hid (Below w.heap.size w w2):=b0C (w0:=w) (w3:=w2) (by first | exact O1.out | exact O1.out.alloc _) (by first | exact B1.out | exact B1.out.alloc B1.out.size _) hg2;have O2:=hid hown2;have NE2:=hid hne2;clear hown2 hg2 hne2)
       | (refine a0G _ rfl _ _ _ rfl w.heap.size 42 i0 _ 2 32 Cc hi hz0 hz1 hz2 rfl (by decide) v2 (k+1) _ rfl O2.out NE2.out (some ⟨g,o+k*2,none⟩) (n-k) (c-k) (a0N (L.drop k)) rfl SL2.out (SRC2.out _ B2.out) (c0Y _) (by unfold maxLen;omega) (by omega) (by exact B2.out.size) ?_;intro v3 w3 hown3 hg3 hne3;have O3:=hid hown3;have B3:Hid (Below w.heap.size w w3):=b0C (w0:=w) (w3:=w3) O2.out B2.out hg3;clear hown3 hg3 hne3))
     all_goals
      have OF:=O3.out;rw[<- c0l,<- b0x]at OF;go_wp2_with fail
      all_goals
       go_ret
       refine⟨⟨_,rfl,?_⟩,B3.out⟩;rw[TK.out.1,TK.out.2];have:=MRow.of_owns OF;rwa[Au]at this
    .go_wp2_with fail;go_round
     case rel=>
      refine⟨k+1,by go_num,by omega,fun j y hj hy=>?_⟩;rcases Ct j k with h | h
      .exact hI.out j y h hy
      .obtain rfl:j=k:=by omega
       have:=HX.out;rw[hy]at this;cases this;exact HLB.out
     case measure=>simp[intOf]<;>omega
   .obtain rfl:k=n:=by omega
    have SRC1:Hid (∀ W,Below w.heap.size w W->∀ j u,(a0N (L.take k))[j]?=some u->∃ ad,a=some ad/\W.cell? (ad.add j)=some u):=fun W hW j u hu=>by
     obtain⟨x0,hx0⟩:∃ x0,L[0]?=some x0:=by
      cases hL:L with
      | nil=>rw[hL]at hu;simp[a0N]at hu
      | cons x r=>exact⟨x,rfl⟩
     obtain⟨g,o,rfl,hg,-,-⟩:=H3.out 0 x0 hx0;refine⟨_,rfl,?_⟩;rw[Addr.add_lit];refine e0B (fun i y hy=>?_) j u hu;rw[Cd]at hy
     split at hy
     .obtain⟨g',o',e,k0,k1,k2⟩:=H3.out i y hy;simp only[Az,Hs]at e;obtain⟨rfl,rfl,-⟩:=e;exact⟨(hW.cell (p:=⟨g,_,none⟩) hg).trans k1,(hW.cell (p:=⟨g,_,none⟩) hg).trans k2⟩
     .cases hy
    have DN:Hid (L.drop k = []):=Ia (by rw[HN.out];exact O4 _);have SRC2:Hid (∀ (ao:Option Addr) W,Below w.heap.size w W->∀ j u,(a0N (L.drop k))[j]?=some u->∃ ad,ao=some ad/\W.cell? (ad.add j)=some u):=fun ao W hW j u hu=>by
     rw[DN.out]at hu;simp[a0N]at hu
    have SL1:Hid ((a0N (L.take k)).length=k*2):=by show _=_;rw[b0a,M6 (by rw[HN.out];exact O4 _)]
    have SL2:Hid ((a0N (L.drop k)).length=0*2):=by show _=_;rw[DN.out];rfl
    have MZ2:Hid (((w.alloc (.cells #[] 42)).alloc (.cells #[.string key,.string p] 42)).drew.heap[w.heap.size+1]?=some (.cells #[.string key,.string p] 42 (0,0))):=by
     have:=Hx (w.alloc (.cells #[] 42)) (.cells #[.string key,.string p] 42);rw[show (w.alloc (.cells #[] 42)).heap.size=w.heap.size+1 from by simp]at this;exact this
    have MZ3:Hid (((w.alloc (.cells #[.string key,.string p] 42)).alloc (.cells #[] 42)).drew.heap[w.heap.size]?=some (.cells #[.string key,.string p] 42 (0,0))):=(heap_alloc_old (w.alloc (.cells #[.string key,.string p] 42)) (.cells #[] 42) _ (by simp)).trans (Hx w (.cells #[.string key,.string p] 42));have d1:(k:Int)<=(c:Int):=by omega
    have d2:(k:Int)<=(k:Int):=by omega
    have TK:=hid (n0l (L:=L) (f:=fun x=>ltB x.1 key) (k:=k) hI.out (fun y hy=>by rw[U6 (by rw[HN.out];exact O4 _)]at hy;cases hy));cases a
    .go_wp2_with fail
     go_region_held3 (fun _=>True) (first | trivial)
      (first
       | (refine a0G _ rfl _ _ _ rfl w.heap.size 42 i0 _ 2 32 Cc hi hz0 hz1 hz2 rfl (by decide) (.slice (some ⟨_,0,none⟩) 0 0) 0 [] rfl (by first | exact (a0w rfl nr).drew | exact ((a0w rfl nr).alloc _).drew | exact (a0w (by simp) (by simp)).drew) (by intro e;cases e) _ k c (a0N (L.take k)) rfl SL1.out (SRC1.out _ (by first | exact (br0.alloc nr _).drew | exact ((br0.alloc nr _).alloc (by simp) _).drew)) (c0Y _) (by unfold maxLen;omega) (by omega) (by simp<;>omega) ?_;intro v1 w1 hown1 hg1 hne1;have B1:Hid (Below w.heap.size w w1):=b0C (w0:=w) (w3:=w1) (by first | exact (a0w rfl nr).drew | exact ((a0w rfl nr).alloc _).drew | exact (a0w (by simp) (by simp)).drew) (by first | exact (br0.alloc nr _).drew | exact ((br0.alloc nr _).alloc (by simp) _).drew) hg1;have O1:=hid (show w1.ownsRow w.heap.size 42 2 v1 k (a0N (L.take k)) from by rw[F9]at hown1;exact hown1);have NE1:=hid hne1;have HG1:=hid hg1;clear hown1 hg1 hne1)
       | (refine a0G _ rfl _ _ _ rfl w.heap.size 42 i0 _ 2 32 Cc hi hz0 hz1 hz2 rfl (by decide) v1 k _ rfl (by first | exact O1.out | exact O1.out.alloc _) NE1.out (some ⟨_,0,none⟩) 1 1 [.string key,.string p] rfl rfl (m0t (by first | exact Hx _ _ | exact (HG1.out.block (w.heap.size+1) (by simp<;>omega) (by simp[Value.ownBlock])).trans MZ2.out | exact (HG1.out.block w.heap.size (by simp<;>omega) (by simp[Value.ownBlock])).trans MZ3.out)) (by simp[Value.oneCell']) (by unfold maxLen;omega) (by omega) (by first | exact B1.out.size | exact (B1.out.alloc B1.out.size _).size) ?_;intro v2 w2 hown2 hg2 hne2;have B2:Hid (Below w.heap.size w w2):=b0C (w0:=w) (w3:=w2) (by first | exact O1.out | exact O1.out.alloc _) (by first | exact B1.out | exact B1.out.alloc B1.out.size _) hg2;have O2:=hid hown2;have NE2:=hid hne2;clear hown2 hg2 hne2)
       | (refine a0G _ rfl _ _ _ rfl w.heap.size 42 i0 _ 2 32 Cc hi hz0 hz1 hz2 rfl (by decide) v2 (k+1) _ rfl O2.out NE2.out _ 0 _ (a0N (L.drop k)) rfl SL2.out (SRC2.out _ _ B2.out) (c0Y _) (by unfold maxLen;omega) (by omega) (by exact B2.out.size) ?_;intro v3 w3 hown3 hg3 hne3;have O3:=hid hown3;have B3:Hid (Below w.heap.size w w3):=b0C (w0:=w) (w3:=w3) O2.out B2.out hg3;clear hown3 hg3 hne3))
     all_goals
      have OF:=O3.out;rw[<- c0l,<- b0x]at OF;go_wp2_with fail
      all_goals
       go_ret
       refine⟨⟨_,rfl,?_⟩,B3.out⟩;rw[TK.out.1,TK.out.2];have:=MRow.of_owns OF;rwa[Au]at this
    .go_wp2_with fail
     go_region_held3 (fun _=>True) (first | trivial)
      (first
       | (refine a0G _ rfl _ _ _ rfl w.heap.size 42 i0 _ 2 32 Cc hi hz0 hz1 hz2 rfl (by decide) (.slice (some ⟨_,0,none⟩) 0 0) 0 [] rfl (by first | exact (a0w rfl nr).drew | exact ((a0w rfl nr).alloc _).drew | exact (a0w (by simp) (by simp)).drew) (by intro e;cases e) _ k c (a0N (L.take k)) rfl SL1.out (SRC1.out _ (by first | exact (br0.alloc nr _).drew | exact ((br0.alloc nr _).alloc (by simp) _).drew)) (c0Y _) (by unfold maxLen;omega) (by omega) (by simp<;>omega) ?_;intro v1 w1 hown1 hg1 hne1;have B1:Hid (Below w.heap.size w w1):=b0C (w0:=w) (w3:=w1) (by first | exact (a0w rfl nr).drew | exact ((a0w rfl nr).alloc _).drew | exact (a0w (by simp) (by simp)).drew) (by first | exact (br0.alloc nr _).drew | exact ((br0.alloc nr _).alloc (by simp) _).drew) hg1;have O1:=hid (show w1.ownsRow w.heap.size 42 2 v1 k (a0N (L.take k)) from by rw[F9]at hown1;exact hown1);have NE1:=hid hne1;have HG1:=hid hg1;clear hown1 hg1 hne1)
       | (refine a0G _ rfl _ _ _ rfl w.heap.size 42 i0 _ 2 32 Cc hi hz0 hz1 hz2 rfl (by decide) v1 k _ rfl (by first | exact O1.out | exact O1.out.alloc _) NE1.out (some ⟨_,0,none⟩) 1 1 [.string key,.string p] rfl rfl (m0t (by first | exact Hx _ _ | exact (HG1.out.block (w.heap.size+1) (by simp<;>omega) (by simp[Value.ownBlock])).trans MZ2.out | exact (HG1.out.block w.heap.size (by simp<;>omega) (by simp[Value.ownBlock])).trans MZ3.out)) (by simp[Value.oneCell']) (by unfold maxLen;omega) (by omega) (by first | exact B1.out.size | exact (B1.out.alloc B1.out.size _).size) ?_;intro v2 w2 hown2 hg2 hne2;have B2:Hid (Below w.heap.size w w2):=b0C (w0:=w) (w3:=w2) (by first | exact O1.out | exact O1.out.alloc _) (by first | exact B1.out | exact B1.out.alloc B1.out.size _) hg2;have O2:=hid hown2;have NE2:=hid hne2;clear hown2 hg2 hne2)
       | (refine a0G _ rfl _ _ _ rfl w.heap.size 42 i0 _ 2 32 Cc hi hz0 hz1 hz2 rfl (by decide) v2 (k+1) _ rfl O2.out NE2.out _ 0 _ (a0N (L.drop k)) rfl SL2.out (SRC2.out _ _ B2.out) (c0Y _) (by unfold maxLen;omega) (by omega) (by exact B2.out.size) ?_;intro v3 w3 hown3 hg3 hne3;have O3:=hid hown3;have B3:Hid (Below w.heap.size w w3):=b0C (w0:=w) (w3:=w3) O2.out B2.out hg3;clear hown3 hg3 hne3))
     all_goals
      have OF:=O3.out;rw[<- c0l,<- b0x]at OF;go_wp2_with fail
      all_goals
       go_ret
       refine⟨⟨_,rfl,?_⟩,B3.out⟩;rw[TK.out.1,TK.out.2];have:=MRow.of_owns OF;rwa[Au]at this
def r0Z {x z:ByteArray}:ltB x z=true ↔ ¬ z.data.toList<=x.data.toList:=by
 unfold ltB;rw[bytesLess_eq,Cy,Cy,H7];exact List.not_le.symm
def Ny:=@List.pairwise_cons
def f0y {key:ByteArray}:∀ {L:List (ByteArray×ByteArray)},L.Pairwise (fun p q=>leB (b0t p) (b0t q)=true)->∀ x∈L.dropWhile (fun x=>ltB x.1 key),leB key.data.toList (b0t x)=true:=by
 intro L
 induction L with
 | nil=>intro _ x hx;simp at hx
 | cons a r ih=>
  intro h x hx;obtain⟨h1,h2⟩:=Ny.1 h;by_cases ha:ltB a.1 key=true
  .rw[List.dropWhile_cons,J3 ha]at hx;exact ih h2 x hx
  .rw[List.dropWhile_cons,J2 ha]at hx;have hle:leB key.data.toList (b0t a)=true:=by
    have:=mt r0Z.2 ha;unfold leB;rw[H7];exact Ip.1 this
   rcases Ck.1 hx with rfl | hx
   .exact hle
   .exact h0D _ _ _ hle (h1 x hx)
def b1m {α : Type}{f : α->Bool}{x : α}:∀ {L:List α},x∈L.takeWhile f->f x=true:=by
 intro L
 induction L with
 | nil=>intro h;simp at h
 | cons a r ih=>
  intro h;by_cases ha:f a=true
  .rw[List.takeWhile_cons,J3 ha]at h;rcases Ck.1 h with rfl | h
   .exact ha
   .exact ih h
  .rw[List.takeWhile_cons,J2 ha]at h;simp at h
def a1X {L:List (ByteArray×ByteArray)}:L.Pairwise (fun x y=>x.1≠y.1)->∀ x∈L,∀ y∈L,x.1=y.1->x=y:=by
 induction L with
 | nil=>intro _ x hx;simp at hx
 | cons a r ih=>
  intro h x hx y hy e;obtain⟨h1,h2⟩:=Ny.1 h;rcases Ck.1 hx with e1 | hx'<;>rcases Ck.1 hy with e2 | hy'
  .rw[e1,e2]
  .rw[e1]at e;exact absurd e (h1 y hy')
  .rw[e2]at e;exact absurd e.symm (h1 x hx')
  .exact ih h2 x hx' y hy' e
def j0a {key:ByteArray}{L:List (ByteArray×ByteArray)}:∀ x∈L.takeWhile (fun x=>ltB x.1 key),leB (b0t x) key.data.toList=true:=fun x hx=>by
 have h:=b1m hx;have:=r0Z.1 h;unfold leB;rw[H7];rcases List.le_total (b0t x) key.data.toList with h' | h'
 .exact h'
 .exact absurd h' this
def Lz:=@List.pairwise_append
def f0C {L:List (ByteArray×ByteArray)}{key p:ByteArray}(hp:p≠⟨#[48]⟩)(hk:∀ x∈L,x.1≠key)(hn:L.Pairwise (fun x y=>x.1≠y.1)):i0T (a0p L) key p=a0p (L ++ [(key,p)]):=by
 rw[i0T,J2 hp];have hs:=c0E L;have hperm:((a0p L).takeWhile (fun x=>ltB x.1 key)++(key,p)::(a0p L).dropWhile (fun x=>ltB x.1 key)).Perm (a0p (L ++ [(key,p)])):=by
  refine List.Perm.trans List.perm_middle ?_;rw[List.takeWhile_append_dropWhile];refine List.Perm.trans ?_ (Gs _ _).symm;exact (List.Perm.cons _ (Gs _ _)).trans (List.perm_append_singleton _ _).symm
 have hinj:∀ x∈L ++ [(key,p)],∀ y∈L ++ [(key,p)],x.1=y.1->x=y:=by
  have hpw:(L ++ [(key,p)]).Pairwise (fun x y=>x.1≠y.1):=by
   rw[Lz];exact⟨hn,by simp,fun a ha b hb=>by simp at hb;subst hb;exact hk a ha⟩
  exact a1X hpw
 refine List.Perm.eq_of_pairwise (le:=fun p q=>leB (b0t p) (b0t q)=true) ?_ ?_ (c0E _) hperm
 .intro a b ha hb h1 h2;have ha':a∈L ++ [(key,p)]:=b0H.1 (hperm.mem_iff.1 ha);have hb':b∈L ++ [(key,p)]:=b0H.1 hb;refine hinj a ha' b hb' ?_;simp only[leB,H7]at h1 h2;exact b0f (Ov h1 h2)
 .rw[Lz];refine⟨hs.sublist (List.takeWhile_sublist _),?_,fun a ha b hb=>?_⟩
  .rw[Ny];exact⟨fun x hx=>f0y hs x hx,hs.sublist (List.dropWhile_sublist _)⟩
  .have h1:=j0a a ha;rcases Ck.1 hb with rfl | hb
   .exact h1
   .exact h0D _ _ _ h1 (f0y hs b hb)
def w0m {a b:Nat}(hb:b≠0)(h1:nDigits a<=4000)(h2:nDigits b<=4000)(ha:a≠0):shB a b≠⟨#[48]⟩:=fun e=>by
 rw[<- g0A b,i0n hb h1 h2,i0n hb (by rw[c0J];omega) h2]at e;have e':=congrArg vQ e;rw[e0P,e0P]at e';have h3:=(Rat.mkRat_eq_iff hb hb).1 e';have hp:0<a*b:=Eb (by omega) (by omega);omega
def q0n {x:Nat}(h:x<=2 ^ 256):nDigits x<=4000:=J0 (a0l (k:=78) (by omega) (Di h (by decide))) (by omega)
end
end Go.Proofs.YtfkpfpobmobnbaaGreatDoor
