/- Texts that the proof rests on, merged: R1i, R1j, R2a, QD, R2r, R2h, R2b, R1c, R1e, R2p. -/
import Derived.Test.YtlimaehdmcnjaaaGreatDoorMg3
import Derived.IntWalk
import Derived.Deep.RegionHeld3
set_option linter.unusedVariables false
set_option linter.unusedSimpArgs false
set_option linter.unusedSectionVars false
set_option maxRecDepth 100000
set_option maxHeartbeats 8000000
namespace Go.Proofs.YtlimaehdmcnjaaaGreatDoor
open Go.RowKit
def n0Z (B:Nat)(k:IntKind)(q r:Nat)(e:Ending)(w':World):Prop:=∃ v u,e=.returned (.tuple #[v,u])∧IsN k w' v q∧(∀ g,v.ownBlock=some g→B≤g)∧IsN k w' u r
theorem i0a (w:World)(v u:Value)(a b:Nat)(ha:IsN .i64 w v a)(hb:IsN .i64 w u b)(hlt:a<b):
 Calls Tryz.prog 109 #[v,u] w fun e w'=>n0Z w.heap.size .i64 (a / b) (a%b) e w'∧Below w.heap.size w w':=by
 have HA:=hid ha;have HB:=hid hb;have HL:=hid (b0t hlt);have HQ:=hid (Nat.div_eq_of_lt hlt);have HR:=hid (Nat.mod_eq_of_lt hlt);obtain⟨a1,c1,rfl,_⟩:=ha.openI;obtain⟨a2,c2,rfl,_⟩:=hb.openI;clear ha hb hlt;go_enter Tryz.func109,Tryz.ntmps109;go_wp2_with fail;refine (b0n _ _ _ a b HA.out HB.out).mono ?_;rintro e w1 ⟨rfl,hb1⟩;have B1:=hid hb1;clear hb1;rw[HL.out];go_wp2_with fail;go_ret2
 exact⟨⟨_,_,rfl,by rw[HQ.out];exact IsN.zero _ _,fun g e=>by simp[Value.ownBlock]at e,by rw[HR.out];exact HA.out.call B1.out⟩,B1.out⟩
theorem j0R (w:World)(v u:Value)(a b:Nat)(ha:IsN .i64 w v a)(hb:IsN .i64 w u b)(hle:b≤a)(h0:0<b)(h1:b<1000000000)(hla:(limbs a).length≤1000000):
 Calls Tryz.prog 109 #[v,u] w fun e w'=>n0Z w.heap.size .i64 (a / b) (a%b) e w'∧Below w.heap.size w w':=by
 have HA:=hid ha;have HB:=hid hb;have hord:b0e a b=0∨b0e a b=1:=by
  unfold b0e;split
  ·omega
  ·split<;>simp
 obtain⟨a1,c1,rfl,h1',_⟩:=ha.openI;obtain⟨a2,c2,rfl,h2',h3',h4'⟩:=hb.openI;have hl1:limbs b = [b]:=b0Y h0 h1;obtain⟨g,o,rfl,hg,hc⟩:=h4' 0 b (by rw[hl1];rfl);rw[Nat.add_zero]at hc;have HC:=hid hc;have hlen:(limbs b).length=1:=by rw[hl1];rfl
 rw[hlen]at HB h2' ⊢;clear ha hb hc h4' hl1 hlen;go_enter Tryz.func109,Tryz.ntmps109;go_wp2_with fail;refine (b0n _ _ _ a b HA.out HB.out).mono ?_;rintro e w1 ⟨rfl,hb1⟩;have d1:=(hb1.cell (p:=⟨g,o,none⟩) hg).trans HC.out;have B1:=hid hb1;clear hb1;obtain⟨t,ht⟩:∃ t,b0e a b=t:=⟨_,rfl⟩;rw[ht]at hord ⊢;have q0:decide (t<0)=false:=by simp;omega
 clear ht hord;go_wp2_with fail;refine (g0C _ _ a b (HA.out.call B1.out) h0 h1 hla).mono ?_;rintro e w2 ⟨⟨v2,rfl,hv2,hf2⟩,hb2⟩;have B2:=hid hb2;have V2:=hid hv2;have F2:=hid hf2;clear hb2 hv2 hf2;have hrb:a%b<1000000000:=Nat.lt_trans (Nat.mod_lt a h0) h1;go_wp2_with fail;refine (h0v _ _ [a%b] (Sm.cons hrb Sm.nil) ?_).mono ?_
 ·exact Row.of_blk (b:=w2.heap.size) (n:=1) (c:=1) (cs:=#[.int .i64 ((a%b:Nat):Int)]) (Blk.new w2 _ _) rfl (by unfold maxLen;omega) (fun i x hx=>by simpa[ints]using hx) (Nat.le_refl _) (by unfold maxLen;omega)
 ·rintro e w3 ⟨⟨v3,rfl,hv3⟩,rfl⟩;have V3:=hid hv3;clear hv3;go_wp2_with fail;go_ret2
  have hb3:Below w2.heap.size w2 (w2.alloc (.cells #[.int .i64 ((a%b:Nat):Int)] 3)):=(Below.refl _ _).alloc (Nat.le_refl _) _;refine⟨⟨_,_,rfl,V2.out.call hb3,fun g e=>Nat.le_trans B1.out.size (F2.out g e),?_⟩,a0a (a0a B1.out B2.out) hb3⟩;have:=V3.out;rwa[show val [a%b]=a%b by simp[a0F]]at this
theorem h0Z (w:World)(v u:Value)(a b m:Nat)(ha:IsN .i64 w v a)(hb:IsN .i64 w u b)(hle:b≤a)(hn:(limbs b).length=m)(hm2:2≤m)(hla:(limbs a).length≤1000000):
 Calls Tryz.prog 109 #[v,u] w fun e w'=>n0Z w.heap.size .i64 (a / b) (a%b) e w'∧Below w.heap.size w w':=by
 have HA:=hid ha;have HB:=hid hb;have hord:b0e a b=0∨b0e a b=1:=by
  unfold b0e;split
  ·omega
  ·split<;>simp
 have hmn:=a0h hle;obtain⟨a1,c1,rfl,h1',_⟩:=ha.openI;obtain⟨a2,c2,rfl,h2',h3',h4'⟩:=hb.openI;obtain⟨x,hx⟩:∃ x,(limbs b)[m-1]?=some x:=⟨_,List.getElem?_eq_getElem (by omega)⟩;obtain⟨g,o,rfl,hg,hc⟩:=h4' (m-1) x hx;have HC:=hid hc;have hn1:(limbs b).length=(m-1)+1:=by omega
 obtain⟨s1,s2,s3⟩:=g0u hn1 hx;obtain⟨t1,t2,_⟩:=f0D hn1 hx;obtain⟨d,hd⟩:∃ d,1000000000 / (x+1)=d:=⟨_,rfl⟩;rw[hd]at s1 s2 s3;have HS:=hid (show (limbs (b*d)).length=m by omega);have hdI:=hid (show ((1000000000:Int) / ((x:Int)+1))=(d:Int) from by rw[← hd];rfl);rw[hn]at h2' hmn ⊢;obtain⟨L,hL⟩:∃ L,(limbs a).length=L:=⟨_,rfl⟩;rw[hL]at hmn h1' ⊢;have hla':L≤1000000:=by omega
 have HL:=hid hL;have HN:=hid hn;have HLA:=hid hla;have HLE:=hid hle;rw[hL]at HA;rw[hn]at HB;obtain⟨K,hK⟩:∃ K,K=L+1-m:=⟨_,rfl⟩;have hKI:=hid (show ((L:Int)+1-(m:Int))=(K:Int) by omega);have hKL:K+m=L+1:=by omega
 have hmk:=hid (fun W=>c0v K (by omega) W);clear ha hb hc h4' hx hd s1 hL hn hla hle hn1 hK;go_enter Tryz.func109,Tryz.ntmps109;go_wp2_with fail;refine (b0n _ _ _ a b HA.out HB.out).mono ?_;rintro e w1 ⟨rfl,hb1⟩;have d1:=(hb1.cell (p:=⟨g,o+(m-1),none⟩) hg).trans HC.out;have B1:=hid hb1;clear hb1;obtain⟨t,ht⟩:∃ t,b0e a b=t:=⟨_,rfl⟩;rw[ht]at hord ⊢;have q0:decide (t<0)=false:=by simp;omega
 clear ht hord;go_wp2_with fail;rw[hdI.out];refine (g0D _ _ a d (HA.out.call B1.out) s3 HLA.out).mono ?_;rintro e w2 ⟨⟨gu,ou,rfl,hgu,hAu,lu,su,vu⟩,hb2⟩;have B2:=hid (a0a B1.out hb2);have AU:=hid hAu;have LU:=hid lu;have SU:=hid su;have VU:=hid vu;have hul:=hAu.lt;rw[HL.out]at LU ⊢;clear hAu lu su vu d1;go_wp2_with fail;refine (g0D _ _ b d (HB.out.call B2.out) s3 (by rw[HN.out];omega)).mono ?_;rintro e w3 ⟨⟨gv,ov,rfl,hgv,hAv,lv,sv,vv⟩,hb3⟩;have B3:=hid (a0a B2.out hb3);have AU3:=hid (AU.out.call hb3);have hne:gv≠gu:=by omega
 have LV:=hid lv;have VV:=hid vv;have SV:=hid sv;clear lv vv sv;go_wp2_with fail;rw[← LV.out];refine (b0R _ _ _ ov SV.out (by have:=hAv.row (n:=ov.length) (c:=ov.length) (Nat.le_refl _) (Nat.le_refl _) (by rw[LV.out,HN.out];unfold maxLen;omega);rwa[List.take_of_length_le (Nat.le_refl _)]at this)).mono ?_;rintro e w4 ⟨⟨m',rfl,hm'⟩,rfl⟩;rw[VV.out]at hm';have hmm:m'=m:=by have:=hm'.len.1;rw[ints_length,HS.out]at this;exact this
 subst hmm;have RV:=hid hm';have hvl:=hAv.lt;clear hAv hm' AU;have y1:=hKI.out;have y2:=hmk.out;go_wp2_with fail;clear y1 y2;have hV:=hid (a0p (b*d))
 have D0:=hid (show DivI (a*d) (b*d) m' (L+1) K ou (List.replicate K 0) from by
  have h1:1000000000 ^ (m'-1)≤b:=a0L.1 (by rw[HN.out];omega);have h2:b*d≤1000000000 ^ m':=Nat.le_of_lt (a0e.1 (by rw[HS.out];exact Nat.le_refl _));have h3:a<1000000000 ^ L:=a0e.1 (by rw[HL.out];exact Nat.le_refl _);have:=DivI.start (U:=a*d) (V:=b*d) (n:=m') h2 SU.out LU.out (by omega) VU.out (j0q LU.out VU.out h3 (by omega) (by omega) h1 s2);rwa[show L+1-m'=K by omega]at this)
 go_loopw [13] (fun jj wr=>∃ (k:Nat) (t:Int) (o Q:List Nat),jj=.int .i64 t∧t=(k:Int)-1∧k≤K∧Hid (DivI (a*d) (b*d) m' (L+1) k o Q)∧Hid (Arr .i64 3 wr gu o)∧Hid (Arr .i64 3 wr w3.heap.size Q)∧Hid (Row wr (.slice (some ⟨gv,0,none⟩) m' ov.length) (ints .i64 (limbs (b*d))))∧Hid (Below w.heap.size w wr)) (fun jj _=>(intOf jj+1).toNat)
 case atStart=>
  have ha:Below w3.heap.size w3 (w3.alloc (.cells (madeCells #[.int .i64 0] K) 3)):=(Below.refl _ _).alloc (Nat.le_refl _) _;exact⟨K,_,ou,_,rfl,rfl,Nat.le_refl _,D0,AU3.out.call ha,Arr.made w3 .i64 3 K,RV.out.call ha,a0a B3.out ha⟩
 case round=>
  obtain⟨k,t,o2,Q,rfl,ht,hk,hD,hU,hQ,hR,hB⟩:=hrel;have hol:=hid hD.out.lo;have hql:=hid (show Q.length=K from by rw[hD.out.lq];omega);cases k with
  | zero=>
   obtain rfl:t = -1:=by omega
   clear ht;obtain⟨r1,r2,r3⟩:=hD.out.done (by omega);have hfin:=hid (m0c (a:=a) (b:=b) s2 r1 r2);have R3:=hid r3;have hlen:(limbs (val (o2.take m'))).length≤1000000:=by
    rw[r3];have:=a0h (Nat.le_of_lt r2);rw[HS.out]at this;omega
   clear r1 r2 r3;go_wp2_with fail;refine (h0v _ _ (o2.take m') (hD.out.so.take _) (hU.out.row (by rw[hol.out];omega) (by omega) (by unfold maxLen;omega))).mono ?_;rintro e w5 ⟨⟨v5,rfl,hv5⟩,rfl⟩;go_wp2_with fail;refine (n0g _ v5 _ d hv5 s2 s3 hlen).mono ?_;rintro e w6 ⟨⟨v6,rfl,hv6⟩,hb6⟩;have V6:=hid hv6;have B6:=hid hb6;have Q6:=hid (hQ.out.call hb6);clear hv5 hv6 hb6;go_wp2_with fail;refine (g0B _ _ _ _ Q hql.out hD.out.sq (by have:=Q6.out.row (n:=K) (c:=K) (by rw[hql.out];exact Nat.le_refl _) (Nat.le_refl _) (by unfold maxLen;omega);rwa[List.take_of_length_le (by rw[hql.out];exact Nat.le_refl _)]at this)).mono ?_;rintro e w7 ⟨⟨m7,rfl,hv7⟩,rfl⟩;go_wp2_with fail;go_ret2
   refine⟨⟨_,v6,rfl,by rw[← hfin.out.1];exact hv7,fun g e=>by have:=B3.out.size;simp[Value.ownBlock]at e;omega,?_⟩,a0a hB.out B6.out⟩;have:=V6.out;rwa[R3.out,hfin.out.2]at this
  | succ j=>
   obtain rfl:t=(j:Int):=by omega
   clear ht;have hS:=hid (show StepIn o2 (limbs (b*d)) j m' from⟨hm2,by omega,HS.out,by rw[hol.out];omega,by rw[hol.out];omega,hD.out.so,a0j _,g0O (n:=m'-1) (by rw[HS.out];omega),by rw[hV.out];exact hD.out.win (by omega)⟩);obtain⟨z,hz⟩:∃ z,Q[j]?=some z:=⟨_,List.getElem?_eq_getElem (by rw[hql.out];omega)⟩;have hgq:w3.heap.size≠gu:=by omega
   have hgw:w.heap.size≤gu:=Nat.le_trans B1.out.size hgu;have hqw:w.heap.size≤w3.heap.size:=B3.out.size;go_wp2_with fail;rw[show j+m'+1-j=m'+1 by omega];refine (p0h _ gu j _ o2 gv 0 _ (limbs (b*d)) m' hS.out hU.out hR.out hne).mono ?_;rintro e w5 ⟨he,o5,hw5,hA5,hg5⟩;rw[hV.out]at he hw5;have HN5:=hid (hD.out.next (by omega) hw5);obtain⟨qv,hqv⟩:∃ q,val ((o2.drop j).take (m'+1)) / (b*d)=q:=⟨_,rfl⟩;rw[hqv]at he HN5;subst he;have Q5:=hid (hQ.out.gb hg5 hgq);have R5:=hid (hR.out.gb hg5 hne);have B5:=hid (n0V hB.out hB.out.size hg5 hgw);have A5:=hid hA5;have d3:=Q5.out.cell hz;have d4:=Q5.out.free j;clear hw5 hA5 hg5 hqv hz;go_wp2_with fail;go_roundw
   case rel=>
    have hs:Below w5.heap.size w5 w5:=Below.refl _ _;have hset:w5.grownBy (w5.setCell ⟨w3.heap.size,j,none⟩ (.int .i64 (qv:Int))) (some w3.heap.size):=c0d (World.grownBy.refl _ _) _ _;exact⟨j,_,o5,_,rfl,rfl,by omega,HN5,A5.out.gb hset (fun e=>hgq e.symm),Q5.out.set j qv,R5.out.gb hset (by omega),a0A B5.out hqw _⟩
   case measure=>simp[intOf]<;>omega
theorem d0z (w:World)(v u:Value)(a b:Nat)(ha:IsN .i64 w v a)(hb:IsN .i64 w u b)(h0:0<b)(hla:(limbs a).length≤1000000):
 Calls Tryz.prog 109 #[v,u] w fun e w'=>n0Z w.heap.size .i64 (a / b) (a%b) e w'∧Below w.heap.size w w':=by
 by_cases hlt:a<b
 ·exact i0a w v u a b ha hb hlt
 ·by_cases h1:b<1000000000
  ·exact j0R w v u a b ha hb (by omega) h0 h1 hla
  ·refine h0Z w v u a b _ ha hb (by omega) rfl ?_ hla;have:1<(limbs b).length:=a0L.2 (by omega);omega
theorem g0F (w:World)(v u:Value)(a b:Nat)(ha:IsN .i64 w v a)(hb:IsN .i64 w u b)(h0:0<b)(hla:(limbs a).length≤1000000):
 Calls Tryz.prog 109 #[v,u] w fun e w'=>m0B .i64 (a / b) (a%b) e w'∧Below w.heap.size w w':=
 (d0z w v u a b ha hb h0 hla).mono fun _ _ h=>by
  obtain⟨⟨v,u,h1,h2,-,h3⟩,h4⟩:=h;exact⟨⟨v,u,h1,h2,h3⟩,h4⟩
theorem e0r (w:World)(v u:Value)(a b:Nat)(ha:IsN .i64 w v a)(hb:IsN .i64 w u b)(hla:(limbs a).length≤1000000)(hlb:(limbs b).length≤1000000):
 Calls Tryz.prog 126 #[v,u] w fun e w'=>g0l .i64 (Nat.gcd a b) e w'∧Below w.heap.size w w':=by
 have HA:=hid ha;have HB:=hid hb;have LA:=hid hla;have LB:=hid hlb;clear ha hb hla hlb;go_enter Tryz.func126,Tryz.ntmps126;go_wp2_with fail
 go_loopw [0,1,5,6] (fun x y q r wr=>∃ m n:Nat,Hid (IsN .i64 wr x m)∧Hid (IsN .i64 wr y n)∧Hid ((limbs m).length≤1000000)∧Hid ((limbs n).length≤1000000)∧Hid (Nat.gcd m n=Nat.gcd a b)∧Hid (Below w.heap.size w wr))
  (fun x y q r wr=>n0s .i64 wr y)
 case atStart=>exact⟨a,b,HA,HB,LA,LB,rfl,Below.refl _ _⟩
 case round=>
  obtain⟨m,n,hx,hy,hm,hn,hg,hB⟩:=hrel;have hnum:=hid (e0a hy.out);obtain⟨a1,c1,rfl,h1,h1',h1''⟩:=hx.out.openI;obtain⟨a2,c2,rfl,h2,h2',h2''⟩:=hy.out.openI;clear h1'' h2'';by_cases h0:n=0
  ·subst h0;have hl:(limbs 0).length=0:=by rw[limbs_zero];rfl
   rw[hl]at *;clear hl;go_wp2_with fail;go_ret
   exact⟨⟨_,rfl,by rw[← hg.out,Nat.gcd_zero_right];exact hx.out⟩,hB.out⟩
  ·have hpos:0<(limbs n).length:=List.length_pos_iff.2 (fun e=>h0 (a0Q.1 e));have q0:decide ((0:Int)<((limbs n).length:Int))=true:=by simp;omega
   go_wp2_with fail;refine (g0F _ _ _ m n hx.out hy.out (by omega) hm.out).mono ?_;rintro e w1 ⟨⟨v1,v2,rfl,hv1,hv2⟩,hb1⟩;have V2:=hid hv2;have B1:=hid (a0a hB.out hb1);have Y1:=hid (hy.out.call hb1);have hlt:=hid (Nat.mod_lt m (y:=n) (by omega));have hll:=hid (show (limbs (m%n)).length≤1000000 from Nat.le_trans (a0h (Nat.le_of_lt hlt.out)) hn.out);have hgg:=hid (show Nat.gcd n (m%n)=Nat.gcd a b from by rw[← hg.out,Nat.gcd_comm m n,Nat.gcd_rec n m,Nat.gcd_comm]) ;clear hv1 hv2 hb1;go_wp2_with fail;go_roundw
   case rel=>exact⟨n,m%n,Y1,V2,hn,hll,hgg,B1⟩
   case measure=>rw[e0a V2.out,hnum.out];exact hlt.out
open Go.Lib (decDigits nDigits)
def IsQF (B:Nat)(w:World)(v:Value)(q:Rat):Prop:=∃ N D,v=.agg #[.bool (decide (q.num<0)),N,D]∧IsN .i64 w N q.num.natAbs∧IsN .i64 w D q.den∧(∀ g,N.ownBlock=some g→B≤g)∧(∀ g,D.ownBlock=some g→B≤g)
theorem IsQF.q {B:Nat}{w:World}{v:Value}{q:Rat}(h:IsQF B w v q):IsQ .i64 w v q:=by
 obtain⟨N,D,rfl,h1,h2,-,-⟩:=h;exact⟨N,D,rfl,h1,h2⟩
theorem IsQF.of {B:Nat}{w:World}{m:Bool}{N D:Value}{q:Rat}(h:IsQ .i64 w (.agg #[.bool m,N,D]) q)(hN:∀ g,N.ownBlock=some g→B≤g)(hD:∀ g,D.ownBlock=some g→B≤g):IsQF B w (.agg #[.bool m,N,D]) q:=by
 obtain⟨N',D',e,h1,h2⟩:=h.ex;simp at e;obtain⟨rfl,rfl,rfl⟩:=e;exact⟨N,D,rfl,h1,h2,hN,hD⟩
theorem IsQF.fr {B:Nat}{w:World}{m:Bool}{N D:Value}{q:Rat}(h:IsQF B w (.agg #[.bool m,N,D]) q):(∀ g,N.ownBlock=some g→B≤g)∧(∀ g,D.ownBlock=some g→B≤g):=by
 obtain⟨N',D',e,-,-,h1,h2⟩:=h;simp at e;obtain⟨-,rfl,rfl⟩:=e;exact⟨h1,h2⟩
def RetQF (B:Nat)(q:Rat)(e:Ending)(w':World):Prop:=∃ v,e=.returned v∧IsQF B w' v q
theorem RetQF.ret {B:Nat}{q:Rat}{e:Ending}{w':World}(h:RetQF B q e w'):d0Q .i64 q e w':=by
 obtain⟨v,h1,h2⟩:=h;exact⟨v,h1,h2.q⟩
theorem k0G (w:World):Calls Tryz.prog 75 #[] w fun e w'=>RetFr w.heap.size .i64 1 e w'∧Below w.heap.size w w':=by
 have H1:=hid (h0T w);go_enter Tryz.func75,Tryz.ntmps75;go_wp2_with fail;go_ret
 exact⟨⟨_,rfl,H1.out,fun g e=>by simp[Value.ownBlock]at e;omega⟩,(Below.refl _ _).alloc (Nat.le_refl _) _⟩
theorem i0u (w:World):Calls Tryz.prog 75 #[] w fun e w'=>g0l .i64 1 e w'∧Below w.heap.size w w':=(k0G w).mono fun _ _ h=>⟨h.1.ret,h.2⟩
theorem c0t (w:World)(m:Bool)(v u:Value)(n d:Nat)(hn:IsN .i64 w v n)(hd:IsN .i64 w u d)(h0:0<d)(hln:(limbs n).length≤1000000)(hld:(limbs d).length≤1000000):
 Calls Tryz.prog 111 #[.bool m,v,u] w fun e w'=>RetQF w.heap.size (qmk m n d) e w'∧Below w.heap.size w w':=by
 have HN:=hid hn;have HD:=hid hd;obtain⟨a1,c1,rfl,_⟩:=hn.openI;obtain⟨a2,c2,rfl,_⟩:=hd.openI;clear hn hd;rcases Nat.eq_zero_or_pos n with rfl | hp
 ·have hl:(limbs 0).length=0:=by rw[limbs_zero];rfl
  rw[hl]at HN ⊢;have hq:=hid (i0z m d);rw[hq.out];clear hl;go_enter Tryz.func111,Tryz.ntmps111;go_wp2_with fail;refine (k0G _).mono ?_;rintro e w1 ⟨⟨v1,rfl,hv1,hf1⟩,hb1⟩;obtain⟨a3,c3,rfl,_⟩:=hv1.openI;have HV:=hid hv1;have HF:=hid hf1;clear hf1;have HB:=hid (show Blk w1 w.heap.size #[.bool false,.slice none 0 0,.slice none 0 0] 79 from (Blk.new w _ _).call hb1);have d0:=HB.out.cell 0;have d1:=HB.out.cell 1;have d2:=HB.out.cell 2;have e0:=HB.out.free 0;have e1:=HB.out.free 1;have e2:=HB.out.free 2;have HBB:=hid hb1;clear hb1 hv1;simp at d0 d1 d2;go_wp2_with fail;obtain⟨s1,s2⟩:=b0d HB.out false none a3 0 0 (limbs 1).length c3;have f0:=s2.cell 0;have f1:=s2.cell 1;have f2:=s2.cell 2;simp at f0 f1 f2;refine bodyPost_ret (v:=.agg #[.bool false,.slice none 0 0,.slice a3 (limbs 1).length c3]) (by simp[results,Tryz.results111,go_sem,f0,f1,f2]) rfl ⟨⟨_,rfl,IsQF.of (IsQ.zero_ (s1 _ _ _ (IsN.zero _ _)) (s1 _ _ _ HV.out)) (fun g e=>by simp[Value.ownBlock]at e) (fun g e=>by have:=HF.out g e;simp at this;omega)⟩,?_⟩;exact (((((Below.refl _ _).alloc (Nat.le_refl _) _).trans (HBB.out.mono (by simp))).setCell (Nat.le_refl _) _).setCell (Nat.le_refl _) _).setCell (Nat.le_refl _) _
 ·have hpos:0<(limbs n).length:=List.length_pos_iff.2 (fun e=>by have:=a0Q.1 e;omega);have q0:(((limbs n).length:Int)==0)=false:=beq_eq_false_iff_ne.2 (by omega);obtain⟨g,hg⟩:∃ g,Nat.gcd n d=g:=⟨_,rfl⟩;have hgp:0<g:=hg ▸ Nat.gcd_pos_of_pos_left d hp;have HG:=hid hg;have HGP:=hid hgp;have HP:=hid hp;have H0:=hid h0;have HLN:=hid hln;have HLD:=hid hld;clear hg hgp hp h0 hln hld hpos;go_enter Tryz.func111,Tryz.ntmps111;go_wp2_with fail;refine (e0r _ _ _ n d (HN.out.call ((Below.refl _ _).alloc (Nat.le_refl _) _)) (HD.out.call ((Below.refl _ _).alloc (Nat.le_refl _) _)) HLN.out HLD.out).mono ?_;rintro e w1 ⟨⟨v1,rfl,hv1⟩,hb1⟩;rw[HG.out]at hv1;have HB1:=hid (show Blk w1 w.heap.size #[.bool false,.slice none 0 0,.slice none 0 0] 79 from (Blk.new w _ _).call hb1);have B1:=hid (((Below.refl w.heap.size w).alloc (Nat.le_refl _) (.cells #[.bool false,.slice none 0 0,.slice none 0 0] 79)).trans (hb1.mono (by simp)));have N1:=hid (HN.out.call B1.out);have D1:=hid (HD.out.call B1.out);have G1:=hid hv1;clear hb1 hv1;go_wp2_with fail;refine (d0z _ _ _ n g N1.out G1.out HGP.out HLN.out).mono ?_;rintro e w2 ⟨⟨v2,v3,rfl,hv2,hf2,-⟩,hb2⟩;have HB2:=hid (HB1.out.call hb2);have B2:=hid (a0a B1.out hb2);have D2:=hid (D1.out.call hb2);have G2:=hid (G1.out.call hb2);have V2:=hid hv2;have F2:=hid hf2;clear hb2 hv2 hf2;go_wp2_with fail;refine (d0z _ _ _ d g D2.out G2.out HGP.out HLD.out).mono ?_;rintro e w3 ⟨⟨v4,v5,rfl,hv4,hf4,-⟩,hb3⟩;have HB3:=hid (HB2.out.call hb3);have B3:=hid (a0a B2.out hb3);have W2:=hid (V2.out.call hb3);have W4:=hid hv4;have F4:=hid hf4;clear hb3 hv4 hf4;obtain⟨a3,c3,rfl,_⟩:=W2.out.openI;obtain⟨a4,c4,rfl,_⟩:=W4.out.openI;have d0:=HB3.out.cell 0;have d1:=HB3.out.cell 1;have d2:=HB3.out.cell 2;have e0:=HB3.out.free 0;have e1:=HB3.out.free 1;have e2:=HB3.out.free 2;simp at d0 d1 d2;go_wp2_with fail;obtain⟨s1,s2⟩:=b0d HB3.out m a3 a4 (limbs (n / g)).length c3 (limbs (d / g)).length c4;have f0:=s2.cell 0;have f1:=s2.cell 1;have f2:=s2.cell 2;simp at f0 f1 f2;refine bodyPost_ret (v:=.agg #[.bool m,.slice a3 (limbs (n / g)).length c3,.slice a4 (limbs (d / g)).length c4]) (by simp[results,Tryz.results111,go_sem,f0,f1,f2]) rfl ⟨⟨_,rfl,IsQF.of (IsQ.mk' HP.out H0.out (HG.out ▸ s1 _ _ _ W2.out) (HG.out ▸ s1 _ _ _ W4.out)) (fun g e=>Nat.le_trans B1.out.size (F2.out g e)) (fun g e=>Nat.le_trans B2.out.size (F4.out g e))⟩,?_⟩;exact ((B3.out.setCell (Nat.le_refl _) _).setCell (Nat.le_refl _) _).setCell (Nat.le_refl _) _
theorem k0H (w:World)(m:Bool)(v u:Value)(n d:Nat)(hn:IsN .i64 w v n)(hd:IsN .i64 w u d)(h0:0<d)(hln:(limbs n).length≤1000000)(hld:(limbs d).length≤1000000):
 Calls Tryz.prog 111 #[.bool m,v,u] w fun e w'=>d0Q .i64 (qmk m n d) e w'∧Below w.heap.size w w':=
 (c0t w m v u n d hn hd h0 hln hld).mono fun _ _ h=>⟨h.1.ret,h.2⟩
end Go.Proofs.YtlimaehdmcnjaaaGreatDoor
namespace Go.Proofs.YtlimaehdmcnjaaaGreatDoor
open Go.RowKit
open Go.Shelf
theorem d0t {s:ByteArray}(h:allDig s.data.toList)(hs:¬ 4000<s.size):(limbs (bN s)).length≤1000000:=by
 refine n0R h ?_;have:s.data.toList.length=s.size:=Array.length_toList;omega
theorem d0e {s:ByteArray}(h:cS s=false):qD s=⟨#[49]⟩:=by simp[qD,h]
theorem b0C {s:ByteArray}(h:cS s=true):qD s=cB s:=by simp[qD,h]
end Go.Proofs.YtlimaehdmcnjaaaGreatDoor
namespace Go.Proofs.YtlimaehdmcnjaaaGreatDoor
open Go.RowKit
open Go.Lib (decDigits nDigits)
structure CutR (s W B D:ByteArray)(S M I fb:Bool)(k:Nat):Prop where
 sl:∀ w,Calls Tryz.prog 123 #[.string s] w fun e w'=>e=.returned (.int .i64 k)∧w=w'
 kle:k≤s.size
 cutW:s.extract 0 k=W
 cutB:S=true→s.extract (k+1) s.size=B
 has:S=decide (k<s.size)
 int:∀ w,Calls Tryz.prog 124 #[.string W] w fun e w'=>e=.returned (.tuple #[.bool M,.string D,.bool I])∧w=w'
 form:∀ w,Calls Tryz.prog 125 #[.string B] w fun e w'=>e=.returned (.bool fb)∧w=w'
theorem m0j (s:ByteArray)(hs:s.size≤9223372036854775807):CutR s (cW s) (cB s) (iD (cW s)) (cS s) (iM (cW s)) (iB (cW s)) (fB (cB s)) (cW s).size:=by
 have key:∀ k,f0Z s.data.toList k→k=(cW s).size:=by
  intro k hk;obtain⟨h1,h2,-⟩:=g0r hk;rw[h2];simp;omega
 have ex:∃ k,f0Z s.data.toList k:=by
  rcases d0Y s.data.toList with hn | ⟨A,B,hA,e⟩
  ·exact⟨s.data.toList.length,Nat.le_refl _,fun j b _ hb=>hn b (List.mem_of_getElem? hb),fun h=>absurd h (Nat.lt_irrefl _)⟩
  ·refine⟨A.length,by rw[e];simp,fun j b hj hb=>?_,fun _=>by rw[e];simp⟩;rw[e,List.getElem?_append_left hj]at hb;exact hA b (List.mem_of_getElem? hb)
 obtain⟨k,hk⟩:=ex;obtain⟨h1,h2,h3,h4⟩:=g0r hk;have hk':=key k hk;subst hk'
 exact {
  sl:=fun w=>(n0b w s (by omega)).mono (by
   rintro e w' ⟨⟨j,rfl,hj⟩,rfl⟩;rw[key j hj];exact⟨rfl,rfl⟩)
  kle:=h1
  cutW:=h2.symm
  cutB:=fun h=>(h4 (by rw[h3]at h;simpa using h)).symm
  has:=h3
  int:=fun w=>j0r w (cW s) (by have:=m0p s;omega)
  form:=fun w=>d0a w (cB s) (by have:=m0q s;omega) }
def RetR (x:Int)(m:Bool)(n d:Nat)(e:Ending)(w':World):Prop:=∃ v,e=.returned (.tuple #[v,.int .i64 x])∧(x=0→∃ N D,v=.agg #[.bool m,N,D]∧IsN .i64 w' N n∧IsN .i64 w' D d)∧(x≠0→v=.agg #[.bool false,.slice none 0 0,.slice none 0 0])
theorem RetR.err {x:Int}{m:Bool}{n d:Nat}{w':World}(h:x≠0):RetR x m n d (.returned (.tuple #[.agg #[.bool false,.slice none 0 0,.slice none 0 0],.int .i64 x])) w':=⟨_,rfl,fun e=>absurd e h,fun _=>rfl⟩
theorem q0S (w:World)(s W B D:ByteArray)(S M I fb:Bool)(k:Nat)(hs:s.size≤9223372036854775807)(HC:CutR s W B D S M I fb k)
 (h:(I && (!S || (decide (D≠⟨#[48]⟩) && fb && decide (B≠⟨#[48]⟩) && decide (B≠⟨#[49]⟩))))=false):
 Calls Tryz.prog 77 #[.string s] w fun e w'=>e=.returned (.tuple #[.agg #[.bool false,.slice none 0 0,.slice none 0 0],.int .i64 3])∧Below w.heap.size w w':=by
 have key:(I=false)∨(I=true∧S=true∧(D=⟨#[48]⟩∨(¬ D=⟨#[48]⟩∧(fb=false∨(fb=true∧(B=⟨#[48]⟩∨(¬ B=⟨#[48]⟩∧B=⟨#[49]⟩))))))):=by
  by_cases h1:D=⟨#[48]⟩<;>by_cases h2:B=⟨#[48]⟩<;>by_cases h3:B=⟨#[49]⟩<;>cases I<;>cases S<;>cases fb<;>simp[h1,h2,h3]at h ⊢
 have HK:=hid HC;have kle:=HC.kle;have hlt:=HC.has;have cw:=hid HC.cutW;have cb:=hid HC.cutB;clear HC h;have t0:=hid (Blk.new w #[.bool false,.slice none 0 0,.slice none 0 0] 79);have t1:=hid ((Below.refl w.heap.size w).alloc (Nat.le_refl _) (.cells #[.bool false,.slice none 0 0,.slice none 0 0] 79));have d0:=t0.out.cell 0;have d1:=t0.out.cell 1;have d2:=t0.out.cell 2;have e0:=t0.out.free 0;have e1:=t0.out.free 1;have e2:=t0.out.free 2;simp at d0 d1 d2;have ht:∀ {b:Bool},b=decide (k<s.size)→decide (k<s.size)=b:=fun h=>h.symm
 have kle2:S=true→k+1≤s.size:=fun h=>by rw[h]at hlt;have:=of_decide_eq_true hlt.symm;omega
 have wk2:S=true→IntKind.i64.wrap ((k:Int)+1)=(k:Int)+1:=fun h=>by have:=kle2 h;rw[IntWalk.i64_in _ ⟨by omega,by omega⟩]
 rcases key with rfl | ⟨rfl,rfl,rfl | ⟨h1,rfl | ⟨rfl,rfl | ⟨h2,rfl⟩⟩⟩⟩
 ·cases S
  ·have q0:=ht hlt;clear hlt ht kle2 wk2;go_enter Tryz.func77,Tryz.ntmps77
   go_wp2_with (first
    | (go_at_call 123;refine (HK.out.sl _).mono ?_;rintro e w1 ⟨rfl,rfl⟩)
    | (go_at_call 124;rw[cw.out];refine (HK.out.int _).mono ?_;rintro e w2 ⟨rfl,rfl⟩)
    | (go_at_call 125;(first | rw[cb.out trivial] | rw[cb.out rfl]);refine (HK.out.form _).mono ?_;rintro e w3 ⟨rfl,rfl⟩)
    | fail)
   obtain⟨s1,s2⟩:=b0d t0.out false none none 0 0 0 0;have f0:=s2.cell 0;have f1:=s2.cell 1;have f2:=s2.cell 2;simp at f0 f1 f2;refine bodyPost_ret (v:=.tuple #[.agg #[.bool false,.slice none 0 0,.slice none 0 0],.int .i64 3]) (by simp[results,Tryz.results77,go_sem,f0,f1,f2]) rfl ⟨rfl,?_⟩
   first | exact t1.out | exact ((t1.out.setCell (Nat.le_refl _) _).setCell (Nat.le_refl _) _).setCell (Nat.le_refl _) _
  ·have q0:=ht hlt;have kle3:=kle2 rfl;have wk:=wk2 rfl;clear hlt ht kle2 wk2;go_enter Tryz.func77,Tryz.ntmps77
   go_wp2_with (first
    | (go_at_call 123;refine (HK.out.sl _).mono ?_;rintro e w1 ⟨rfl,rfl⟩)
    | (go_at_call 124;rw[cw.out];refine (HK.out.int _).mono ?_;rintro e w2 ⟨rfl,rfl⟩)
    | (go_at_call 125;(first | rw[cb.out trivial] | rw[cb.out rfl]);refine (HK.out.form _).mono ?_;rintro e w3 ⟨rfl,rfl⟩)
    | fail)
   obtain⟨s1,s2⟩:=b0d t0.out false none none 0 0 0 0;have f0:=s2.cell 0;have f1:=s2.cell 1;have f2:=s2.cell 2;simp at f0 f1 f2;refine bodyPost_ret (v:=.tuple #[.agg #[.bool false,.slice none 0 0,.slice none 0 0],.int .i64 3]) (by simp[results,Tryz.results77,go_sem,f0,f1,f2]) rfl ⟨rfl,?_⟩
   first | exact t1.out | exact ((t1.out.setCell (Nat.le_refl _) _).setCell (Nat.le_refl _) _).setCell (Nat.le_refl _) _
 ·have q0:=ht hlt;have kle3:=kle2 rfl;have wk:=wk2 rfl;clear hlt ht kle2 wk2;go_enter Tryz.func77,Tryz.ntmps77
  go_wp2_with (first
   | (go_at_call 123;refine (HK.out.sl _).mono ?_;rintro e w1 ⟨rfl,rfl⟩)
   | (go_at_call 124;rw[cw.out];refine (HK.out.int _).mono ?_;rintro e w2 ⟨rfl,rfl⟩)
   | (go_at_call 125;(first | rw[cb.out trivial] | rw[cb.out rfl]);refine (HK.out.form _).mono ?_;rintro e w3 ⟨rfl,rfl⟩)
   | fail)
  obtain⟨s1,s2⟩:=b0d t0.out false none none 0 0 0 0;have f0:=s2.cell 0;have f1:=s2.cell 1;have f2:=s2.cell 2;simp at f0 f1 f2;refine bodyPost_ret (v:=.tuple #[.agg #[.bool false,.slice none 0 0,.slice none 0 0],.int .i64 3]) (by simp[results,Tryz.results77,go_sem,f0,f1,f2]) rfl ⟨rfl,?_⟩
  first | exact t1.out | exact ((t1.out.setCell (Nat.le_refl _) _).setCell (Nat.le_refl _) _).setCell (Nat.le_refl _) _
 ·have q0:=ht hlt;have kle3:=kle2 rfl;have wk:=wk2 rfl;have i1:=a0Z (l:=[48]) h1;clear hlt ht kle2 wk2;go_enter Tryz.func77,Tryz.ntmps77
  go_wp2_with (first
   | (go_at_call 123;refine (HK.out.sl _).mono ?_;rintro e w1 ⟨rfl,rfl⟩)
   | (go_at_call 124;rw[cw.out];refine (HK.out.int _).mono ?_;rintro e w2 ⟨rfl,rfl⟩)
   | (go_at_call 125;(first | rw[cb.out trivial] | rw[cb.out rfl]);refine (HK.out.form _).mono ?_;rintro e w3 ⟨rfl,rfl⟩)
   | fail)
  obtain⟨s1,s2⟩:=b0d t0.out false none none 0 0 0 0;have f0:=s2.cell 0;have f1:=s2.cell 1;have f2:=s2.cell 2;simp at f0 f1 f2;refine bodyPost_ret (v:=.tuple #[.agg #[.bool false,.slice none 0 0,.slice none 0 0],.int .i64 3]) (by simp[results,Tryz.results77,go_sem,f0,f1,f2]) rfl ⟨rfl,?_⟩
  first | exact t1.out | exact ((t1.out.setCell (Nat.le_refl _) _).setCell (Nat.le_refl _) _).setCell (Nat.le_refl _) _
 ·have q0:=ht hlt;have kle3:=kle2 rfl;have wk:=wk2 rfl;have i1:=a0Z (l:=[48]) h1;clear hlt ht kle2 wk2;go_enter Tryz.func77,Tryz.ntmps77
  go_wp2_with (first
   | (go_at_call 123;refine (HK.out.sl _).mono ?_;rintro e w1 ⟨rfl,rfl⟩)
   | (go_at_call 124;rw[cw.out];refine (HK.out.int _).mono ?_;rintro e w2 ⟨rfl,rfl⟩)
   | (go_at_call 125;(first | rw[cb.out trivial] | rw[cb.out rfl]);refine (HK.out.form _).mono ?_;rintro e w3 ⟨rfl,rfl⟩)
   | fail)
  obtain⟨s1,s2⟩:=b0d t0.out false none none 0 0 0 0;have f0:=s2.cell 0;have f1:=s2.cell 1;have f2:=s2.cell 2;simp at f0 f1 f2;refine bodyPost_ret (v:=.tuple #[.agg #[.bool false,.slice none 0 0,.slice none 0 0],.int .i64 3]) (by simp[results,Tryz.results77,go_sem,f0,f1,f2]) rfl ⟨rfl,?_⟩
  first | exact t1.out | exact ((t1.out.setCell (Nat.le_refl _) _).setCell (Nat.le_refl _) _).setCell (Nat.le_refl _) _
 ·have q0:=ht hlt;have kle3:=kle2 rfl;have wk:=wk2 rfl;have i1:=a0Z (l:=[48]) h1;have i2:=a0Z (l:=[48]) h2;clear hlt ht kle2 wk2;go_enter Tryz.func77,Tryz.ntmps77
  go_wp2_with (first
   | (go_at_call 123;refine (HK.out.sl _).mono ?_;rintro e w1 ⟨rfl,rfl⟩)
   | (go_at_call 124;rw[cw.out];refine (HK.out.int _).mono ?_;rintro e w2 ⟨rfl,rfl⟩)
   | (go_at_call 125;(first | rw[cb.out trivial] | rw[cb.out rfl]);refine (HK.out.form _).mono ?_;rintro e w3 ⟨rfl,rfl⟩)
   | fail)
  obtain⟨s1,s2⟩:=b0d t0.out false none none 0 0 0 0;have f0:=s2.cell 0;have f1:=s2.cell 1;have f2:=s2.cell 2;simp at f0 f1 f2;refine bodyPost_ret (v:=.tuple #[.agg #[.bool false,.slice none 0 0,.slice none 0 0],.int .i64 3]) (by simp[results,Tryz.results77,go_sem,f0,f1,f2]) rfl ⟨rfl,?_⟩
  first | exact t1.out | exact ((t1.out.setCell (Nat.le_refl _) _).setCell (Nat.le_refl _) _).setCell (Nat.le_refl _) _
theorem o0Z (w:World)(s W B D:ByteArray)(S M fb:Bool)(k:Nat)(hs:s.size≤9223372036854775807)(HC:CutR s W B D S M true fb k)
 (h:S=false∨(S=true∧¬ D=⟨#[48]⟩∧¬ B=⟨#[48]⟩∧¬ B=⟨#[49]⟩∧fb=true)) (hl:4000<D.size∨(¬ 4000<D.size∧S=true∧4000<B.size)):
 Calls Tryz.prog 77 #[.string s] w fun e w'=>e=.returned (.tuple #[.agg #[.bool false,.slice none 0 0,.slice none 0 0],.int .i64 5])∧Below w.heap.size w w':=by
 have HK:=hid HC;have kle:=HC.kle;have hlt:=HC.has;have cw:=hid HC.cutW;have cb:=hid HC.cutB;clear HC;have t0:=hid (Blk.new w #[.bool false,.slice none 0 0,.slice none 0 0] 79);have t1:=hid ((Below.refl w.heap.size w).alloc (Nat.le_refl _) (.cells #[.bool false,.slice none 0 0,.slice none 0 0] 79));have d0:=t0.out.cell 0;have d1:=t0.out.cell 1;have d2:=t0.out.cell 2;have e0:=t0.out.free 0;have e1:=t0.out.free 1;have e2:=t0.out.free 2;simp at d0 d1 d2;have kle2:S=true→k+1≤s.size:=fun h=>by rw[h]at hlt;have:=of_decide_eq_true hlt.symm;omega
 have wk2:S=true→IntKind.i64.wrap ((k:Int)+1)=(k:Int)+1:=fun h=>by have:=kle2 h;rw[IntWalk.i64_in _ ⟨by omega,by omega⟩]
 have q0:=hlt.symm;clear hlt;rcases h with rfl | ⟨rfl,h1,h2,h3,rfl⟩
 ·have q1:decide ((4000:Int)<(D.size:Int))=true:=by
   rcases hl with hl | ⟨_,hl,_⟩
   ·simp;omega
   ·cases hl
  clear hl kle2 wk2;go_enter Tryz.func77,Tryz.ntmps77
  go_wp2_with (first
   | (go_at_call 123;refine (HK.out.sl _).mono ?_;rintro e w1 ⟨rfl,rfl⟩)
   | (go_at_call 124;rw[cw.out];refine (HK.out.int _).mono ?_;rintro e w2 ⟨rfl,rfl⟩)
   | (go_at_call 125;(first | rw[cb.out trivial] | rw[cb.out rfl]);refine (HK.out.form _).mono ?_;rintro e w3 ⟨rfl,rfl⟩)
   | fail)
  obtain⟨s1,s2⟩:=b0d t0.out false none none 0 0 0 0;have f0:=s2.cell 0;have f1:=s2.cell 1;have f2:=s2.cell 2;simp at f0 f1 f2;refine bodyPost_ret (v:=.tuple #[.agg #[.bool false,.slice none 0 0,.slice none 0 0],.int .i64 5]) (by simp[results,Tryz.results77,go_sem,f0,f1,f2]) rfl ⟨rfl,?_⟩
  first | exact t1.out | exact ((t1.out.setCell (Nat.le_refl _) _).setCell (Nat.le_refl _) _).setCell (Nat.le_refl _) _
 ·have kle3:=kle2 rfl;have wk:=wk2 rfl;have i1:=a0Z (l:=[48]) h1;have i2:=a0Z (l:=[48]) h2;have i3:=a0Z (l:=[49]) h3;clear kle2 wk2;rcases hl with hl | ⟨hl,-,hl2⟩
  ·have q1:decide ((4000:Int)<(D.size:Int))=true:=by simp;omega
   clear hl;go_enter Tryz.func77,Tryz.ntmps77
   go_wp2_with (first
    | (go_at_call 123;refine (HK.out.sl _).mono ?_;rintro e w1 ⟨rfl,rfl⟩)
    | (go_at_call 124;rw[cw.out];refine (HK.out.int _).mono ?_;rintro e w2 ⟨rfl,rfl⟩)
    | (go_at_call 125;(first | rw[cb.out trivial] | rw[cb.out rfl]);refine (HK.out.form _).mono ?_;rintro e w3 ⟨rfl,rfl⟩)
    | fail)
   obtain⟨s1,s2⟩:=b0d t0.out false none none 0 0 0 0;have f0:=s2.cell 0;have f1:=s2.cell 1;have f2:=s2.cell 2;simp at f0 f1 f2;refine bodyPost_ret (v:=.tuple #[.agg #[.bool false,.slice none 0 0,.slice none 0 0],.int .i64 5]) (by simp[results,Tryz.results77,go_sem,f0,f1,f2]) rfl ⟨rfl,?_⟩
   first | exact t1.out | exact ((t1.out.setCell (Nat.le_refl _) _).setCell (Nat.le_refl _) _).setCell (Nat.le_refl _) _
  ·have q1:decide ((4000:Int)<(D.size:Int))=false:=by simp;omega
   have q2:decide ((4000:Int)<(B.size:Int))=true:=by simp;omega
   clear hl hl2;go_enter Tryz.func77,Tryz.ntmps77
   go_wp2_with (first
    | (go_at_call 123;refine (HK.out.sl _).mono ?_;rintro e w1 ⟨rfl,rfl⟩)
    | (go_at_call 124;rw[cw.out];refine (HK.out.int _).mono ?_;rintro e w2 ⟨rfl,rfl⟩)
    | (go_at_call 125;(first | rw[cb.out trivial] | rw[cb.out rfl]);refine (HK.out.form _).mono ?_;rintro e w3 ⟨rfl,rfl⟩)
    | fail)
   obtain⟨s1,s2⟩:=b0d t0.out false none none 0 0 0 0;have f0:=s2.cell 0;have f1:=s2.cell 1;have f2:=s2.cell 2;simp at f0 f1 f2;refine bodyPost_ret (v:=.tuple #[.agg #[.bool false,.slice none 0 0,.slice none 0 0],.int .i64 5]) (by simp[results,Tryz.results77,go_sem,f0,f1,f2]) rfl ⟨rfl,?_⟩
   first | exact t1.out | exact ((t1.out.setCell (Nat.le_refl _) _).setCell (Nat.le_refl _) _).setCell (Nat.le_refl _) _
def RetRF (B:Nat)(x:Int)(m:Bool)(n d:Nat)(e:Ending)(w':World):Prop:=∃ v,e=.returned (.tuple #[v,.int .i64 x])∧(x=0→∃ N D,v=.agg #[.bool m,N,D]∧IsN .i64 w' N n∧IsN .i64 w' D d∧(∀ g,N.ownBlock=some g→B≤g)∧(∀ g,D.ownBlock=some g→B≤g))∧(x≠0→v=.agg #[.bool false,.slice none 0 0,.slice none 0 0])
theorem RetRF.err {B:Nat}{x:Int}{m:Bool}{n d:Nat}{w':World}(h:x≠0):RetRF B x m n d (.returned (.tuple #[.agg #[.bool false,.slice none 0 0,.slice none 0 0],.int .i64 x])) w':=⟨_,rfl,fun e=>absurd e h,fun _=>rfl⟩
theorem i0t (w:World)(s W B D:ByteArray)(M:Bool)(k:Nat)(hs:s.size≤1000000)(HC:CutR s W B D true M true true k)
 (h1:¬ D=⟨#[48]⟩) (h2:¬ B=⟨#[48]⟩) (h3:¬ B=⟨#[49]⟩) (hl1:¬ 4000<D.size) (hl2:¬ 4000<B.size) (hd1:allDig D.data.toList) (hd2:allDig B.data.toList):
 Calls Tryz.prog 77 #[.string s] w fun e w'=>RetRF w.heap.size (if Nat.gcd (bN D) (bN B)=1 then 0 else 3) M (bN D) (bN B) e w'∧Below w.heap.size w w':=by
 obtain⟨xc,hxc⟩:∃ x:Int,(if Nat.gcd (bN D) (bN B)=1 then 0 else 3)=x:=⟨_,rfl⟩;rw[hxc];have HXC:=hid hxc;clear hxc;have HK:=hid HC;have kle:=HC.kle;have hlt:=HC.has;have cw:=hid HC.cutW;have cb:=hid HC.cutB;clear HC;have t0:=hid (Blk.new w #[.bool false,.slice none 0 0,.slice none 0 0] 79);have t1:=hid ((Below.refl w.heap.size w).alloc (Nat.le_refl _) (.cells #[.bool false,.slice none 0 0,.slice none 0 0] 79));have wk:IntKind.i64.wrap ((k:Int)+1)=(k:Int)+1:=by rw[IntWalk.i64_in _ ⟨by omega,by omega⟩]
 have kle3:k+1≤s.size:=by have:=of_decide_eq_true hlt.symm;omega
 have q0:=hlt.symm;clear hlt;have i1:=a0Z (l:=[48]) h1;have i2:=a0Z (l:=[48]) h2;have i3:=a0Z (l:=[49]) h3;have q1:decide ((4000:Int)<(D.size:Int))=false:=by simp;omega
 have q2:decide ((4000:Int)<(B.size:Int))=false:=by simp;omega
 have L1:=hid (d0t hd1 hl1);have L2:=hid (d0t hd2 hl2);have P1:=fun W=>hid (d0d W D hd1 (by omega))
 have P2:=fun W=>hid (d0d W B hd2 (by omega))
 clear hd1 hd2 h1 h2 h3 hl1 hl2;go_enter Tryz.func77,Tryz.ntmps77
 go_wp2_with (first
  | (go_at_call 123;refine (HK.out.sl _).mono ?_;rintro e w1 ⟨rfl,rfl⟩)
  | (go_at_call 124;rw[cw.out];refine (HK.out.int _).mono ?_;rintro e w2 ⟨rfl,rfl⟩)
  | (go_at_call 125;(first | rw[cb.out trivial] | rw[cb.out rfl]);refine (HK.out.form _).mono ?_;rintro e w3 ⟨rfl,rfl⟩)
  | fail)
 refine (P1 _).out.mono ?_;rintro e w4 ⟨⟨v4,rfl,hv4,hf4⟩,hb4⟩;have F4:=hid (fun g hg=>Nat.le_trans t1.out.size (hf4 g hg));have x4:=hid (t0.out.call hb4);have y4:=hid (a0a t1.out hb4);have N4:=hid hv4;clear hb4 hv4 hf4;obtain⟨a4,c4,rfl,_⟩:=N4.out.openI;obtain⟨k1,hk1⟩:∃ k,(limbs (dv D.data.toList)).length=k:=⟨_,rfl⟩;rw[hk1]at N4 F4 ⊢;clear P1;go_wp2_with fail;refine (P2 _).out.mono ?_;rintro e w5 ⟨⟨v5,rfl,hv5,hf5⟩,hb5⟩;have F5:=hid (fun g hg=>Nat.le_trans y4.out.size (hf5 g hg));have x5:=hid (x4.out.call hb5);have y5:=hid (a0a y4.out hb5);have N5:=hid (N4.out.call hb5);have D5:=hid hv5;clear hb5 hv5 hf5;obtain⟨a5,c5,rfl,_⟩:=D5.out.openI;obtain⟨k2,hk2⟩:∃ k,(limbs (dv B.data.toList)).length=k:=⟨_,rfl⟩;rw[hk2]at D5 F5 ⊢;clear P2;go_wp2_with fail;have z5:=hid (Blk.new w5 #[.bool M,.slice a4 k1 c4,.slice a5 k2 c5] 79);have b5:=hid ((Below.refl w5.heap.size w5).alloc (Nat.le_refl _) (.cells #[.bool M,.slice a4 k1 c4,.slice a5 k2 c5] 79));have g0:=z5.out.cell 0;have g1:=z5.out.cell 1;have g2:=z5.out.cell 2;simp at g0 g1 g2;go_wp2_with fail;refine (e0r _ _ _ _ _ (N5.out.call b5.out) (D5.out.call b5.out) L1.out L2.out).mono ?_;rintro e w6 ⟨⟨v6,rfl,hv6⟩,hb6⟩;have z6:=hid (z5.out.call hb6);have x6:=hid ((x5.out.call b5.out).call hb6);have y6:=hid (a0a (a0a y5.out b5.out) hb6);have N6:=hid ((N5.out.call b5.out).call hb6);have D6:=hid ((D5.out.call b5.out).call hb6);have G6:=hid hv6;clear hb6 hv6 g0 g1 g2;go_wp2_with fail;refine (i0u _).mono ?_;rintro e w7 ⟨⟨v7,rfl,hv7⟩,hb7⟩;have z7:=hid (z6.out.call hb7);have x7:=hid (x6.out.call hb7);have y7:=hid (a0a y6.out hb7);have N7:=hid (N6.out.call hb7);have D7:=hid (D6.out.call hb7);have G7:=hid (G6.out.call hb7);have O7:=hid hv7;clear hb7 hv7;go_wp2_with fail;refine (b0n _ _ _ _ _ G7.out O7.out).mono ?_;rintro e w8 ⟨rfl,hb8⟩;have z8:=hid (z7.out.call hb8);have x8:=hid (x7.out.call hb8);have y8:=hid (a0a y7.out hb8);have N8:=hid (N7.out.call hb8);have D8:=hid (D7.out.call hb8);clear hb8;have d0:=x8.out.cell 0;have d1:=x8.out.cell 1;have d2:=x8.out.cell 2;have e0:=x8.out.free 0;have e1:=x8.out.free 1;have e2:=x8.out.free 2;have g0:=z8.out.cell 0;have g1:=z8.out.cell 1;have g2:=z8.out.cell 2;simp at d0 d1 d2 g0 g1 g2;by_cases hG:Nat.gcd (bN D) (bN B)=1
 ·have hO:b0e (Nat.gcd (dv D.data.toList) (dv B.data.toList)) 1=0:=by rw[show Nat.gcd (dv D.data.toList) (dv B.data.toList)=1 from hG];exact c0O
  have X0:=hid (show xc=0 from by rw[← HXC.out,if_pos hG]);rw[hO];clear hO hG;go_wp2_with fail;obtain⟨s1,s2⟩:=b0d x8.out M a4 a5 k1 c4 k2 c5;have f0:=s2.cell 0;have f1:=s2.cell 1;have f2:=s2.cell 2;simp at f0 f1 f2;refine bodyPost_ret (v:=.tuple #[.agg #[.bool M,.slice a4 k1 c4,.slice a5 k2 c5],.int .i64 0]) (by simp[results,Tryz.results77,go_sem,f0,f1,f2]) rfl ⟨by rw[X0.out];exact⟨_,rfl,fun _=>⟨_,_,rfl,s1 _ _ _ N8.out,s1 _ _ _ D8.out,F4.out,F5.out⟩,fun h=>absurd rfl h⟩,?_⟩;exact ((y8.out.setCell (Nat.le_refl _) _).setCell (Nat.le_refl _) _).setCell (Nat.le_refl _) _
 ·have hO:(b0e (Nat.gcd (dv D.data.toList) (dv B.data.toList)) 1 != 0)=true:=by
   have hG':¬ Nat.gcd (dv D.data.toList) (dv B.data.toList)=1:=hG;unfold b0e
   split
   ·rfl
   ·split
    ·rfl
    ·omega
  have X0:=hid (show xc=3 from by rw[← HXC.out,if_neg hG]);obtain⟨t,ht⟩:∃ t,b0e (Nat.gcd (dv D.data.toList) (dv B.data.toList)) 1=t:=⟨_,rfl⟩;rw[ht]at hO ⊢;clear ht hG;go_wp2_with fail;obtain⟨s1,s2⟩:=b0d x8.out false none none 0 0 0 0;have f0:=s2.cell 0;have f1:=s2.cell 1;have f2:=s2.cell 2;simp at f0 f1 f2;refine bodyPost_ret (v:=.tuple #[.agg #[.bool false,.slice none 0 0,.slice none 0 0],.int .i64 3]) (by simp[results,Tryz.results77,go_sem,f0,f1,f2]) rfl ⟨by rw[X0.out];exact RetRF.err (by decide),?_⟩;exact ((y8.out.setCell (Nat.le_refl _) _).setCell (Nat.le_refl _) _).setCell (Nat.le_refl _) _
theorem k0E (w:World)(s W B D:ByteArray)(M fb:Bool)(k:Nat)(hs:s.size≤1000000)(HC:CutR s W B D false M true fb k)
 (hl1:¬ 4000<D.size) (hd1:allDig D.data.toList):
 Calls Tryz.prog 77 #[.string s] w fun e w'=>RetRF w.heap.size 0 M (bN D) 1 e w'∧Below w.heap.size w w':=by
 have HK:=hid HC;have kle:=HC.kle;have hlt:=HC.has;have cw:=hid HC.cutW;have cb:=hid HC.cutB;clear HC;have t0:=hid (Blk.new w #[.bool false,.slice none 0 0,.slice none 0 0] 79);have t1:=hid ((Below.refl w.heap.size w).alloc (Nat.le_refl _) (.cells #[.bool false,.slice none 0 0,.slice none 0 0] 79));have wk:IntKind.i64.wrap ((k:Int)+1)=(k:Int)+1:=by rw[IntWalk.i64_in _ ⟨by omega,by omega⟩]
 have q0:=hlt.symm;clear hlt;have q1:decide ((4000:Int)<(D.size:Int))=false:=by simp;omega
 have L1:=hid (d0t hd1 hl1);have L2:Hid ((limbs 1).length≤1000000):=by show _≤_;rw[e0y];decide
 have P1:=fun W=>hid (d0d W D hd1 (by omega))
 have P2:∀ W,Hid (Calls Tryz.prog 73 #[.string ⟨#[49]⟩] W fun e w'=>RetFr W.heap.size .i64 1 e w'∧Below W.heap.size W w'):=fun W=>hid (d0d W ⟨#[49]⟩ (by intro b hb;simp at hb;subst hb;rfl) (Nat.succ_le_succ (Nat.zero_le _)))
 have hO:b0e (Nat.gcd (dv D.data.toList) 1) 1=0:=by rw[Nat.gcd_one_right];exact c0O
 have HO:=hid hO;clear hd1 hl1 hO;go_enter Tryz.func77,Tryz.ntmps77
 go_wp2_with (first
  | (go_at_call 123;refine (HK.out.sl _).mono ?_;rintro e w1 ⟨rfl,rfl⟩)
  | (go_at_call 124;rw[cw.out];refine (HK.out.int _).mono ?_;rintro e w2 ⟨rfl,rfl⟩)
  | (go_at_call 125;(first | rw[cb.out trivial] | rw[cb.out rfl]);refine (HK.out.form _).mono ?_;rintro e w3 ⟨rfl,rfl⟩)
  | fail)
 refine (P1 _).out.mono ?_;rintro e w4 ⟨⟨v4,rfl,hv4,hf4⟩,hb4⟩;have F4:=hid (fun g hg=>Nat.le_trans t1.out.size (hf4 g hg));have x4:=hid (t0.out.call hb4);have y4:=hid (a0a t1.out hb4);have N4:=hid hv4;clear hb4 hv4 hf4;obtain⟨a4,c4,rfl,_⟩:=N4.out.openI;obtain⟨k1,hk1⟩:∃ k,(limbs (dv D.data.toList)).length=k:=⟨_,rfl⟩;rw[hk1]at N4 F4 ⊢;clear P1;go_wp2_with fail;refine (P2 _).out.mono ?_;rintro e w5 ⟨⟨v5,rfl,hv5,hf5⟩,hb5⟩;have F5:=hid (fun g hg=>Nat.le_trans y4.out.size (hf5 g hg));have x5:=hid (x4.out.call hb5);have y5:=hid (a0a y4.out hb5);have N5:=hid (N4.out.call hb5);have D5:=hid hv5;clear hb5 hv5 hf5;obtain⟨a5,c5,rfl,_⟩:=D5.out.openI;obtain⟨k2,hk2⟩:∃ k,(limbs 1).length=k:=⟨_,rfl⟩;rw[hk2]at D5 F5 ⊢;clear P2;go_wp2_with fail;have z5:=hid (Blk.new w5 #[.bool M,.slice a4 k1 c4,.slice a5 k2 c5] 79);have b5:=hid ((Below.refl w5.heap.size w5).alloc (Nat.le_refl _) (.cells #[.bool M,.slice a4 k1 c4,.slice a5 k2 c5] 79));have g0:=z5.out.cell 0;have g1:=z5.out.cell 1;have g2:=z5.out.cell 2;simp at g0 g1 g2;go_wp2_with fail;refine (e0r _ _ _ _ _ (N5.out.call b5.out) (D5.out.call b5.out) L1.out L2.out).mono ?_;rintro e w6 ⟨⟨v6,rfl,hv6⟩,hb6⟩;have z6:=hid (z5.out.call hb6);have x6:=hid ((x5.out.call b5.out).call hb6);have y6:=hid (a0a (a0a y5.out b5.out) hb6);have N6:=hid ((N5.out.call b5.out).call hb6);have D6:=hid ((D5.out.call b5.out).call hb6);have G6:=hid hv6;clear hb6 hv6 g0 g1 g2;go_wp2_with fail;refine (i0u _).mono ?_;rintro e w7 ⟨⟨v7,rfl,hv7⟩,hb7⟩;have z7:=hid (z6.out.call hb7);have x7:=hid (x6.out.call hb7);have y7:=hid (a0a y6.out hb7);have N7:=hid (N6.out.call hb7);have D7:=hid (D6.out.call hb7);have G7:=hid (G6.out.call hb7);have O7:=hid hv7;clear hb7 hv7;go_wp2_with fail;refine (b0n _ _ _ _ _ G7.out O7.out).mono ?_;rintro e w8 ⟨rfl,hb8⟩;have z8:=hid (z7.out.call hb8);have x8:=hid (x7.out.call hb8);have y8:=hid (a0a y7.out hb8);have N8:=hid (N7.out.call hb8);have D8:=hid (D7.out.call hb8);clear hb8;have d0:=x8.out.cell 0;have d1:=x8.out.cell 1;have d2:=x8.out.cell 2;have e0:=x8.out.free 0;have e1:=x8.out.free 1;have e2:=x8.out.free 2;have g0:=z8.out.cell 0;have g1:=z8.out.cell 1;have g2:=z8.out.cell 2;simp at d0 d1 d2 g0 g1 g2;rw[HO.out];go_wp2_with fail;obtain⟨s1,s2⟩:=b0d x8.out M a4 a5 k1 c4 k2 c5;have f0:=s2.cell 0;have f1:=s2.cell 1;have f2:=s2.cell 2;simp at f0 f1 f2;refine bodyPost_ret (v:=.tuple #[.agg #[.bool M,.slice a4 k1 c4,.slice a5 k2 c5],.int .i64 0]) (by simp[results,Tryz.results77,go_sem,f0,f1,f2]) rfl ⟨⟨_,rfl,fun _=>⟨_,_,rfl,s1 _ _ _ N8.out,s1 _ _ _ D8.out,F4.out,F5.out⟩,fun h=>absurd rfl h⟩,?_⟩;exact ((y8.out.setCell (Nat.le_refl _) _).setCell (Nat.le_refl _) _).setCell (Nat.le_refl _) _
theorem RetRF.ret {B:Nat}{x:Int}{m:Bool}{n d:Nat}{e:Ending}{w':World}(h:RetRF B x m n d e w'):RetR x m n d e w':=by
 obtain⟨v,h1,h2,h3⟩:=h;refine⟨v,h1,fun h=>?_,h3⟩;obtain⟨N,D,k1,k2,k3,-,-⟩:=h2 h;exact⟨N,D,k1,k2,k3⟩
theorem p0a (w:World)(s W B D:ByteArray)(M:Bool)(k:Nat)(hs:s.size≤1000000)(HC:CutR s W B D true M true true k)
 (h1:¬ D=⟨#[48]⟩) (h2:¬ B=⟨#[48]⟩) (h3:¬ B=⟨#[49]⟩) (hl1:¬ 4000<D.size) (hl2:¬ 4000<B.size) (hd1:allDig D.data.toList) (hd2:allDig B.data.toList):
 Calls Tryz.prog 77 #[.string s] w fun e w'=>RetR (if Nat.gcd (bN D) (bN B)=1 then 0 else 3) M (bN D) (bN B) e w'∧Below w.heap.size w w':=
 (i0t w s W B D M k hs HC h1 h2 h3 hl1 hl2 hd1 hd2).mono fun _ _ h=>⟨h.1.ret,h.2⟩
theorem q0R (w:World)(s W B D:ByteArray)(M fb:Bool)(k:Nat)(hs:s.size≤1000000)(HC:CutR s W B D false M true fb k)
 (hl1:¬ 4000<D.size) (hd1:allDig D.data.toList):
 Calls Tryz.prog 77 #[.string s] w fun e w'=>RetR 0 M (bN D) 1 e w'∧Below w.heap.size w w':=
 (k0E w s W B D M fb k hs HC hl1 hd1).mono fun _ _ h=>⟨h.1.ret,h.2⟩
theorem n0e (w:World)(s:ByteArray)(hs:s.size≤1000000):
 Calls Tryz.prog 77 #[.string s] w fun e w'=>RetR (qE s) (iM (cW s)) (bN (iD (cW s))) (bN (qD s)) e w'∧Below w.heap.size w w':=by
 have HC:=m0j s (by omega);by_cases hq:qB s=true
 ·have hi:=d0f hq;rw[hi]at HC;have hdD:=f0t (g0c hi);have hcS:cS s=false∨(cS s=true∧¬ iD (cW s)=⟨#[48]⟩∧¬ cB s=⟨#[48]⟩∧¬ cB s=⟨#[49]⟩∧fB (cB s)=true):=by
   have hq':=hq;unfold qB at hq';simp only[Bool.and_eq_true,Bool.or_eq_true,Bool.not_eq_true',decide_eq_true_eq]at hq';rcases hq'.2 with h | h
   ·exact .inl h
   ·cases hc:cS s
    ·exact .inl rfl
    ·exact .inr ⟨rfl,h.1.1.1,h.1.2,h.2,h.1.1.2⟩
  by_cases hl:qL s=true
  ·have e:qE s=5:=by simp[qE,hq,hl]
   rw[e];unfold qL at hl;simp only[Bool.or_eq_true,decide_eq_true_eq]at hl;refine (o0Z w s _ _ _ _ _ _ _ (by omega) HC hcS ?_).mono ?_
   ·by_cases h4:4000<(iD (cW s)).size
    ·exact .inl h4
    ·refine .inr ⟨h4,?_⟩;rcases hcS with hc | ⟨hc,-⟩
     ·rw[d0e hc]at hl;exact absurd (hl.resolve_left h4) (by decide)
     ·rw[b0C hc]at hl;exact⟨hc,hl.resolve_left h4⟩
   ·rintro e w' ⟨rfl,hb⟩;exact⟨RetR.err (by decide),hb⟩
  ·have hl':qL s=false:=by simpa using hl
   have hl1:¬ 4000<(iD (cW s)).size∧¬ 4000<(qD s).size:=by
    unfold qL at hl';simpa using hl'
   rcases hcS with hc | ⟨hc,h1,h2,h3,h4⟩
   ·rw[hc]at HC;have e:qE s=0:=by simp[qE,hq,hl',qG,hc]
    rw[e,d0e hc];exact q0R w s _ _ _ _ _ _ hs HC hl1.1 hdD
   ·rw[hc,h4]at HC;have hl2:=hl1.2;rw[b0C hc]at hl2;have e:qE s=if Nat.gcd (bN (iD (cW s))) (bN (cB s))=1 then 0 else 3:=by
     simp only[qE,hq,hl',qG,hc,b0C hc];by_cases hg:Nat.gcd (bN (iD (cW s))) (bN (cB s))=1<;>simp[hg]
    rw[e,b0C hc];exact p0a w s _ _ _ _ _ hs HC h1 h2 h3 hl1.1 hl2 hdD (f0t h4)
 ·have hq':qB s=false:=by simpa using hq
  have e:qE s=3:=by simp[qE,hq']
  rw[e];refine (q0S w s _ _ _ _ _ _ _ _ (by omega) HC hq').mono ?_;rintro e w' ⟨rfl,hb⟩;exact⟨RetR.err (by decide),hb⟩
def RetQE (s:ByteArray)(e:Ending)(w':World):Prop:=∃ v,e=.returned (.tuple #[v,.int .i64 (qE s)])∧(qE s=0→IsQ .i64 w' v (vQ s))∧(qE s≠0→v=.agg #[.bool false,.slice none 0 0,.slice none 0 0])
theorem h0t (w:World)(s:ByteArray)(hs:s.size≤1000000):
 Calls Tryz.prog 77 #[.string s] w fun e w'=>RetQE s e w'∧Below w.heap.size w w':=by
 refine (n0e w s hs).mono ?_;rintro e w' ⟨⟨v,rfl,h1,h2⟩,hb⟩;refine⟨⟨v,rfl,fun h=>?_,h2⟩,hb⟩;obtain⟨N,D,rfl,hN,hD⟩:=h1 h;obtain⟨e1,e2,e3⟩:=h0o h;exact⟨N,D,by rw[e1],by rw[e2];exact hN,by rw[e3];exact hD⟩
def q0q (m:Bool)(B1 B2 T:ByteArray)(x:Int):Prop:=
 (4000<B1.size∧T=⟨#[]⟩∧x=5)∨(B1.size≤4000∧4000<B2.size∧T=⟨#[]⟩∧x=5) ∨
 (B1.size≤4000∧B2.size≤4000∧x=0∧((m=false∧B2=⟨#[49]⟩∧T=B1)∨(m=true∧B2=⟨#[49]⟩∧T=⟨#[45]⟩++B1)∨(m=false∧¬ B2=⟨#[49]⟩∧T=B1++⟨#[47]⟩++B2)∨(m=true∧¬ B2=⟨#[49]⟩∧T=⟨#[45]⟩++B1++⟨#[47]⟩++B2)))
theorem f0K (w:World)(m:Bool)(N D:Value)(n d:Nat)(B1 B2 T:ByteArray)(x:Int)(hn:IsN .i64 w N n)(hd:IsN .i64 w D d)(hln:(limbs n).length≤1000000)(hld:(limbs d).length≤1000000)
 (e1:b0h n=B1) (e2:b0h d=B2) (key:q0q m B1 B2 T x):
 Calls Tryz.prog 57 #[.agg #[.bool m,N,D]] w fun e w'=>e=.returned (.tuple #[.string T,.int .i64 x])∧Below w.heap.size w w':=by
 have HN:=hid hn;have HD:=hid hd;have LN:=hid hln;have LD:=hid hld;have E1:=hid e1;have E2:=hid e2;obtain⟨a1,c1,rfl,_⟩:=hn.openI;obtain⟨a2,c2,rfl,_⟩:=hd.openI;obtain⟨k1,hk1⟩:∃ k,(limbs n).length=k:=⟨_,rfl⟩;obtain⟨k2,hk2⟩:∃ k,(limbs d).length=k:=⟨_,rfl⟩;rw[hk1]at HN ⊢;rw[hk2]at HD ⊢;clear hn hd hln hld e1 e2 hk1 hk2;unfold q0q at key;rcases key with ⟨h1,rfl,rfl⟩ | ⟨h1,h2,rfl,rfl⟩ | ⟨h1,h2,rfl,⟨rfl,rfl,rfl⟩ | ⟨rfl,rfl,rfl⟩ | ⟨rfl,h3,rfl⟩ | ⟨rfl,h3,rfl⟩⟩
 ·have q0:decide ((4000:Int)<(B1.size:Int))=true:=by simp;omega
  clear h1;go_enter Tryz.func57,Tryz.ntmps57;go_wp2_with fail;obtain⟨W,hW⟩:∃ W,w.alloc (.cells #[.bool m,.slice a1 k1 c1,.slice a2 k2 c2] 79)=W:=⟨_,rfl⟩;rw[hW];have X0:Below w.heap.size w W:=by rw[← hW];exact (Below.refl _ _).alloc (Nat.le_refl _) _
  have Y0:Blk W w.heap.size #[.bool m,.slice a1 k1 c1,.slice a2 k2 c2] 79:=by rw[← hW];exact Blk.new w _ _
  have K:Hid (∀ w',Below W.heap.size W w'→w'.cell? ⟨w.heap.size,0,none⟩=some (.bool m)∧w'.cell? ⟨w.heap.size,1,none⟩=some (.slice a1 k1 c1)∧w'.cell? ⟨w.heap.size,2,none⟩=some (.slice a2 k2 c2)):=
   fun w' hb=>⟨(Y0.call hb).cell 0,(Y0.call hb).cell 1,(Y0.call hb).cell 2⟩
  have HX0:=hid X0;obtain⟨k0,k1',k2'⟩:=K W (Below.refl _ _);have XN:=hid (HN.out.call HX0.out);have XD:=hid (HD.out.call HX0.out);clear Y0 X0 hW
  go_region_held3 (fun w'=>w'.cell? ⟨w.heap.size,0,none⟩=some (.bool m)∧w'.cell? ⟨w.heap.size,1,none⟩=some (.slice a1 k1 c1)∧w'.cell? ⟨w.heap.size,2,none⟩=some (.slice a2 k2 c2))
   (first
    | exact K.out _ (Below.refl _ _).drew
    | exact K.out _ bb2.out
    | exact K.out _ bb1.out)
   (first
    | (go_at_call_of 76 (Value.slice a1 k1 c1);refine (a0V _ _ n (XN.out.call (by first | exact bb2.out | exact (Below.refl _ _).drew)) LN.out).mono ?_;rintro e w1 ⟨rfl,hb1⟩;rw[b0j,E1.out];have bb1:=hid (a0a (by first | exact bb2.out | exact (Below.refl _ _).drew) hb1))
    | (go_at_call_of 76 (Value.slice a2 k2 c2);refine (a0V _ _ d (XD.out.call (by first | exact bb1.out | exact (Below.refl _ _).drew)) LD.out).mono ?_;rintro e w2 ⟨rfl,hb2⟩;rw[b0j,E2.out];have bb2:=hid (a0a (by first | exact bb1.out | exact (Below.refl _ _).drew) hb2)))
  go_wp2_with fail;go_ret2
  exact⟨rfl,a0a HX0.out bb2.out⟩
 ·have q0:decide ((4000:Int)<(B1.size:Int))=false:=by simp;omega
  have q1:decide ((4000:Int)<(B2.size:Int))=true:=by simp;omega
  clear h1 h2;go_enter Tryz.func57,Tryz.ntmps57;go_wp2_with fail;obtain⟨W,hW⟩:∃ W,w.alloc (.cells #[.bool m,.slice a1 k1 c1,.slice a2 k2 c2] 79)=W:=⟨_,rfl⟩;rw[hW];have X0:Below w.heap.size w W:=by rw[← hW];exact (Below.refl _ _).alloc (Nat.le_refl _) _
  have Y0:Blk W w.heap.size #[.bool m,.slice a1 k1 c1,.slice a2 k2 c2] 79:=by rw[← hW];exact Blk.new w _ _
  have K:Hid (∀ w',Below W.heap.size W w'→w'.cell? ⟨w.heap.size,0,none⟩=some (.bool m)∧w'.cell? ⟨w.heap.size,1,none⟩=some (.slice a1 k1 c1)∧w'.cell? ⟨w.heap.size,2,none⟩=some (.slice a2 k2 c2)):=
   fun w' hb=>⟨(Y0.call hb).cell 0,(Y0.call hb).cell 1,(Y0.call hb).cell 2⟩
  have HX0:=hid X0;obtain⟨k0,k1',k2'⟩:=K W (Below.refl _ _);have XN:=hid (HN.out.call HX0.out);have XD:=hid (HD.out.call HX0.out);clear Y0 X0 hW
  go_region_held3 (fun w'=>w'.cell? ⟨w.heap.size,0,none⟩=some (.bool m)∧w'.cell? ⟨w.heap.size,1,none⟩=some (.slice a1 k1 c1)∧w'.cell? ⟨w.heap.size,2,none⟩=some (.slice a2 k2 c2))
   (first
    | exact K.out _ (Below.refl _ _).drew
    | exact K.out _ bb2.out
    | exact K.out _ bb1.out)
   (first
    | (go_at_call_of 76 (Value.slice a1 k1 c1);refine (a0V _ _ n (XN.out.call (by first | exact bb2.out | exact (Below.refl _ _).drew)) LN.out).mono ?_;rintro e w1 ⟨rfl,hb1⟩;rw[b0j,E1.out];have bb1:=hid (a0a (by first | exact bb2.out | exact (Below.refl _ _).drew) hb1))
    | (go_at_call_of 76 (Value.slice a2 k2 c2);refine (a0V _ _ d (XD.out.call (by first | exact bb1.out | exact (Below.refl _ _).drew)) LD.out).mono ?_;rintro e w2 ⟨rfl,hb2⟩;rw[b0j,E2.out];have bb2:=hid (a0a (by first | exact bb1.out | exact (Below.refl _ _).drew) hb2)))
  go_wp2_with fail;go_ret2
  exact⟨rfl,a0a HX0.out bb2.out⟩
 ·have q0:decide ((4000:Int)<(T.size:Int))=false:=by simp;omega
  clear h2;go_enter Tryz.func57,Tryz.ntmps57;go_wp2_with fail;obtain⟨W,hW⟩:∃ W,w.alloc (.cells #[.bool false,.slice a1 k1 c1,.slice a2 k2 c2] 79)=W:=⟨_,rfl⟩;rw[hW];have X0:Below w.heap.size w W:=by rw[← hW];exact (Below.refl _ _).alloc (Nat.le_refl _) _
  have Y0:Blk W w.heap.size #[.bool false,.slice a1 k1 c1,.slice a2 k2 c2] 79:=by rw[← hW];exact Blk.new w _ _
  have K:Hid (∀ w',Below W.heap.size W w'→w'.cell? ⟨w.heap.size,0,none⟩=some (.bool false)∧w'.cell? ⟨w.heap.size,1,none⟩=some (.slice a1 k1 c1)∧w'.cell? ⟨w.heap.size,2,none⟩=some (.slice a2 k2 c2)):=
   fun w' hb=>⟨(Y0.call hb).cell 0,(Y0.call hb).cell 1,(Y0.call hb).cell 2⟩
  have HX0:=hid X0;obtain⟨k0,k1',k2'⟩:=K W (Below.refl _ _);have XN:=hid (HN.out.call HX0.out);have XD:=hid (HD.out.call HX0.out);clear Y0 X0 hW
  go_region_held3 (fun w'=>w'.cell? ⟨w.heap.size,0,none⟩=some (.bool false)∧w'.cell? ⟨w.heap.size,1,none⟩=some (.slice a1 k1 c1)∧w'.cell? ⟨w.heap.size,2,none⟩=some (.slice a2 k2 c2))
   (first
    | exact K.out _ (Below.refl _ _).drew
    | exact K.out _ bb2.out
    | exact K.out _ bb1.out)
   (first
    | (go_at_call_of 76 (Value.slice a1 k1 c1);refine (a0V _ _ n (XN.out.call (by first | exact bb2.out | exact (Below.refl _ _).drew)) LN.out).mono ?_;rintro e w1 ⟨rfl,hb1⟩;rw[b0j,E1.out];have bb1:=hid (a0a (by first | exact bb2.out | exact (Below.refl _ _).drew) hb1))
    | (go_at_call_of 76 (Value.slice a2 k2 c2);refine (a0V _ _ d (XD.out.call (by first | exact bb1.out | exact (Below.refl _ _).drew)) LD.out).mono ?_;rintro e w2 ⟨rfl,hb2⟩;rw[b0j,E2.out];have bb2:=hid (a0a (by first | exact bb1.out | exact (Below.refl _ _).drew) hb2)))
  go_wp2_with fail;go_ret2
  exact⟨rfl,a0a HX0.out bb2.out⟩
 ·have q0:decide ((4000:Int)<(B1.size:Int))=false:=by simp;omega
  clear h2;go_enter Tryz.func57,Tryz.ntmps57;go_wp2_with fail;obtain⟨W,hW⟩:∃ W,w.alloc (.cells #[.bool true,.slice a1 k1 c1,.slice a2 k2 c2] 79)=W:=⟨_,rfl⟩;rw[hW];have X0:Below w.heap.size w W:=by rw[← hW];exact (Below.refl _ _).alloc (Nat.le_refl _) _
  have Y0:Blk W w.heap.size #[.bool true,.slice a1 k1 c1,.slice a2 k2 c2] 79:=by rw[← hW];exact Blk.new w _ _
  have K:Hid (∀ w',Below W.heap.size W w'→w'.cell? ⟨w.heap.size,0,none⟩=some (.bool true)∧w'.cell? ⟨w.heap.size,1,none⟩=some (.slice a1 k1 c1)∧w'.cell? ⟨w.heap.size,2,none⟩=some (.slice a2 k2 c2)):=
   fun w' hb=>⟨(Y0.call hb).cell 0,(Y0.call hb).cell 1,(Y0.call hb).cell 2⟩
  have HX0:=hid X0;obtain⟨k0,k1',k2'⟩:=K W (Below.refl _ _);have XN:=hid (HN.out.call HX0.out);have XD:=hid (HD.out.call HX0.out);clear Y0 X0 hW
  go_region_held3 (fun w'=>w'.cell? ⟨w.heap.size,0,none⟩=some (.bool true)∧w'.cell? ⟨w.heap.size,1,none⟩=some (.slice a1 k1 c1)∧w'.cell? ⟨w.heap.size,2,none⟩=some (.slice a2 k2 c2))
   (first
    | exact K.out _ (Below.refl _ _).drew
    | exact K.out _ bb2.out
    | exact K.out _ bb1.out)
   (first
    | (go_at_call_of 76 (Value.slice a1 k1 c1);refine (a0V _ _ n (XN.out.call (by first | exact bb2.out | exact (Below.refl _ _).drew)) LN.out).mono ?_;rintro e w1 ⟨rfl,hb1⟩;rw[b0j,E1.out];have bb1:=hid (a0a (by first | exact bb2.out | exact (Below.refl _ _).drew) hb1))
    | (go_at_call_of 76 (Value.slice a2 k2 c2);refine (a0V _ _ d (XD.out.call (by first | exact bb1.out | exact (Below.refl _ _).drew)) LD.out).mono ?_;rintro e w2 ⟨rfl,hb2⟩;rw[b0j,E2.out];have bb2:=hid (a0a (by first | exact bb1.out | exact (Below.refl _ _).drew) hb2)))
  go_wp2_with fail;go_ret2
  exact⟨rfl,a0a HX0.out bb2.out⟩
 ·have q0:decide ((4000:Int)<(B1.size:Int))=false:=by simp;omega
  have q1:decide ((4000:Int)<(B2.size:Int))=false:=by simp;omega
  have i3:=a0Z (l:=[49]) h3;go_enter Tryz.func57,Tryz.ntmps57;go_wp2_with fail;obtain⟨W,hW⟩:∃ W,w.alloc (.cells #[.bool false,.slice a1 k1 c1,.slice a2 k2 c2] 79)=W:=⟨_,rfl⟩;rw[hW];have X0:Below w.heap.size w W:=by rw[← hW];exact (Below.refl _ _).alloc (Nat.le_refl _) _
  have Y0:Blk W w.heap.size #[.bool false,.slice a1 k1 c1,.slice a2 k2 c2] 79:=by rw[← hW];exact Blk.new w _ _
  have K:Hid (∀ w',Below W.heap.size W w'→w'.cell? ⟨w.heap.size,0,none⟩=some (.bool false)∧w'.cell? ⟨w.heap.size,1,none⟩=some (.slice a1 k1 c1)∧w'.cell? ⟨w.heap.size,2,none⟩=some (.slice a2 k2 c2)):=
   fun w' hb=>⟨(Y0.call hb).cell 0,(Y0.call hb).cell 1,(Y0.call hb).cell 2⟩
  have HX0:=hid X0;obtain⟨k0,k1',k2'⟩:=K W (Below.refl _ _);have XN:=hid (HN.out.call HX0.out);have XD:=hid (HD.out.call HX0.out);clear Y0 X0 hW
  go_region_held3 (fun w'=>w'.cell? ⟨w.heap.size,0,none⟩=some (.bool false)∧w'.cell? ⟨w.heap.size,1,none⟩=some (.slice a1 k1 c1)∧w'.cell? ⟨w.heap.size,2,none⟩=some (.slice a2 k2 c2))
   (first
    | exact K.out _ (Below.refl _ _).drew
    | exact K.out _ bb2.out
    | exact K.out _ bb1.out)
   (first
    | (go_at_call_of 76 (Value.slice a1 k1 c1);refine (a0V _ _ n (XN.out.call (by first | exact bb2.out | exact (Below.refl _ _).drew)) LN.out).mono ?_;rintro e w1 ⟨rfl,hb1⟩;rw[b0j,E1.out];have bb1:=hid (a0a (by first | exact bb2.out | exact (Below.refl _ _).drew) hb1))
    | (go_at_call_of 76 (Value.slice a2 k2 c2);refine (a0V _ _ d (XD.out.call (by first | exact bb1.out | exact (Below.refl _ _).drew)) LD.out).mono ?_;rintro e w2 ⟨rfl,hb2⟩;rw[b0j,E2.out];have bb2:=hid (a0a (by first | exact bb1.out | exact (Below.refl _ _).drew) hb2)))
  go_wp2_with fail;go_ret2
  exact⟨rfl,a0a HX0.out bb2.out⟩
 ·have q0:decide ((4000:Int)<(B1.size:Int))=false:=by simp;omega
  have q1:decide ((4000:Int)<(B2.size:Int))=false:=by simp;omega
  have i3:=a0Z (l:=[49]) h3;go_enter Tryz.func57,Tryz.ntmps57;go_wp2_with fail;obtain⟨W,hW⟩:∃ W,w.alloc (.cells #[.bool true,.slice a1 k1 c1,.slice a2 k2 c2] 79)=W:=⟨_,rfl⟩;rw[hW];have X0:Below w.heap.size w W:=by rw[← hW];exact (Below.refl _ _).alloc (Nat.le_refl _) _
  have Y0:Blk W w.heap.size #[.bool true,.slice a1 k1 c1,.slice a2 k2 c2] 79:=by rw[← hW];exact Blk.new w _ _
  have K:Hid (∀ w',Below W.heap.size W w'→w'.cell? ⟨w.heap.size,0,none⟩=some (.bool true)∧w'.cell? ⟨w.heap.size,1,none⟩=some (.slice a1 k1 c1)∧w'.cell? ⟨w.heap.size,2,none⟩=some (.slice a2 k2 c2)):=
   fun w' hb=>⟨(Y0.call hb).cell 0,(Y0.call hb).cell 1,(Y0.call hb).cell 2⟩
  have HX0:=hid X0;obtain⟨k0,k1',k2'⟩:=K W (Below.refl _ _);have XN:=hid (HN.out.call HX0.out);have XD:=hid (HD.out.call HX0.out);clear Y0 X0 hW
  go_region_held3 (fun w'=>w'.cell? ⟨w.heap.size,0,none⟩=some (.bool true)∧w'.cell? ⟨w.heap.size,1,none⟩=some (.slice a1 k1 c1)∧w'.cell? ⟨w.heap.size,2,none⟩=some (.slice a2 k2 c2))
   (first
    | exact K.out _ (Below.refl _ _).drew
    | exact K.out _ bb2.out
    | exact K.out _ bb1.out)
   (first
    | (go_at_call_of 76 (Value.slice a1 k1 c1);refine (a0V _ _ n (XN.out.call (by first | exact bb2.out | exact (Below.refl _ _).drew)) LN.out).mono ?_;rintro e w1 ⟨rfl,hb1⟩;rw[b0j,E1.out];have bb1:=hid (a0a (by first | exact bb2.out | exact (Below.refl _ _).drew) hb1))
    | (go_at_call_of 76 (Value.slice a2 k2 c2);refine (a0V _ _ d (XD.out.call (by first | exact bb1.out | exact (Below.refl _ _).drew)) LD.out).mono ?_;rintro e w2 ⟨rfl,hb2⟩;rw[b0j,E2.out];have bb2:=hid (a0a (by first | exact bb1.out | exact (Below.refl _ _).drew) hb2)))
  go_wp2_with fail;go_ret2
  exact⟨rfl,a0a HX0.out bb2.out⟩
theorem n0t {d:Nat}:b0h d=⟨#[49]⟩↔d=1:=by
 constructor
 ·intro h;rw[← b0X]at h;rcases Nat.decEq d 1 with h1 | h1
  ·exact absurd h (e0u h1)
  ·exact h1
 ·rintro rfl;exact b0X
theorem f0L (w:World)(v:Value)(q:Rat)(h:IsQ .i64 w v q)(h1:(limbs q.num.natAbs).length≤1000000)(h2:(limbs q.den).length≤1000000):
 Calls Tryz.prog 57 #[v] w fun e w'=>e=.returned (.tuple #[.string (d0A q),.int .i64 (d0g q)])∧Below w.heap.size w w':=by
 obtain⟨N,D,rfl,hn,hd⟩:=h.ex;refine f0K w _ N D q.num.natAbs q.den (b0h q.num.natAbs) (b0h q.den) (d0A q) (d0g q) hn hd h1 h2 rfl rfl ?_;unfold q0q d0A d0g;rw[a0P,a0P];by_cases o1:4000<nDigits q.num.natAbs
 ·have ho:ovQ q:=.inl o1;rw[if_pos ho,if_pos ho];exact .inl ⟨o1,rfl,rfl⟩
 ·by_cases o2:4000<nDigits q.den
  ·have ho:ovQ q:=.inr o2;rw[if_pos ho,if_pos ho];exact .inr (.inl ⟨by omega,o2,rfl,rfl⟩)
  ·have ho:¬ ovQ q:=fun h=>h.elim o1 o2
   rw[if_neg ho,if_neg ho];refine .inr (.inr ⟨by omega,by omega,rfl,?_⟩);unfold txQ;rw[n0t];generalize decide (q.num<0)=m
   by_cases hd1:q.den=1
   ·rw[hd1];cases m
    ·exact .inl ⟨rfl,rfl,b0b (by simp[txB,b0h])⟩
    ·exact .inr (.inl ⟨rfl,rfl,b0b (by simp[txB,b0h])⟩)
   ·cases m
    ·exact .inr (.inr (.inl ⟨rfl,hd1,b0b (by simp[txB,b0h,hd1])⟩))
    ·exact .inr (.inr (.inr ⟨rfl,hd1,b0b (by simp[txB,b0h,hd1])⟩))
end Go.Proofs.YtlimaehdmcnjaaaGreatDoor
namespace Go.Proofs.YtlimaehdmcnjaaaGreatDoor
open Go.RowKit
theorem p0g (w:World)(v:Value)(q:Rat)(h:IsQ .i64 w v q)(h0:q≠0):
 Calls Tryz.prog 106 #[v] w fun e w'=>d0Q .i64 q⁻¹ e w'∧Below w.heap.size w w':=by
 obtain⟨N,D,rfl,hn,hd⟩:=h.ex;obtain⟨m,hm⟩:∃ m,decide (q.num<0)=m:=⟨_,rfl⟩;have HN:=hid hn;have HD:=hid hd;have HM:=hid hm;have H0:=hid h0;rw[hm];obtain⟨a1,c1,rfl,_⟩:=hn.openI;obtain⟨a2,c2,rfl,_⟩:=hd.openI;clear hn hd hm h0 h;go_enter Tryz.func106,Tryz.ntmps106;go_wp2_with fail;obtain⟨p1,p2,p3⟩:=d0H H0.out;have B:=((Below.refl w.heap.size w).alloc (Nat.le_refl _) (.cells #[.bool m,.slice a1 (limbs q.num.natAbs).length c1,.slice a2 (limbs q.den).length c2] 79)).alloc (by simp) (.cells #[.bool m,.slice a2 (limbs q.den).length c2,.slice a1 (limbs q.num.natAbs).length c1] 79);refine bodyPost_ret (v:=.agg #[.bool m,.slice a2 (limbs q.den).length c2,.slice a1 (limbs q.num.natAbs).length c1]) (by simp[results,Tryz.results106,go_sem]) rfl ⟨⟨_,rfl,⟨_,_,rfl.trans ?_,by rw[p2];exact HD.out.call B,by rw[p3];exact HN.out.call B⟩⟩,B⟩;rw[p1,HM.out]
theorem l0d {q:Rat}{m:Bool}(hm:decide (q.num<0)=m):decide ((-q).num<0)=(!m && decide (0<q.num.natAbs))∧(-q).num.natAbs=q.num.natAbs∧(-q).den=q.den:=by
 refine⟨?_,by rw[Rat.neg_num,Int.natAbs_neg],Rat.neg_den q⟩;rw[Rat.neg_num,← hm,Bool.eq_iff_iff];simp only[Bool.and_eq_true,Bool.not_eq_true',decide_eq_true_eq,decide_eq_false_iff_not];omega
theorem c0I (w:World)(v:Value)(q:Rat)(h:IsQ .i64 w v q):
 Calls Tryz.prog 59 #[v] w fun e w'=>d0Q .i64 (-q) e w'∧Below w.heap.size w w':=by
 obtain⟨N,D,rfl,hn,hd⟩:=h.ex;obtain⟨m,hm⟩:∃ m,decide (q.num<0)=m:=⟨_,rfl⟩;have HN:=hid hn;have HD:=hid hd;have HP:=hid (l0d hm);rw[hm];obtain⟨a1,c1,rfl,_⟩:=hn.openI;obtain⟨a2,c2,rfl,_⟩:=hd.openI;clear hn hd hm h;obtain⟨l,hl⟩:∃ l,(limbs q.num.natAbs).length=l:=⟨_,rfl⟩;have hz:decide (0<l)=decide (0<q.num.natAbs):=by
  have h1:l=0↔q.num.natAbs=0:=by rw[← hl,List.length_eq_zero_iff,a0Q]
  exact decide_eq_decide.2 (by omega)
 have HZ:=hid hz;have HL:=hid hl;rw[hl];clear hz hl;go_enter Tryz.func59,Tryz.ntmps59;go_wp2_with fail
 all_goals
  obtain⟨p1,p2,p3⟩:=HP.out;rw[← HZ.out]at p1;refine bodyPost_ret (v:=.agg #[_,.slice a1 l c1,.slice a2 (limbs q.den).length c2]) (by simp[results,Tryz.results59,go_sem];rfl) rfl ⟨⟨_,rfl,⟨.slice a1 l c1,.slice a2 (limbs q.den).length c2,?_,?_,?_⟩⟩,?_⟩
  ·rw[p1];clear HP HZ HL HN HD;simp_all
  ·have hh:=HN.out;rw[HL.out]at hh;rw[p2];exact hh.call (((Below.refl w.heap.size w).alloc (Nat.le_refl _) _).alloc (by simp) _)
  ·rw[p3];exact HD.out.call (((Below.refl w.heap.size w).alloc (Nat.le_refl _) _).alloc (by simp) _)
  ·exact (((Below.refl w.heap.size w).alloc (Nat.le_refl _) _).alloc (by simp) _)
theorem n0h (w:World)(v u:Value)(a b:Nat)(ha:IsN .i64 w v a)(hb:IsN .i64 w u b)(hla:(limbs a).length≤1000000)(hlb:(limbs b).length≤1000000):
 Calls Tryz.prog 72 #[v,u] w fun e w'=>RetFr w.heap.size .i64 (a+b) e w'∧Below w.heap.size w w':=by
 obtain⟨i0,hi,hz0,hz1,hz2⟩:=info_parts e0e;obtain⟨a1,c1,rfl,h1,h2,h3⟩:=ha.openI;obtain⟨a2,c2,rfl,k1,k2,k3⟩:=hb.openI;have H3:=hid h3;have K3:=hid k3;clear h3 k3 ha hb;obtain⟨n,ea⟩:∃ n,(limbs a).length=n:=⟨_,rfl⟩;obtain⟨m,eb⟩:∃ m,(limbs b).length=m:=⟨_,rfl⟩;rw[ea]at h1 hla ⊢;rw[eb]at k1 hlb ⊢;have HA:=hid ea;have HB:=hid eb;clear ea eb;go_enter Tryz.func72,Tryz.ntmps72;go_wp2_with fail
 go_loopw [5,6,7] (fun o cc i wr=>∃ (s:List Nat) (c:Nat) (C:Int),i=.int .i64 s.length∧cc=.int .i64 C∧C=(c:Int)∧c≤1∧s.length≤1000001∧(s.length≤n∨s.length≤m∨c=0)∧Hid (PlusI a b s c)∧Hid (wr.ownsRow w.heap.size 3 1 o s.length (ints .i64 s))∧Hid (Below w.heap.size w wr))
  (fun _ _ i _=>1000002-(intOf i).toNat)
 case atStart=>exact⟨[],0,0,rfl,rfl,rfl,by omega,by simp,.inl (by simp),PlusI.start a b,World.ownsRow_nil _ _ _ _,Below.refl _ _⟩
 case round=>
  obtain⟨s,c,C,rfl,rfl,hC,hc1,hs1,hs2,hP,hO,hB⟩:=hrel;obtain⟨ao,co,rfl⟩:=a0t hO.out;by_cases hA:s.length<n
  ·obtain⟨x,hx⟩:∃ x,(limbs a)[s.length]?=some x:=⟨_,List.getElem?_eq_getElem (by rw[HA.out];exact hA)⟩;obtain⟨g,og,rfl,hg,hc⟩:=H3.out _ x hx;have hc':=(hB.out.cell (p:=⟨g,og+s.length,none⟩) hg).trans hc;have hxl:=(a0j a).get hx;have HX:=hid hx;clear hx hc;by_cases hB':s.length<m
   ·obtain⟨y,hy⟩:∃ y,(limbs b)[s.length]?=some y:=⟨_,List.getElem?_eq_getElem (by rw[HB.out];exact hB')⟩;obtain⟨g',og',rfl,hg',hd⟩:=K3.out _ y hy;have hd':=(hB.out.cell (p:=⟨g',og'+s.length,none⟩) hg').trans hd;have hyl:=(a0j b).get hy;have HY:=hid hy;clear hy hd;rcases (show c=0∨c=1 by omega) with rfl | rfl
    ·obtain rfl:C=0:=by omega
     clear hC;have HN:=hid (hP.out.next (by rw[HA.out];exact .inl hA));rw[a0x HX.out,a0x HY.out]at HN;go_wp2_with (at_builtin;refine wpList_append_own _ rfl _ _ 77 rfl w.heap.size 3 i0 (.int .i64 0) 1 8 Tryz.underlying77 hi hz0 hz1 hz2 rfl (by decide) _ s.length _ rfl (hO.out.alloc _) ⟨wr.heap.size,0,none⟩ 1 1 [.int .i64 ((↑x + ↑y:Int)%1000000000)] rfl rfl (cell_one_new wr (.int .i64 ((↑x + ↑y:Int)%1000000000)) 3) (by simp[Value.oneCell']) (by unfold maxLen;omega) (by omega) (by have:=hB.out.size;simp;omega) ?_;intro v' w3 hown3 hgrow3 _;have HO3:=hid hown3;have HG3:=hid hgrow3;clear hown3 hgrow3)
     have hz:((↑x + ↑y:Int)%1000000000)=(((x+0+y)%1000000000:Nat):Int):=by omega
     rw[hz]at HO3;obtain⟨n1,n2⟩:=a0y hO.out hB.out HO3.out HG3.out;have N1:=hid n1;have N2:=hid n2;clear n1 n2 hz HO3 HG3;obtain⟨a3,k3,rfl⟩:=a0t N1.out;go_wp2_with fail;go_roundw
     case rel=>exact⟨s ++ [(x+0+y)%1000000000],(x+0+y) / 1000000000,_,by simp,rfl,by omega,HN.out.c1,by simp<;>omega,by simp<;>omega,HN,N1,N2⟩
     case measure=>simp[intOf]<;>omega
    ·obtain rfl:C=1:=by omega
     clear hC;have HN:=hid (hP.out.next (by rw[HA.out];exact .inl hA));rw[a0x HX.out,a0x HY.out]at HN;go_wp2_with (at_builtin;refine wpList_append_own _ rfl _ _ 77 rfl w.heap.size 3 i0 (.int .i64 0) 1 8 Tryz.underlying77 hi hz0 hz1 hz2 rfl (by decide) _ s.length _ rfl (hO.out.alloc _) ⟨wr.heap.size,0,none⟩ 1 1 [.int .i64 ((1 + ↑x + ↑y:Int)%1000000000)] rfl rfl (cell_one_new wr (.int .i64 ((1 + ↑x + ↑y:Int)%1000000000)) 3) (by simp[Value.oneCell']) (by unfold maxLen;omega) (by omega) (by have:=hB.out.size;simp;omega) ?_;intro v' w3 hown3 hgrow3 _;have HO3:=hid hown3;have HG3:=hid hgrow3;clear hown3 hgrow3)
     have hz:((1 + ↑x + ↑y:Int)%1000000000)=(((x+1+y)%1000000000:Nat):Int):=by omega
     rw[hz]at HO3;obtain⟨n1,n2⟩:=a0y hO.out hB.out HO3.out HG3.out;have N1:=hid n1;have N2:=hid n2;clear n1 n2 hz HO3 HG3;obtain⟨a3,k3,rfl⟩:=a0t N1.out;go_wp2_with fail;go_roundw
     case rel=>exact⟨s ++ [(x+1+y)%1000000000],(x+1+y) / 1000000000,_,by simp,rfl,by omega,HN.out.c1,by simp<;>omega,by simp<;>omega,HN,N1,N2⟩
     case measure=>simp[intOf]<;>omega
   ·skip
    rcases (show c=0∨c=1 by omega) with rfl | rfl
    ·obtain rfl:C=0:=by omega
     clear hC;have HN:=hid (hP.out.next (by rw[HA.out];exact .inl hA));rw[a0x HX.out,a0H (by rw[HB.out];omega)]at HN;go_wp2_with (at_builtin;refine wpList_append_own _ rfl _ _ 77 rfl w.heap.size 3 i0 (.int .i64 0) 1 8 Tryz.underlying77 hi hz0 hz1 hz2 rfl (by decide) _ s.length _ rfl (hO.out.alloc _) ⟨wr.heap.size,0,none⟩ 1 1 [.int .i64 ((↑x:Int)%1000000000)] rfl rfl (cell_one_new wr (.int .i64 ((↑x:Int)%1000000000)) 3) (by simp[Value.oneCell']) (by unfold maxLen;omega) (by omega) (by have:=hB.out.size;simp;omega) ?_;intro v' w3 hown3 hgrow3 _;have HO3:=hid hown3;have HG3:=hid hgrow3;clear hown3 hgrow3)
     have hz:((↑x:Int)%1000000000)=(((x+0+0)%1000000000:Nat):Int):=by omega
     rw[hz]at HO3;obtain⟨n1,n2⟩:=a0y hO.out hB.out HO3.out HG3.out;have N1:=hid n1;have N2:=hid n2;clear n1 n2 hz HO3 HG3;obtain⟨a3,k3,rfl⟩:=a0t N1.out;go_wp2_with fail;go_roundw
     case rel=>exact⟨s ++ [(x+0+0)%1000000000],(x+0+0) / 1000000000,_,by simp,rfl,by omega,HN.out.c1,by simp<;>omega,by simp<;>omega,HN,N1,N2⟩
     case measure=>simp[intOf]<;>omega
    ·obtain rfl:C=1:=by omega
     clear hC;have HN:=hid (hP.out.next (by rw[HA.out];exact .inl hA));rw[a0x HX.out,a0H (by rw[HB.out];omega)]at HN;go_wp2_with (at_builtin;refine wpList_append_own _ rfl _ _ 77 rfl w.heap.size 3 i0 (.int .i64 0) 1 8 Tryz.underlying77 hi hz0 hz1 hz2 rfl (by decide) _ s.length _ rfl (hO.out.alloc _) ⟨wr.heap.size,0,none⟩ 1 1 [.int .i64 ((1 + ↑x:Int)%1000000000)] rfl rfl (cell_one_new wr (.int .i64 ((1 + ↑x:Int)%1000000000)) 3) (by simp[Value.oneCell']) (by unfold maxLen;omega) (by omega) (by have:=hB.out.size;simp;omega) ?_;intro v' w3 hown3 hgrow3 _;have HO3:=hid hown3;have HG3:=hid hgrow3;clear hown3 hgrow3)
     have hz:((1 + ↑x:Int)%1000000000)=(((x+1+0)%1000000000:Nat):Int):=by omega
     rw[hz]at HO3;obtain⟨n1,n2⟩:=a0y hO.out hB.out HO3.out HG3.out;have N1:=hid n1;have N2:=hid n2;clear n1 n2 hz HO3 HG3;obtain⟨a3,k3,rfl⟩:=a0t N1.out;go_wp2_with fail;go_roundw
     case rel=>exact⟨s ++ [(x+1+0)%1000000000],(x+1+0) / 1000000000,_,by simp,rfl,by omega,HN.out.c1,by simp<;>omega,by simp<;>omega,HN,N1,N2⟩
     case measure=>simp[intOf]<;>omega
  ·skip
   by_cases hB':s.length<m
   ·obtain⟨y,hy⟩:∃ y,(limbs b)[s.length]?=some y:=⟨_,List.getElem?_eq_getElem (by rw[HB.out];exact hB')⟩;obtain⟨g',og',rfl,hg',hd⟩:=K3.out _ y hy;have hd':=(hB.out.cell (p:=⟨g',og'+s.length,none⟩) hg').trans hd;have hyl:=(a0j b).get hy;have HY:=hid hy;clear hy hd;rcases (show c=0∨c=1 by omega) with rfl | rfl
    ·obtain rfl:C=0:=by omega
     clear hC;have HN:=hid (hP.out.next (by rw[HB.out];exact .inr (.inl hB')));rw[a0H (by rw[HA.out];omega),a0x HY.out]at HN;go_wp2_with (at_builtin;refine wpList_append_own _ rfl _ _ 77 rfl w.heap.size 3 i0 (.int .i64 0) 1 8 Tryz.underlying77 hi hz0 hz1 hz2 rfl (by decide) _ s.length _ rfl (hO.out.alloc _) ⟨wr.heap.size,0,none⟩ 1 1 [.int .i64 ((↑y:Int)%1000000000)] rfl rfl (cell_one_new wr (.int .i64 ((↑y:Int)%1000000000)) 3) (by simp[Value.oneCell']) (by unfold maxLen;omega) (by omega) (by have:=hB.out.size;simp;omega) ?_;intro v' w3 hown3 hgrow3 _;have HO3:=hid hown3;have HG3:=hid hgrow3;clear hown3 hgrow3)
     have hz:((↑y:Int)%1000000000)=(((0+0+y)%1000000000:Nat):Int):=by omega
     rw[hz]at HO3;obtain⟨n1,n2⟩:=a0y hO.out hB.out HO3.out HG3.out;have N1:=hid n1;have N2:=hid n2;clear n1 n2 hz HO3 HG3;obtain⟨a3,k3,rfl⟩:=a0t N1.out;go_wp2_with fail;go_roundw
     case rel=>exact⟨s ++ [(0+0+y)%1000000000],(0+0+y) / 1000000000,_,by simp,rfl,by omega,HN.out.c1,by simp<;>omega,by simp<;>omega,HN,N1,N2⟩
     case measure=>simp[intOf]<;>omega
    ·obtain rfl:C=1:=by omega
     clear hC;have HN:=hid (hP.out.next (by rw[HB.out];exact .inr (.inl hB')));rw[a0H (by rw[HA.out];omega),a0x HY.out]at HN;go_wp2_with (at_builtin;refine wpList_append_own _ rfl _ _ 77 rfl w.heap.size 3 i0 (.int .i64 0) 1 8 Tryz.underlying77 hi hz0 hz1 hz2 rfl (by decide) _ s.length _ rfl (hO.out.alloc _) ⟨wr.heap.size,0,none⟩ 1 1 [.int .i64 ((1 + ↑y:Int)%1000000000)] rfl rfl (cell_one_new wr (.int .i64 ((1 + ↑y:Int)%1000000000)) 3) (by simp[Value.oneCell']) (by unfold maxLen;omega) (by omega) (by have:=hB.out.size;simp;omega) ?_;intro v' w3 hown3 hgrow3 _;have HO3:=hid hown3;have HG3:=hid hgrow3;clear hown3 hgrow3)
     have hz:((1 + ↑y:Int)%1000000000)=(((0+1+y)%1000000000:Nat):Int):=by omega
     rw[hz]at HO3;obtain⟨n1,n2⟩:=a0y hO.out hB.out HO3.out HG3.out;have N1:=hid n1;have N2:=hid n2;clear n1 n2 hz HO3 HG3;obtain⟨a3,k3,rfl⟩:=a0t N1.out;go_wp2_with fail;go_roundw
     case rel=>exact⟨s ++ [(0+1+y)%1000000000],(0+1+y) / 1000000000,_,by simp,rfl,by omega,HN.out.c1,by simp<;>omega,by simp<;>omega,HN,N1,N2⟩
     case measure=>simp[intOf]<;>omega
   ·skip
    rcases (show c=0∨c=1 by omega) with rfl | rfl
    ·obtain rfl:C=0:=by omega
     clear hC;have hs:=hid (hP.out.done (by rw[HA.out];exact hA) (by rw[HB.out];exact hB') rfl);go_wp2_with fail;go_ret
     exact⟨⟨_,rfl,c0u hO.out hs.out,fun g hg=>(hO.out.lt g hg).1⟩,hB.out⟩
    ·obtain rfl:C=1:=by omega
     clear hC;have HN:=hid (hP.out.next (by exact .inr (.inr (by omega))));rw[a0H (by rw[HA.out];omega),a0H (by rw[HB.out];omega)]at HN;go_wp2_with (at_builtin;refine wpList_append_own _ rfl _ _ 77 rfl w.heap.size 3 i0 (.int .i64 0) 1 8 Tryz.underlying77 hi hz0 hz1 hz2 rfl (by decide) _ s.length _ rfl (hO.out.alloc _) ⟨wr.heap.size,0,none⟩ 1 1 [.int .i64 (1)] rfl rfl (cell_one_new wr (.int .i64 (1)) 3) (by simp[Value.oneCell']) (by unfold maxLen;omega) (by omega) (by have:=hB.out.size;simp;omega) ?_;intro v' w3 hown3 hgrow3 _;have HO3:=hid hown3;have HG3:=hid hgrow3;clear hown3 hgrow3)
     have hz:(1)=(((0+1+0)%1000000000:Nat):Int):=by omega
     rw[hz]at HO3;obtain⟨n1,n2⟩:=a0y hO.out hB.out HO3.out HG3.out;have N1:=hid n1;have N2:=hid n2;clear n1 n2 hz HO3 HG3;obtain⟨a3,k3,rfl⟩:=a0t N1.out;go_wp2_with fail;go_roundw
     case rel=>exact⟨s ++ [(0+1+0)%1000000000],(0+1+0) / 1000000000,_,by simp,rfl,by omega,HN.out.c1,by simp<;>omega,by simp<;>omega,HN,N1,N2⟩
     case measure=>simp[intOf]<;>omega
theorem h0w (w:World)(v u:Value)(a b:Nat)(ha:IsN .i64 w v a)(hb:IsN .i64 w u b)(hla:(limbs a).length≤1000000)(hlb:(limbs b).length≤1000000):
 Calls Tryz.prog 72 #[v,u] w fun e w'=>g0l .i64 (a+b) e w'∧Below w.heap.size w w':=
 (n0h w v u a b ha hb hla hlb).mono fun _ _ h=>⟨h.1.ret,h.2⟩
theorem k0M (w:World)(v u:Value)(a b:Nat)(ha:IsN .i64 w v a)(hb:IsN .i64 w u b)(hle:b≤a)(hla:(limbs a).length≤1000000):
 Calls Tryz.prog 112 #[v,u] w fun e w'=>RetFr w.heap.size .i64 (a-b) e w'∧Below w.heap.size w w':=by
 obtain⟨i0,hi,hz0,hz1,hz2⟩:=info_parts e0e;obtain⟨a1,c1,rfl,h1,h2,h3⟩:=ha.openI;obtain⟨a2,c2,rfl,k1,k2,k3⟩:=hb.openI;have H3:=hid h3;have K3:=hid k3;clear h3 k3 ha hb;have hmn:=a0h hle;obtain⟨n,ea⟩:∃ n,(limbs a).length=n:=⟨_,rfl⟩;obtain⟨m,eb⟩:∃ m,(limbs b).length=m:=⟨_,rfl⟩;rw[ea]at h1 hla hmn ⊢;rw[eb]at k1 hmn ⊢;have HA:=hid ea;have HB:=hid eb;have HL:=hid hle;clear ea eb hle;go_enter Tryz.func112,Tryz.ntmps112;go_wp2_with fail
 go_loopw [5,6,7,8] (fun o cc i nn wr=>∃ (s:List Nat) (c:Nat) (C:Int),i=.int .i64 s.length∧cc=.int .i64 C∧C=(c:Int)∧c≤1∧s.length≤n∧Hid (MinusI a b s c)∧Hid (wr.ownsRow w.heap.size 3 1 o s.length (ints .i64 s))∧Hid (Below w.heap.size w wr))
  (fun _ _ i _ _=>n-(intOf i).toNat)
 case atStart=>exact⟨[],0,0,rfl,rfl,rfl,by omega,by simp,MinusI.start a b,World.ownsRow_nil _ _ _ _,Below.refl _ _⟩
 case round=>
  obtain⟨s,c,C,rfl,rfl,hC,hc1,hs1,hP,hO,hB⟩:=hrel;obtain⟨ao,co,rfl⟩:=a0t hO.out;by_cases hA:s.length<n
  ·obtain⟨x,hx⟩:∃ x,(limbs a)[s.length]?=some x:=⟨_,List.getElem?_eq_getElem (by rw[HA.out];exact hA)⟩;obtain⟨g,og,rfl,hg,hc⟩:=H3.out _ x hx;have hc':=(hB.out.cell (p:=⟨g,og+s.length,none⟩) hg).trans hc;have hxl:=(a0j a).get hx;have HX:=hid hx;clear hx hc;by_cases hB':s.length<m
   ·obtain⟨y,hy⟩:∃ y,(limbs b)[s.length]?=some y:=⟨_,List.getElem?_eq_getElem (by rw[HB.out];exact hB')⟩;obtain⟨g',og',rfl,hg',hd⟩:=K3.out _ y hy;have hd':=(hB.out.cell (p:=⟨g',og'+s.length,none⟩) hg').trans hd;have hyl:=(a0j b).get hy;have HY:=hid hy;clear hy hd;rcases (show c=0∨c=1 by omega) with rfl | rfl
    ·obtain rfl:C=0:=by omega
     clear hC;by_cases hneg:x<y+0
     ·obtain⟨z,hz0',hz1',hzI⟩:∃ z:Nat,x+1000000000*1=z+0+y∧z<1000000000∧Hid ((↑x - ↑y+1000000000:Int)=(z:Int)):=⟨((↑x - ↑y+1000000000:Int)).toNat,by omega,by omega,by rw[Hid];omega⟩;have HN:=hid (hP.out.next (z:=z) (c':=1) (by rw[a0x HX.out,a0x HY.out];omega) hz1' (by omega));clear hz0' hz1';have q1:decide ((x:Int)-(y:Int)<0)=true:=by simp<;>omega
      clear hneg;go_wp2_with (at_builtin;refine wpList_append_own _ rfl _ _ 77 rfl w.heap.size 3 i0 (.int .i64 0) 1 8 Tryz.underlying77 hi hz0 hz1 hz2 rfl (by decide) _ s.length _ rfl (hO.out.alloc _) ⟨wr.heap.size,0,none⟩ 1 1 [.int .i64 ((↑x - ↑y+1000000000:Int))] rfl rfl (cell_one_new wr (.int .i64 ((↑x - ↑y+1000000000:Int))) 3) (by simp[Value.oneCell']) (by unfold maxLen;omega) (by omega) (by have:=hB.out.size;simp;omega) ?_;intro v' w3 hown3 hgrow3 _;have HO3:=hid hown3;have HG3:=hid hgrow3;clear hown3 hgrow3)
      rw[hzI.out]at HO3;obtain⟨n1,n2⟩:=a0y hO.out hB.out HO3.out HG3.out;have N1:=hid n1;have N2:=hid n2;clear n1 n2 HO3 HG3;obtain⟨a3,k3,rfl⟩:=a0t N1.out;go_wp2_with fail;go_roundw
      case rel=>exact⟨s ++ [z],1,_,by simp,rfl,by simp,by omega,by simp<;>omega,HN,N1,N2⟩
      case measure=>simp[intOf]<;>omega
     ·obtain⟨z,hz0',hz1',hzI⟩:∃ z:Nat,x+1000000000*0=z+0+y∧z<1000000000∧Hid ((↑x - ↑y:Int)=(z:Int)):=⟨((↑x - ↑y:Int)).toNat,by omega,by omega,by rw[Hid];omega⟩;have HN:=hid (hP.out.next (z:=z) (c':=0) (by rw[a0x HX.out,a0x HY.out];omega) hz1' (by omega));clear hz0' hz1';have q1:decide ((x:Int)-(y:Int)<0)=false:=by simp<;>omega
      clear hneg;go_wp2_with (at_builtin;refine wpList_append_own _ rfl _ _ 77 rfl w.heap.size 3 i0 (.int .i64 0) 1 8 Tryz.underlying77 hi hz0 hz1 hz2 rfl (by decide) _ s.length _ rfl (hO.out.alloc _) ⟨wr.heap.size,0,none⟩ 1 1 [.int .i64 ((↑x - ↑y:Int))] rfl rfl (cell_one_new wr (.int .i64 ((↑x - ↑y:Int))) 3) (by simp[Value.oneCell']) (by unfold maxLen;omega) (by omega) (by have:=hB.out.size;simp;omega) ?_;intro v' w3 hown3 hgrow3 _;have HO3:=hid hown3;have HG3:=hid hgrow3;clear hown3 hgrow3)
      rw[hzI.out]at HO3;obtain⟨n1,n2⟩:=a0y hO.out hB.out HO3.out HG3.out;have N1:=hid n1;have N2:=hid n2;clear n1 n2 HO3 HG3;obtain⟨a3,k3,rfl⟩:=a0t N1.out;go_wp2_with fail;go_roundw
      case rel=>exact⟨s ++ [z],0,_,by simp,rfl,by simp,by omega,by simp<;>omega,HN,N1,N2⟩
      case measure=>simp[intOf]<;>omega
    ·obtain rfl:C=1:=by omega
     clear hC;by_cases hneg:x<y+1
     ·obtain⟨z,hz0',hz1',hzI⟩:∃ z:Nat,x+1000000000*1=z+1+y∧z<1000000000∧Hid ((↑x-1 - ↑y+1000000000:Int)=(z:Int)):=⟨((↑x-1 - ↑y+1000000000:Int)).toNat,by omega,by omega,by rw[Hid];omega⟩;have HN:=hid (hP.out.next (z:=z) (c':=1) (by rw[a0x HX.out,a0x HY.out];omega) hz1' (by omega));clear hz0' hz1';have q1:decide ((x:Int)-1-(y:Int)<0)=true:=by simp<;>omega
      clear hneg;go_wp2_with (at_builtin;refine wpList_append_own _ rfl _ _ 77 rfl w.heap.size 3 i0 (.int .i64 0) 1 8 Tryz.underlying77 hi hz0 hz1 hz2 rfl (by decide) _ s.length _ rfl (hO.out.alloc _) ⟨wr.heap.size,0,none⟩ 1 1 [.int .i64 ((↑x-1 - ↑y+1000000000:Int))] rfl rfl (cell_one_new wr (.int .i64 ((↑x-1 - ↑y+1000000000:Int))) 3) (by simp[Value.oneCell']) (by unfold maxLen;omega) (by omega) (by have:=hB.out.size;simp;omega) ?_;intro v' w3 hown3 hgrow3 _;have HO3:=hid hown3;have HG3:=hid hgrow3;clear hown3 hgrow3)
      rw[hzI.out]at HO3;obtain⟨n1,n2⟩:=a0y hO.out hB.out HO3.out HG3.out;have N1:=hid n1;have N2:=hid n2;clear n1 n2 HO3 HG3;obtain⟨a3,k3,rfl⟩:=a0t N1.out;go_wp2_with fail;go_roundw
      case rel=>exact⟨s ++ [z],1,_,by simp,rfl,by simp,by omega,by simp<;>omega,HN,N1,N2⟩
      case measure=>simp[intOf]<;>omega
     ·obtain⟨z,hz0',hz1',hzI⟩:∃ z:Nat,x+1000000000*0=z+1+y∧z<1000000000∧Hid ((↑x-1 - ↑y:Int)=(z:Int)):=⟨((↑x-1 - ↑y:Int)).toNat,by omega,by omega,by rw[Hid];omega⟩;have HN:=hid (hP.out.next (z:=z) (c':=0) (by rw[a0x HX.out,a0x HY.out];omega) hz1' (by omega));clear hz0' hz1';have q1:decide ((x:Int)-1-(y:Int)<0)=false:=by simp<;>omega
      clear hneg;go_wp2_with (at_builtin;refine wpList_append_own _ rfl _ _ 77 rfl w.heap.size 3 i0 (.int .i64 0) 1 8 Tryz.underlying77 hi hz0 hz1 hz2 rfl (by decide) _ s.length _ rfl (hO.out.alloc _) ⟨wr.heap.size,0,none⟩ 1 1 [.int .i64 ((↑x-1 - ↑y:Int))] rfl rfl (cell_one_new wr (.int .i64 ((↑x-1 - ↑y:Int))) 3) (by simp[Value.oneCell']) (by unfold maxLen;omega) (by omega) (by have:=hB.out.size;simp;omega) ?_;intro v' w3 hown3 hgrow3 _;have HO3:=hid hown3;have HG3:=hid hgrow3;clear hown3 hgrow3)
      rw[hzI.out]at HO3;obtain⟨n1,n2⟩:=a0y hO.out hB.out HO3.out HG3.out;have N1:=hid n1;have N2:=hid n2;clear n1 n2 HO3 HG3;obtain⟨a3,k3,rfl⟩:=a0t N1.out;go_wp2_with fail;go_roundw
      case rel=>exact⟨s ++ [z],0,_,by simp,rfl,by simp,by omega,by simp<;>omega,HN,N1,N2⟩
      case measure=>simp[intOf]<;>omega
   ·skip
    rcases (show c=0∨c=1 by omega) with rfl | rfl
    ·obtain rfl:C=0:=by omega
     clear hC;by_cases hneg:x<0+0
     ·omega
     ·obtain⟨z,hz0',hz1',hzI⟩:∃ z:Nat,x+1000000000*0=z+0+0∧z<1000000000∧Hid ((↑x:Int)=(z:Int)):=⟨((↑x:Int)).toNat,by omega,by omega,by rw[Hid];omega⟩;have HN:=hid (hP.out.next (z:=z) (c':=0) (by rw[a0x HX.out,a0H (by rw[HB.out];omega)];omega) hz1' (by omega));clear hz0' hz1';have q1:decide ((x:Int)<0)=false:=by simp<;>omega
      clear hneg;go_wp2_with (at_builtin;refine wpList_append_own _ rfl _ _ 77 rfl w.heap.size 3 i0 (.int .i64 0) 1 8 Tryz.underlying77 hi hz0 hz1 hz2 rfl (by decide) _ s.length _ rfl (hO.out.alloc _) ⟨wr.heap.size,0,none⟩ 1 1 [.int .i64 ((↑x:Int))] rfl rfl (cell_one_new wr (.int .i64 ((↑x:Int))) 3) (by simp[Value.oneCell']) (by unfold maxLen;omega) (by omega) (by have:=hB.out.size;simp;omega) ?_;intro v' w3 hown3 hgrow3 _;have HO3:=hid hown3;have HG3:=hid hgrow3;clear hown3 hgrow3)
      rw[hzI.out]at HO3;obtain⟨n1,n2⟩:=a0y hO.out hB.out HO3.out HG3.out;have N1:=hid n1;have N2:=hid n2;clear n1 n2 HO3 HG3;obtain⟨a3,k3,rfl⟩:=a0t N1.out;go_wp2_with fail;go_roundw
      case rel=>exact⟨s ++ [z],0,_,by simp,rfl,by simp,by omega,by simp<;>omega,HN,N1,N2⟩
      case measure=>simp[intOf]<;>omega
    ·obtain rfl:C=1:=by omega
     clear hC;by_cases hneg:x<0+1
     ·obtain⟨z,hz0',hz1',hzI⟩:∃ z:Nat,x+1000000000*1=z+1+0∧z<1000000000∧Hid ((↑x-1+1000000000:Int)=(z:Int)):=⟨((↑x-1+1000000000:Int)).toNat,by omega,by omega,by rw[Hid];omega⟩;have HN:=hid (hP.out.next (z:=z) (c':=1) (by rw[a0x HX.out,a0H (by rw[HB.out];omega)];omega) hz1' (by omega));clear hz0' hz1';have q1:decide ((x:Int)-1<0)=true:=by simp<;>omega
      clear hneg;go_wp2_with (at_builtin;refine wpList_append_own _ rfl _ _ 77 rfl w.heap.size 3 i0 (.int .i64 0) 1 8 Tryz.underlying77 hi hz0 hz1 hz2 rfl (by decide) _ s.length _ rfl (hO.out.alloc _) ⟨wr.heap.size,0,none⟩ 1 1 [.int .i64 ((↑x-1+1000000000:Int))] rfl rfl (cell_one_new wr (.int .i64 ((↑x-1+1000000000:Int))) 3) (by simp[Value.oneCell']) (by unfold maxLen;omega) (by omega) (by have:=hB.out.size;simp;omega) ?_;intro v' w3 hown3 hgrow3 _;have HO3:=hid hown3;have HG3:=hid hgrow3;clear hown3 hgrow3)
      rw[hzI.out]at HO3;obtain⟨n1,n2⟩:=a0y hO.out hB.out HO3.out HG3.out;have N1:=hid n1;have N2:=hid n2;clear n1 n2 HO3 HG3;obtain⟨a3,k3,rfl⟩:=a0t N1.out;go_wp2_with fail;go_roundw
      case rel=>exact⟨s ++ [z],1,_,by simp,rfl,by simp,by omega,by simp<;>omega,HN,N1,N2⟩
      case measure=>simp[intOf]<;>omega
     ·obtain⟨z,hz0',hz1',hzI⟩:∃ z:Nat,x+1000000000*0=z+1+0∧z<1000000000∧Hid ((↑x-1:Int)=(z:Int)):=⟨((↑x-1:Int)).toNat,by omega,by omega,by rw[Hid];omega⟩;have HN:=hid (hP.out.next (z:=z) (c':=0) (by rw[a0x HX.out,a0H (by rw[HB.out];omega)];omega) hz1' (by omega));clear hz0' hz1';have q1:decide ((x:Int)-1<0)=false:=by simp<;>omega
      clear hneg;go_wp2_with (at_builtin;refine wpList_append_own _ rfl _ _ 77 rfl w.heap.size 3 i0 (.int .i64 0) 1 8 Tryz.underlying77 hi hz0 hz1 hz2 rfl (by decide) _ s.length _ rfl (hO.out.alloc _) ⟨wr.heap.size,0,none⟩ 1 1 [.int .i64 ((↑x-1:Int))] rfl rfl (cell_one_new wr (.int .i64 ((↑x-1:Int))) 3) (by simp[Value.oneCell']) (by unfold maxLen;omega) (by omega) (by have:=hB.out.size;simp;omega) ?_;intro v' w3 hown3 hgrow3 _;have HO3:=hid hown3;have HG3:=hid hgrow3;clear hown3 hgrow3)
      rw[hzI.out]at HO3;obtain⟨n1,n2⟩:=a0y hO.out hB.out HO3.out HG3.out;have N1:=hid n1;have N2:=hid n2;clear n1 n2 HO3 HG3;obtain⟨a3,k3,rfl⟩:=a0t N1.out;go_wp2_with fail;go_roundw
      case rel=>exact⟨s ++ [z],0,_,by simp,rfl,by simp,by omega,by simp<;>omega,HN,N1,N2⟩
      case measure=>simp[intOf]<;>omega
  ·obtain rfl:s.length=n:=by omega
   have hv:=hid (hP.out.done HA.out.symm HL.out);go_wp2_with (go_at_call 122;refine (b0R _ _ _ s hP.out.sm (Row.of_owns hO.out)).mono ?_;rintro e w1 ⟨⟨m1,rfl,hv1⟩,rfl⟩)
   go_ret
   exact⟨⟨_,rfl,by rw[← hv.out];exact hv1,fun g hg=>(hO.out.lt g (by cases ao<;>exact hg)).1⟩,hB.out⟩
theorem i0y (w:World)(v u:Value)(a b:Nat)(ha:IsN .i64 w v a)(hb:IsN .i64 w u b)(hle:b≤a)(hla:(limbs a).length≤1000000):
 Calls Tryz.prog 112 #[v,u] w fun e w'=>g0l .i64 (a-b) e w'∧Below w.heap.size w w':=
 (k0M w v u a b ha hb hle hla).mono fun _ _ h=>⟨h.1.ret,h.2⟩
def r0I (m1 m2:Bool)(x y:Nat)(m:Bool)(s:Nat):Prop:=
 (m1=m2∧m=m1∧s=x+y)∨((m1==m2)=false∧x<y∧m=m2∧s=y-x)∨((m1==m2)=false∧y≤x∧m=m1∧s=x-y)
theorem l0m {a b p:Nat}(ha:(limbs a).length≤p)(hb:(limbs b).length≤p):(limbs (a+b)).length≤p+1:=by
 refine a0e.2 ?_;have h1:=a0e.1 ha;have h2:=a0e.1 hb;rw[Nat.pow_succ];omega
theorem r0c {x y:Nat}(h:y≤x):decide (b0e x y<0)=false:=by
 unfold b0e
 split
 ·omega
 ·split<;>simp
theorem g0y (w:World)(m1 m2 m:Bool)(N1 D1 N2 D2:Value)(n1 d1 n2 d2 s:Nat)(hn1:IsN .i64 w N1 n1)(hd1:IsN .i64 w D1 d1)(hn2:IsN .i64 w N2 n2)(hd2:IsN .i64 w D2 d2)
 (l1:(limbs n1).length≤100000) (l2:(limbs d1).length≤100000) (l3:(limbs n2).length≤100000) (l4:(limbs d2).length≤100000) (p1:0<d1) (p2:0<d2) (key:r0I m1 m2 (n1*d2) (n2*d1) m s):
 Calls Tryz.prog 58 #[.agg #[.bool m1,N1,D1],.agg #[.bool m2,N2,D2]] w fun e w'=>RetQF w.heap.size (qmk m s (d1*d2)) e w'∧Below w.heap.size w w':=by
 have HN1:=hid hn1;have HD1:=hid hd1;have HN2:=hid hn2;have HD2:=hid hd2;have L1:=hid (Nat.le_trans (b0E l1 l4) (show 100000+100000≤1000000 by omega));have L2:=hid (Nat.le_trans (b0E l3 l2) (show 100000+100000≤1000000 by omega));have L3:=hid (Nat.le_trans (b0E l2 l4) (show 100000+100000≤1000000 by omega));have H1:=hid (Nat.le_trans l1 (show 100000≤1000000 by omega));have H2:=hid (Nat.le_trans l2 (show 100000≤1000000 by omega));have H3:=hid (Nat.le_trans l3 (show 100000≤1000000 by omega));have H4:=hid (Nat.le_trans l4 (show 100000≤1000000 by omega));have hD:=hid (Nat.mul_pos p1 p2);have LS:Hid ((limbs s).length≤1000000):=by
  have q1:=b0E l1 l4;have q2:=b0E l3 l2;have q3:=l0m q1 q2;have q4:(limbs s).length≤(limbs (n1*d2+n2*d1)).length:=a0h (by rcases key with ⟨-,-,rfl⟩ | ⟨-,-,-,rfl⟩ | ⟨-,-,-,rfl⟩<;>omega);show _≤_
  omega
 clear l1 l2 l3 l4 p1 p2;obtain⟨a1,c1,rfl,_⟩:=hn1.openI;obtain⟨a2,c2,rfl,_⟩:=hd1.openI;obtain⟨a3,c3,rfl,_⟩:=hn2.openI;obtain⟨a4,c4,rfl,_⟩:=hd2.openI;obtain⟨k1,hk1⟩:∃ k,(limbs n1).length=k:=⟨_,rfl⟩;obtain⟨k2,hk2⟩:∃ k,(limbs d1).length=k:=⟨_,rfl⟩;obtain⟨k3,hk3⟩:∃ k,(limbs n2).length=k:=⟨_,rfl⟩;obtain⟨k4,hk4⟩:∃ k,(limbs d2).length=k:=⟨_,rfl⟩;rw[hk1]at HN1 ⊢;rw[hk2]at HD1 ⊢;rw[hk3]at HN2 ⊢;rw[hk4]at HD2 ⊢;clear hn1 hd1 hn2 hd2 hk1 hk2 hk3 hk4;obtain⟨x,hx⟩:∃ x,n1*d2=x:=⟨_,rfl⟩;obtain⟨y,hy⟩:∃ y,n2*d1=y:=⟨_,rfl⟩;obtain⟨z,hz⟩:∃ z,d1*d2=z:=⟨_,rfl⟩;rw[hx,hy]at key;rw[hx]at L1;rw[hy]at L2;rw[hz]at hD L3 ⊢;have HX:=hid hx;have HY:=hid hy;have HZ:=hid hz;clear hx hy hz;unfold r0I at key;rcases key with ⟨rfl,rfl,rfl⟩ | ⟨hne,hlt,rfl,rfl⟩ | ⟨hne,hle,rfl,rfl⟩
 ·go_enter Tryz.func58,Tryz.ntmps58;go_wp2_with fail;obtain⟨W,hW⟩:∃ W,((w.alloc (.cells #[.bool m,.slice a1 k1 c1,.slice a2 k2 c2] 79)).alloc (.cells #[.bool m,.slice a3 k3 c3,.slice a4 k4 c4] 79)).alloc (.cells #[.bool false,.slice none 0 0,.slice none 0 0] 79)=W:=⟨_,rfl⟩;rw[hW];have X0:Below w.heap.size w W:=by rw[← hW];exact (((Below.refl _ _).alloc (Nat.le_refl _) _).alloc (by simp) _).alloc (by simp;omega) _
  have Y0:Blk W w.heap.size #[.bool m,.slice a1 k1 c1,.slice a2 k2 c2] 79:=by rw[← hW];exact ((Blk.new w _ _).alloc _).alloc _
  have Y1:Blk W (w.heap.size+1) #[.bool m,.slice a3 k3 c3,.slice a4 k4 c4] 79:=by rw[← hW];exact (Blk.made (w.alloc _) _ _ (by simp)).alloc _
  have Y2:Blk W (w.heap.size+1+1) #[.bool false,.slice none 0 0,.slice none 0 0] 79:=by rw[← hW];exact Blk.made ((w.alloc _).alloc _) _ _ (by simp)
  have K:Hid (∀ w',Below W.heap.size W w'→w'.cell? ⟨w.heap.size,0,none⟩=some (.bool m)∧w'.cell? ⟨w.heap.size,1,none⟩=some (.slice a1 k1 c1)∧w'.cell? ⟨w.heap.size,2,none⟩=some (.slice a2 k2 c2)∧w'.cell? ⟨w.heap.size+1,0,none⟩=some (.bool m)∧w'.cell? ⟨w.heap.size+1,1,none⟩=some (.slice a3 k3 c3)∧w'.cell? ⟨w.heap.size+1,2,none⟩=some (.slice a4 k4 c4)):=fun w' hb=>⟨(Y0.call hb).cell 0,(Y0.call hb).cell 1,(Y0.call hb).cell 2,(Y1.call hb).cell 0,(Y1.call hb).cell 1,(Y1.call hb).cell 2⟩
  have HY0:=hid Y0;have HY1:=hid Y1;have HY2:=hid Y2;have HX0:=hid X0;obtain⟨i0,i1,i2,i3,i4,i5⟩:=K W (Below.refl _ _);clear Y0 Y1 Y2 X0 hW;have XN1:=hid (HN1.out.call HX0.out);have XD1:=hid (HD1.out.call HX0.out);have XN2:=hid (HN2.out.call HX0.out);have XD2:=hid (HD2.out.call HX0.out)
  go_region_held3 (fun w'=>w'.cell? ⟨w.heap.size,0,none⟩=some (.bool m)∧w'.cell? ⟨w.heap.size,1,none⟩=some (.slice a1 k1 c1)∧w'.cell? ⟨w.heap.size,2,none⟩=some (.slice a2 k2 c2)∧w'.cell? ⟨w.heap.size+1,0,none⟩=some (.bool m)∧w'.cell? ⟨w.heap.size+1,1,none⟩=some (.slice a3 k3 c3)∧w'.cell? ⟨w.heap.size+1,2,none⟩=some (.slice a4 k4 c4))
   (first
    | exact K.out _ (Below.refl _ _).drew
    | exact K.out _ bb2.out
    | exact K.out _ bb1.out)
   (first
    | (go_at_call_of 110 (Value.slice a1 k1 c1);refine (b0i _ _ _ n1 d2 (XN1.out.call (by first | exact bb2.out | exact (Below.refl _ _).drew)) (XD2.out.call (by first | exact bb2.out | exact (Below.refl _ _).drew)) H1.out H4.out).mono ?_;rintro e w1 ⟨⟨v1,rfl,hv1⟩,hb1⟩;have bb1:=hid (a0a (by first | exact bb2.out | exact (Below.refl _ _).drew) hb1))
    | (go_at_call_of 110 (Value.slice a3 k3 c3);refine (b0i _ _ _ n2 d1 (XN2.out.call (by first | exact bb1.out | exact (Below.refl _ _).drew)) (XD1.out.call (by first | exact bb1.out | exact (Below.refl _ _).drew)) H3.out H2.out).mono ?_;rintro e w2 ⟨⟨v2,rfl,hv2⟩,hb2⟩;have bb2:=hid (a0a (by first | exact bb1.out | exact (Below.refl _ _).drew) hb2)))
  have V2:=hid hv2;have V1:=hid (hv1.call hb2);rw[HX.out]at V1;rw[HY.out]at V2;clear hv1 hv2 hb1 hb2 i0 i1 i2 i3 i4 i5;obtain⟨i0,i1,i2,i3,i4,i5⟩:=K.out _ bb2.out;go_wp2_with fail;refine (b0i _ _ _ d1 d2 (XD1.out.call bb2.out) (XD2.out.call bb2.out) H2.out H4.out).mono ?_;rintro e w3 ⟨⟨v3,rfl,hv3⟩,hb3⟩;have bb3:=hid (a0a bb2.out hb3);rw[HZ.out]at hv3;have V3:=hid hv3;have V1':=hid (V1.out.call hb3);have V2':=hid (V2.out.call hb3);clear hv3 hb3 i0 i1 i2 i3 i4 i5 V1 V2;obtain⟨i0,i1,i2,i3,i4,i5⟩:=K.out _ bb3.out;obtain⟨ja1,jc1,rfl,_⟩:=V1'.out.openI;obtain⟨ja2,jc2,rfl,_⟩:=V2'.out.openI;obtain⟨ja3,jc3,rfl,_⟩:=V3.out.openI;obtain⟨jk1,hj1⟩:∃ k,(limbs x).length=k:=⟨_,rfl⟩;obtain⟨jk2,hj2⟩:∃ k,(limbs y).length=k:=⟨_,rfl⟩;obtain⟨jk3,hj3⟩:∃ k,(limbs z).length=k:=⟨_,rfl⟩;rw[hj1]at V1' ⊢;rw[hj2]at V2' ⊢;rw[hj3]at V3 ⊢;clear hj1 hj2 hj3;go_wp2_with fail;have K2:Hid (∀ w1 x y z,Below W.heap.size W w1→∀ w',((w1.setCell ⟨w.heap.size+1+1,0,none⟩ x).setCell ⟨w.heap.size+1+1,1,none⟩ y).setCell ⟨w.heap.size+1+1,2,none⟩ z=w'→w'.cell? ⟨w.heap.size,0,none⟩=some (.bool m)∧w'.cell? ⟨w.heap.size,1,none⟩=some (.slice a1 k1 c1)∧w'.cell? ⟨w.heap.size,2,none⟩=some (.slice a2 k2 c2)∧w'.cell? ⟨w.heap.size+1,0,none⟩=some (.bool m)∧w'.cell? ⟨w.heap.size+1,1,none⟩=some (.slice a3 k3 c3)∧w'.cell? ⟨w.heap.size+1,2,none⟩=some (.slice a4 k4 c4)):=by
   rintro w1 x y z hb _ rfl;have Z0:=(((HY0.out.call hb).other (a:=⟨w.heap.size+1+1,0,none⟩) (by simp;omega) x).other (a:=⟨w.heap.size+1+1,1,none⟩) (by simp;omega) y).other (a:=⟨w.heap.size+1+1,2,none⟩) (by simp;omega) z;have Z1:=(((HY1.out.call hb).other (a:=⟨w.heap.size+1+1,0,none⟩) (by simp) x).other (a:=⟨w.heap.size+1+1,1,none⟩) (by simp) y).other (a:=⟨w.heap.size+1+1,2,none⟩) (by simp) z;exact⟨Z0.cell 0,Z0.cell 1,Z0.cell 2,Z1.cell 0,Z1.cell 1,Z1.cell 2⟩
  go_region_held3 (fun w'=>w'.cell? ⟨w.heap.size,0,none⟩=some (.bool m)∧w'.cell? ⟨w.heap.size,1,none⟩=some (.slice a1 k1 c1)∧w'.cell? ⟨w.heap.size,2,none⟩=some (.slice a2 k2 c2)∧w'.cell? ⟨w.heap.size+1,0,none⟩=some (.bool m)∧w'.cell? ⟨w.heap.size+1,1,none⟩=some (.slice a3 k3 c3)∧w'.cell? ⟨w.heap.size+1,2,none⟩=some (.slice a4 k4 c4))
   (first
    | exact K.out _ (by first | exact bb3.out.drew | exact a0i bb3.out _)
    | exact K2.out _ _ _ _ bb6.out _ rfl
    | exact K.out _ bb6.out
    | exact K.out _ bb5.out)
   (first
    | (go_at_call 72;refine (h0w _ _ _ x y (V1'.out.call (by first | exact (Below.refl _ _).drew | exact a0i (Below.refl _ _) _ | exact Below.refl _ _)) (V2'.out.call (by first | exact (Below.refl _ _).drew | exact a0i (Below.refl _ _) _ | exact Below.refl _ _)) L1.out L2.out).mono ?_;rintro e w5 ⟨⟨v5,rfl,hv5⟩,hb5⟩;have bb5:=hid (a0a (by first | exact bb3.out.drew | exact a0i bb3.out _ | exact bb3.out) hb5);have V5:=hid hv5;have Z5:=hid ((V3.out.call (Below.refl _ _).drew).call hb5))
    | (go_at_call 111;refine (c0t _ _ _ _ (x+y) z V5.out Z5.out hD.out LS.out L3.out).mono ?_;rintro e w6 ⟨⟨v6,rfl,hv6⟩,hb6⟩;obtain⟨N6,D6,rfl,hN6,hD6,fN6,fD6⟩:=hv6;have bb6:=hid (a0a bb5.out hb6);obtain⟨a5,c5,rfl,_⟩:=hN6.openI;obtain⟨a6,c6,rfl,_⟩:=hD6.openI;have HN6:=hid hN6;have HD6:=hid hD6;have Z:=hid (HY2.out.call bb6.out);have t0:=Z.out.cell 0;have t1:=Z.out.cell 1;have t2:=Z.out.cell 2;have t3:=Z.out.free 0;have t4:=Z.out.free 1;have t5:=Z.out.free 2;have FN6:=hid (fun g e=>Nat.le_trans HX0.out.size (Nat.le_trans bb5.out.size (fN6 g e)));have FD6:=hid (fun g e=>Nat.le_trans HX0.out.size (Nat.le_trans bb5.out.size (fD6 g e)));clear hN6 hD6 fN6 fD6))
  go_wp2_with fail;obtain⟨s1,s2⟩:=b0d Z.out (decide ((qmk m (x+y) z).num<0)) a5 a6 (limbs (qmk m (x+y) z).num.natAbs).length c5 (limbs (qmk m (x+y) z).den).length c6;have f0:=s2.cell 0;have f1:=s2.cell 1;have f2:=s2.cell 2;simp at f0 f1 f2;refine bodyPost_ret (v:=.agg #[.bool (decide ((qmk m (x+y) z).num<0)),.slice a5 (limbs (qmk m (x+y) z).num.natAbs).length c5,.slice a6 (limbs (qmk m (x+y) z).den).length c6]) (by simp[results,Tryz.results58,go_sem,f0,f1,f2]) rfl ⟨⟨_,rfl,⟨_,_,rfl,s1 _ _ _ HN6.out,s1 _ _ _ HD6.out,FN6.out,FD6.out⟩⟩,?_⟩;exact (((HX0.out.trans (bb6.out.mono (Nat.le_trans (Nat.le_refl _) HX0.out.size))).setCell (by simp;omega) _).setCell (by simp;omega) _).setCell (by simp;omega) _
 ·have HLT:=hid hlt;have HLE:=hid (Nat.le_of_lt hlt);clear hlt;go_enter Tryz.func58,Tryz.ntmps58;go_wp2_with fail;obtain⟨W,hW⟩:∃ W,((w.alloc (.cells #[.bool m1,.slice a1 k1 c1,.slice a2 k2 c2] 79)).alloc (.cells #[.bool m,.slice a3 k3 c3,.slice a4 k4 c4] 79)).alloc (.cells #[.bool false,.slice none 0 0,.slice none 0 0] 79)=W:=⟨_,rfl⟩;rw[hW];have X0:Below w.heap.size w W:=by rw[← hW];exact (((Below.refl _ _).alloc (Nat.le_refl _) _).alloc (by simp) _).alloc (by simp;omega) _
  have Y0:Blk W w.heap.size #[.bool m1,.slice a1 k1 c1,.slice a2 k2 c2] 79:=by rw[← hW];exact ((Blk.new w _ _).alloc _).alloc _
  have Y1:Blk W (w.heap.size+1) #[.bool m,.slice a3 k3 c3,.slice a4 k4 c4] 79:=by rw[← hW];exact (Blk.made (w.alloc _) _ _ (by simp)).alloc _
  have Y2:Blk W (w.heap.size+1+1) #[.bool false,.slice none 0 0,.slice none 0 0] 79:=by rw[← hW];exact Blk.made ((w.alloc _).alloc _) _ _ (by simp)
  have K:Hid (∀ w',Below W.heap.size W w'→w'.cell? ⟨w.heap.size,0,none⟩=some (.bool m1)∧w'.cell? ⟨w.heap.size,1,none⟩=some (.slice a1 k1 c1)∧w'.cell? ⟨w.heap.size,2,none⟩=some (.slice a2 k2 c2)∧w'.cell? ⟨w.heap.size+1,0,none⟩=some (.bool m)∧w'.cell? ⟨w.heap.size+1,1,none⟩=some (.slice a3 k3 c3)∧w'.cell? ⟨w.heap.size+1,2,none⟩=some (.slice a4 k4 c4)):=fun w' hb=>⟨(Y0.call hb).cell 0,(Y0.call hb).cell 1,(Y0.call hb).cell 2,(Y1.call hb).cell 0,(Y1.call hb).cell 1,(Y1.call hb).cell 2⟩
  have HY0:=hid Y0;have HY1:=hid Y1;have HY2:=hid Y2;have HX0:=hid X0;obtain⟨i0,i1,i2,i3,i4,i5⟩:=K W (Below.refl _ _);clear Y0 Y1 Y2 X0 hW;have XN1:=hid (HN1.out.call HX0.out);have XD1:=hid (HD1.out.call HX0.out);have XN2:=hid (HN2.out.call HX0.out);have XD2:=hid (HD2.out.call HX0.out)
  go_region_held3 (fun w'=>w'.cell? ⟨w.heap.size,0,none⟩=some (.bool m1)∧w'.cell? ⟨w.heap.size,1,none⟩=some (.slice a1 k1 c1)∧w'.cell? ⟨w.heap.size,2,none⟩=some (.slice a2 k2 c2)∧w'.cell? ⟨w.heap.size+1,0,none⟩=some (.bool m)∧w'.cell? ⟨w.heap.size+1,1,none⟩=some (.slice a3 k3 c3)∧w'.cell? ⟨w.heap.size+1,2,none⟩=some (.slice a4 k4 c4))
   (first
    | exact K.out _ (Below.refl _ _).drew
    | exact K.out _ bb2.out
    | exact K.out _ bb1.out)
   (first
    | (go_at_call_of 110 (Value.slice a1 k1 c1);refine (b0i _ _ _ n1 d2 (XN1.out.call (by first | exact bb2.out | exact (Below.refl _ _).drew)) (XD2.out.call (by first | exact bb2.out | exact (Below.refl _ _).drew)) H1.out H4.out).mono ?_;rintro e w1 ⟨⟨v1,rfl,hv1⟩,hb1⟩;have bb1:=hid (a0a (by first | exact bb2.out | exact (Below.refl _ _).drew) hb1))
    | (go_at_call_of 110 (Value.slice a3 k3 c3);refine (b0i _ _ _ n2 d1 (XN2.out.call (by first | exact bb1.out | exact (Below.refl _ _).drew)) (XD1.out.call (by first | exact bb1.out | exact (Below.refl _ _).drew)) H3.out H2.out).mono ?_;rintro e w2 ⟨⟨v2,rfl,hv2⟩,hb2⟩;have bb2:=hid (a0a (by first | exact bb1.out | exact (Below.refl _ _).drew) hb2)))
  have V2:=hid hv2;have V1:=hid (hv1.call hb2);rw[HX.out]at V1;rw[HY.out]at V2;clear hv1 hv2 hb1 hb2 i0 i1 i2 i3 i4 i5;obtain⟨i0,i1,i2,i3,i4,i5⟩:=K.out _ bb2.out;go_wp2_with fail;refine (b0i _ _ _ d1 d2 (XD1.out.call bb2.out) (XD2.out.call bb2.out) H2.out H4.out).mono ?_;rintro e w3 ⟨⟨v3,rfl,hv3⟩,hb3⟩;have bb3:=hid (a0a bb2.out hb3);rw[HZ.out]at hv3;have V3:=hid hv3;have V1':=hid (V1.out.call hb3);have V2':=hid (V2.out.call hb3);clear hv3 hb3 i0 i1 i2 i3 i4 i5 V1 V2;obtain⟨i0,i1,i2,i3,i4,i5⟩:=K.out _ bb3.out;obtain⟨ja1,jc1,rfl,_⟩:=V1'.out.openI;obtain⟨ja2,jc2,rfl,_⟩:=V2'.out.openI;obtain⟨ja3,jc3,rfl,_⟩:=V3.out.openI;obtain⟨jk1,hj1⟩:∃ k,(limbs x).length=k:=⟨_,rfl⟩;obtain⟨jk2,hj2⟩:∃ k,(limbs y).length=k:=⟨_,rfl⟩;obtain⟨jk3,hj3⟩:∃ k,(limbs z).length=k:=⟨_,rfl⟩;rw[hj1]at V1' ⊢;rw[hj2]at V2' ⊢;rw[hj3]at V3 ⊢;clear hj1 hj2 hj3;go_wp2_with fail;refine (b0n _ _ _ x y V1'.out V2'.out).mono ?_;rintro e w4 ⟨rfl,hb4⟩;have bb4:=hid (a0a bb3.out hb4);have W1:=hid (V1'.out.call hb4);have W2:=hid (V2'.out.call hb4);have W3:=hid (V3.out.call hb4);clear hb4 i0 i1 i2 i3 i4 i5;obtain⟨i0,i1,i2,i3,i4,i5⟩:=K.out _ bb4.out;rw[b0t HLT.out];go_wp2_with fail;have K2:Hid (∀ w1 x y z,Below W.heap.size W w1→∀ w',((w1.setCell ⟨w.heap.size+1+1,0,none⟩ x).setCell ⟨w.heap.size+1+1,1,none⟩ y).setCell ⟨w.heap.size+1+1,2,none⟩ z=w'→w'.cell? ⟨w.heap.size,0,none⟩=some (.bool m1)∧w'.cell? ⟨w.heap.size,1,none⟩=some (.slice a1 k1 c1)∧w'.cell? ⟨w.heap.size,2,none⟩=some (.slice a2 k2 c2)∧w'.cell? ⟨w.heap.size+1,0,none⟩=some (.bool m)∧w'.cell? ⟨w.heap.size+1,1,none⟩=some (.slice a3 k3 c3)∧w'.cell? ⟨w.heap.size+1,2,none⟩=some (.slice a4 k4 c4)):=by
   rintro w1 x y z hb _ rfl;have Z0:=(((HY0.out.call hb).other (a:=⟨w.heap.size+1+1,0,none⟩) (by simp;omega) x).other (a:=⟨w.heap.size+1+1,1,none⟩) (by simp;omega) y).other (a:=⟨w.heap.size+1+1,2,none⟩) (by simp;omega) z;have Z1:=(((HY1.out.call hb).other (a:=⟨w.heap.size+1+1,0,none⟩) (by simp) x).other (a:=⟨w.heap.size+1+1,1,none⟩) (by simp) y).other (a:=⟨w.heap.size+1+1,2,none⟩) (by simp) z;exact⟨Z0.cell 0,Z0.cell 1,Z0.cell 2,Z1.cell 0,Z1.cell 1,Z1.cell 2⟩
  go_region_held3 (fun w'=>w'.cell? ⟨w.heap.size,0,none⟩=some (.bool m1)∧w'.cell? ⟨w.heap.size,1,none⟩=some (.slice a1 k1 c1)∧w'.cell? ⟨w.heap.size,2,none⟩=some (.slice a2 k2 c2)∧w'.cell? ⟨w.heap.size+1,0,none⟩=some (.bool m)∧w'.cell? ⟨w.heap.size+1,1,none⟩=some (.slice a3 k3 c3)∧w'.cell? ⟨w.heap.size+1,2,none⟩=some (.slice a4 k4 c4))
   (first
    | exact K.out _ (by first | exact bb4.out.drew | exact a0i bb4.out _)
    | exact K2.out _ _ _ _ bb6.out _ rfl
    | exact K.out _ bb6.out
    | exact K.out _ bb5.out)
   (first
    | (go_at_call 112;refine (i0y _ _ _ y x (W2.out.call (by first | exact (Below.refl _ _).drew | exact a0i (Below.refl _ _) _ | exact Below.refl _ _)) (W1.out.call (by first | exact (Below.refl _ _).drew | exact a0i (Below.refl _ _) _ | exact Below.refl _ _)) HLE.out L2.out).mono ?_;rintro e w5 ⟨⟨v5,rfl,hv5⟩,hb5⟩;have bb5:=hid (a0a (by first | exact bb4.out.drew | exact a0i bb4.out _ | exact bb4.out) hb5);have V5:=hid hv5;have Z5:=hid ((W3.out.call (Below.refl _ _).drew).call hb5))
    | (go_at_call 111;refine (c0t _ _ _ _ (y-x) z V5.out Z5.out hD.out LS.out L3.out).mono ?_;rintro e w6 ⟨⟨v6,rfl,hv6⟩,hb6⟩;obtain⟨N6,D6,rfl,hN6,hD6,fN6,fD6⟩:=hv6;have bb6:=hid (a0a bb5.out hb6);obtain⟨a5,c5,rfl,_⟩:=hN6.openI;obtain⟨a6,c6,rfl,_⟩:=hD6.openI;have HN6:=hid hN6;have HD6:=hid hD6;have Z:=hid (HY2.out.call bb6.out);have t0:=Z.out.cell 0;have t1:=Z.out.cell 1;have t2:=Z.out.cell 2;have t3:=Z.out.free 0;have t4:=Z.out.free 1;have t5:=Z.out.free 2;have FN6:=hid (fun g e=>Nat.le_trans HX0.out.size (Nat.le_trans bb5.out.size (fN6 g e)));have FD6:=hid (fun g e=>Nat.le_trans HX0.out.size (Nat.le_trans bb5.out.size (fD6 g e)));clear hN6 hD6 fN6 fD6))
  go_wp2_with fail;obtain⟨s1,s2⟩:=b0d Z.out (decide ((qmk m (y-x) z).num<0)) a5 a6 (limbs (qmk m (y-x) z).num.natAbs).length c5 (limbs (qmk m (y-x) z).den).length c6;have f0:=s2.cell 0;have f1:=s2.cell 1;have f2:=s2.cell 2;simp at f0 f1 f2;refine bodyPost_ret (v:=.agg #[.bool (decide ((qmk m (y-x) z).num<0)),.slice a5 (limbs (qmk m (y-x) z).num.natAbs).length c5,.slice a6 (limbs (qmk m (y-x) z).den).length c6]) (by simp[results,Tryz.results58,go_sem,f0,f1,f2]) rfl ⟨⟨_,rfl,⟨_,_,rfl,s1 _ _ _ HN6.out,s1 _ _ _ HD6.out,FN6.out,FD6.out⟩⟩,?_⟩;exact (((HX0.out.trans (bb6.out.mono (Nat.le_trans (Nat.le_refl _) HX0.out.size))).setCell (by simp;omega) _).setCell (by simp;omega) _).setCell (by simp;omega) _
 ·have HLE:=hid hle;clear hle;go_enter Tryz.func58,Tryz.ntmps58;go_wp2_with fail;obtain⟨W,hW⟩:∃ W,((w.alloc (.cells #[.bool m,.slice a1 k1 c1,.slice a2 k2 c2] 79)).alloc (.cells #[.bool m2,.slice a3 k3 c3,.slice a4 k4 c4] 79)).alloc (.cells #[.bool false,.slice none 0 0,.slice none 0 0] 79)=W:=⟨_,rfl⟩;rw[hW];have X0:Below w.heap.size w W:=by rw[← hW];exact (((Below.refl _ _).alloc (Nat.le_refl _) _).alloc (by simp) _).alloc (by simp;omega) _
  have Y0:Blk W w.heap.size #[.bool m,.slice a1 k1 c1,.slice a2 k2 c2] 79:=by rw[← hW];exact ((Blk.new w _ _).alloc _).alloc _
  have Y1:Blk W (w.heap.size+1) #[.bool m2,.slice a3 k3 c3,.slice a4 k4 c4] 79:=by rw[← hW];exact (Blk.made (w.alloc _) _ _ (by simp)).alloc _
  have Y2:Blk W (w.heap.size+1+1) #[.bool false,.slice none 0 0,.slice none 0 0] 79:=by rw[← hW];exact Blk.made ((w.alloc _).alloc _) _ _ (by simp)
  have K:Hid (∀ w',Below W.heap.size W w'→w'.cell? ⟨w.heap.size,0,none⟩=some (.bool m)∧w'.cell? ⟨w.heap.size,1,none⟩=some (.slice a1 k1 c1)∧w'.cell? ⟨w.heap.size,2,none⟩=some (.slice a2 k2 c2)∧w'.cell? ⟨w.heap.size+1,0,none⟩=some (.bool m2)∧w'.cell? ⟨w.heap.size+1,1,none⟩=some (.slice a3 k3 c3)∧w'.cell? ⟨w.heap.size+1,2,none⟩=some (.slice a4 k4 c4)):=fun w' hb=>⟨(Y0.call hb).cell 0,(Y0.call hb).cell 1,(Y0.call hb).cell 2,(Y1.call hb).cell 0,(Y1.call hb).cell 1,(Y1.call hb).cell 2⟩
  have HY0:=hid Y0;have HY1:=hid Y1;have HY2:=hid Y2;have HX0:=hid X0;obtain⟨i0,i1,i2,i3,i4,i5⟩:=K W (Below.refl _ _);clear Y0 Y1 Y2 X0 hW;have XN1:=hid (HN1.out.call HX0.out);have XD1:=hid (HD1.out.call HX0.out);have XN2:=hid (HN2.out.call HX0.out);have XD2:=hid (HD2.out.call HX0.out)
  go_region_held3 (fun w'=>w'.cell? ⟨w.heap.size,0,none⟩=some (.bool m)∧w'.cell? ⟨w.heap.size,1,none⟩=some (.slice a1 k1 c1)∧w'.cell? ⟨w.heap.size,2,none⟩=some (.slice a2 k2 c2)∧w'.cell? ⟨w.heap.size+1,0,none⟩=some (.bool m2)∧w'.cell? ⟨w.heap.size+1,1,none⟩=some (.slice a3 k3 c3)∧w'.cell? ⟨w.heap.size+1,2,none⟩=some (.slice a4 k4 c4))
   (first
    | exact K.out _ (Below.refl _ _).drew
    | exact K.out _ bb2.out
    | exact K.out _ bb1.out)
   (first
    | (go_at_call_of 110 (Value.slice a1 k1 c1);refine (b0i _ _ _ n1 d2 (XN1.out.call (by first | exact bb2.out | exact (Below.refl _ _).drew)) (XD2.out.call (by first | exact bb2.out | exact (Below.refl _ _).drew)) H1.out H4.out).mono ?_;rintro e w1 ⟨⟨v1,rfl,hv1⟩,hb1⟩;have bb1:=hid (a0a (by first | exact bb2.out | exact (Below.refl _ _).drew) hb1))
    | (go_at_call_of 110 (Value.slice a3 k3 c3);refine (b0i _ _ _ n2 d1 (XN2.out.call (by first | exact bb1.out | exact (Below.refl _ _).drew)) (XD1.out.call (by first | exact bb1.out | exact (Below.refl _ _).drew)) H3.out H2.out).mono ?_;rintro e w2 ⟨⟨v2,rfl,hv2⟩,hb2⟩;have bb2:=hid (a0a (by first | exact bb1.out | exact (Below.refl _ _).drew) hb2)))
  have V2:=hid hv2;have V1:=hid (hv1.call hb2);rw[HX.out]at V1;rw[HY.out]at V2;clear hv1 hv2 hb1 hb2 i0 i1 i2 i3 i4 i5;obtain⟨i0,i1,i2,i3,i4,i5⟩:=K.out _ bb2.out;go_wp2_with fail;refine (b0i _ _ _ d1 d2 (XD1.out.call bb2.out) (XD2.out.call bb2.out) H2.out H4.out).mono ?_;rintro e w3 ⟨⟨v3,rfl,hv3⟩,hb3⟩;have bb3:=hid (a0a bb2.out hb3);rw[HZ.out]at hv3;have V3:=hid hv3;have V1':=hid (V1.out.call hb3);have V2':=hid (V2.out.call hb3);clear hv3 hb3 i0 i1 i2 i3 i4 i5 V1 V2;obtain⟨i0,i1,i2,i3,i4,i5⟩:=K.out _ bb3.out;obtain⟨ja1,jc1,rfl,_⟩:=V1'.out.openI;obtain⟨ja2,jc2,rfl,_⟩:=V2'.out.openI;obtain⟨ja3,jc3,rfl,_⟩:=V3.out.openI;obtain⟨jk1,hj1⟩:∃ k,(limbs x).length=k:=⟨_,rfl⟩;obtain⟨jk2,hj2⟩:∃ k,(limbs y).length=k:=⟨_,rfl⟩;obtain⟨jk3,hj3⟩:∃ k,(limbs z).length=k:=⟨_,rfl⟩;rw[hj1]at V1' ⊢;rw[hj2]at V2' ⊢;rw[hj3]at V3 ⊢;clear hj1 hj2 hj3;go_wp2_with fail;refine (b0n _ _ _ x y V1'.out V2'.out).mono ?_;rintro e w4 ⟨rfl,hb4⟩;have bb4:=hid (a0a bb3.out hb4);have W1:=hid (V1'.out.call hb4);have W2:=hid (V2'.out.call hb4);have W3:=hid (V3.out.call hb4);clear hb4 i0 i1 i2 i3 i4 i5;obtain⟨i0,i1,i2,i3,i4,i5⟩:=K.out _ bb4.out;obtain⟨t,ht⟩:∃ t,b0e x y=t:=⟨_,rfl⟩;have q7:decide (t<0)=false:=by rw[← ht];exact r0c HLE.out
  rw[ht];clear ht;go_wp2_with fail;have K2:Hid (∀ w1 x y z,Below W.heap.size W w1→∀ w',((w1.setCell ⟨w.heap.size+1+1,0,none⟩ x).setCell ⟨w.heap.size+1+1,1,none⟩ y).setCell ⟨w.heap.size+1+1,2,none⟩ z=w'→w'.cell? ⟨w.heap.size,0,none⟩=some (.bool m)∧w'.cell? ⟨w.heap.size,1,none⟩=some (.slice a1 k1 c1)∧w'.cell? ⟨w.heap.size,2,none⟩=some (.slice a2 k2 c2)∧w'.cell? ⟨w.heap.size+1,0,none⟩=some (.bool m2)∧w'.cell? ⟨w.heap.size+1,1,none⟩=some (.slice a3 k3 c3)∧w'.cell? ⟨w.heap.size+1,2,none⟩=some (.slice a4 k4 c4)):=by
   rintro w1 x y z hb _ rfl;have Z0:=(((HY0.out.call hb).other (a:=⟨w.heap.size+1+1,0,none⟩) (by simp;omega) x).other (a:=⟨w.heap.size+1+1,1,none⟩) (by simp;omega) y).other (a:=⟨w.heap.size+1+1,2,none⟩) (by simp;omega) z;have Z1:=(((HY1.out.call hb).other (a:=⟨w.heap.size+1+1,0,none⟩) (by simp) x).other (a:=⟨w.heap.size+1+1,1,none⟩) (by simp) y).other (a:=⟨w.heap.size+1+1,2,none⟩) (by simp) z;exact⟨Z0.cell 0,Z0.cell 1,Z0.cell 2,Z1.cell 0,Z1.cell 1,Z1.cell 2⟩
  go_region_held3 (fun w'=>w'.cell? ⟨w.heap.size,0,none⟩=some (.bool m)∧w'.cell? ⟨w.heap.size,1,none⟩=some (.slice a1 k1 c1)∧w'.cell? ⟨w.heap.size,2,none⟩=some (.slice a2 k2 c2)∧w'.cell? ⟨w.heap.size+1,0,none⟩=some (.bool m2)∧w'.cell? ⟨w.heap.size+1,1,none⟩=some (.slice a3 k3 c3)∧w'.cell? ⟨w.heap.size+1,2,none⟩=some (.slice a4 k4 c4))
   (first
    | exact K.out _ (by first | exact bb4.out.drew | exact a0i bb4.out _)
    | exact K2.out _ _ _ _ bb6.out _ rfl
    | exact K.out _ bb6.out
    | exact K.out _ bb5.out)
   (first
    | (go_at_call 112;refine (i0y _ _ _ x y (W1.out.call (by first | exact (Below.refl _ _).drew | exact a0i (Below.refl _ _) _ | exact Below.refl _ _)) (W2.out.call (by first | exact (Below.refl _ _).drew | exact a0i (Below.refl _ _) _ | exact Below.refl _ _)) HLE.out L1.out).mono ?_;rintro e w5 ⟨⟨v5,rfl,hv5⟩,hb5⟩;have bb5:=hid (a0a (by first | exact bb4.out.drew | exact a0i bb4.out _ | exact bb4.out) hb5);have V5:=hid hv5;have Z5:=hid ((W3.out.call (Below.refl _ _).drew).call hb5))
    | (go_at_call 111;refine (c0t _ _ _ _ (x-y) z V5.out Z5.out hD.out LS.out L3.out).mono ?_;rintro e w6 ⟨⟨v6,rfl,hv6⟩,hb6⟩;obtain⟨N6,D6,rfl,hN6,hD6,fN6,fD6⟩:=hv6;have bb6:=hid (a0a bb5.out hb6);obtain⟨a5,c5,rfl,_⟩:=hN6.openI;obtain⟨a6,c6,rfl,_⟩:=hD6.openI;have HN6:=hid hN6;have HD6:=hid hD6;have Z:=hid (HY2.out.call bb6.out);have t0:=Z.out.cell 0;have t1:=Z.out.cell 1;have t2:=Z.out.cell 2;have t3:=Z.out.free 0;have t4:=Z.out.free 1;have t5:=Z.out.free 2;have FN6:=hid (fun g e=>Nat.le_trans HX0.out.size (Nat.le_trans bb5.out.size (fN6 g e)));have FD6:=hid (fun g e=>Nat.le_trans HX0.out.size (Nat.le_trans bb5.out.size (fD6 g e)));clear hN6 hD6 fN6 fD6))
  go_wp2_with fail;obtain⟨s1,s2⟩:=b0d Z.out (decide ((qmk m (x-y) z).num<0)) a5 a6 (limbs (qmk m (x-y) z).num.natAbs).length c5 (limbs (qmk m (x-y) z).den).length c6;have f0:=s2.cell 0;have f1:=s2.cell 1;have f2:=s2.cell 2;simp at f0 f1 f2;refine bodyPost_ret (v:=.agg #[.bool (decide ((qmk m (x-y) z).num<0)),.slice a5 (limbs (qmk m (x-y) z).num.natAbs).length c5,.slice a6 (limbs (qmk m (x-y) z).den).length c6]) (by simp[results,Tryz.results58,go_sem,f0,f1,f2]) rfl ⟨⟨_,rfl,⟨_,_,rfl,s1 _ _ _ HN6.out,s1 _ _ _ HD6.out,FN6.out,FD6.out⟩⟩,?_⟩;exact (((HX0.out.trans (bb6.out.mono (Nat.le_trans (Nat.le_refl _) HX0.out.size))).setCell (by simp;omega) _).setCell (by simp;omega) _).setCell (by simp;omega) _
theorem i0v (w:World)(v u:Value)(p q:Rat)(hp:IsQ .i64 w v p)(hq:IsQ .i64 w u q)
 (h1:(limbs p.num.natAbs).length≤100000) (h2:(limbs p.den).length≤100000) (h3:(limbs q.num.natAbs).length≤100000) (h4:(limbs q.den).length≤100000):
 Calls Tryz.prog 58 #[v,u] w fun e w'=>RetQF w.heap.size (p+q) e w'∧Below w.heap.size w w':=by
 obtain⟨N1,D1,rfl,hn1,hd1⟩:=hp.ex;obtain⟨N2,D2,rfl,hn2,hd2⟩:=hq.ex;have he:=k0P p q;have hw:=fun m s key=>g0y w (decide (p.num<0)) (decide (q.num<0)) m N1 D1 N2 D2 _ _ _ _ s hn1 hd1 hn2 hd2 h1 h2 h3 h4 p.den_pos q.den_pos key
 rw[he];generalize decide (p.num<0)=m1 at *
 generalize decide (q.num<0)=m2 at *
 by_cases hm:m1=m2
 ·subst hm;rw[i0l];exact hw m1 _ (.inl ⟨rfl,rfl,rfl⟩)
 ·have hm':(m1==m2)=false:=by simpa using hm
  rcases Nat.lt_or_ge (p.num.natAbs*q.den) (q.num.natAbs*p.den) with hl | hl
  ·rw[i0o hm hl];exact hw m2 _ (.inr (.inl ⟨hm',hl,rfl,rfl⟩))
  ·rw[i0n hm hl];exact hw m1 _ (.inr (.inr ⟨hm',hl,rfl,rfl⟩))
theorem p0f (w:World)(v u:Value)(p q:Rat)(hp:IsQ .i64 w v p)(hq:IsQ .i64 w u q)
 (h1:(limbs p.num.natAbs).length≤100000) (h2:(limbs p.den).length≤100000) (h3:(limbs q.num.natAbs).length≤100000) (h4:(limbs q.den).length≤100000):
 Calls Tryz.prog 58 #[v,u] w fun e w'=>d0Q .i64 (p+q) e w'∧Below w.heap.size w w':=
 (i0v w v u p q hp hq h1 h2 h3 h4).mono fun _ _ h=>⟨h.1.ret,h.2⟩
end Go.Proofs.YtlimaehdmcnjaaaGreatDoor
