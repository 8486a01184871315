/- Texts that the proof rests on, merged: R2c, R2o, KoA, Own1, So0, Qb, Held, Held2, Ro0, R1o, R3a, R4s, Pk0, ArrP, L5, L8, L9, L10, Pk1, Pk2, Pk4, L11, Fr1, Fr3, Pl2, KoO. -/
import Derived.Test.YtlimaehdmcnjaaaGreatDoorMg4
import Derived.Deep.RegionHeld3
import Derived.Deep.AppendLies
import Derived.RangeFuncBox
import Derived.Scope
import Derived.Laws.Concat
import Derived.IntWalk
import Derived.Deep.DeepCutAuto
import Derived.Deep.CutBlock
import Derived.WalkSmall
set_option linter.unusedVariables false
set_option linter.unusedSimpArgs false
set_option linter.unusedSectionVars false
set_option maxRecDepth 100000
set_option maxHeartbeats 8000000
namespace Go.Proofs.YtlimaehdmcnjaaaGreatDoor
open Go.RowKit
theorem n0c (w:World)(v u:Value)(p q:Rat)(hp:IsQ .i64 w v p)(hq:IsQ .i64 w u q)
 (h1:(limbs p.num.natAbs).length≤100000) (h2:(limbs p.den).length≤100000) (h3:(limbs q.num.natAbs).length≤100000) (h4:(limbs q.den).length≤100000):
 Calls Tryz.prog 105 #[v,u] w fun e w'=>d0Q .i64 (p*q) e w'∧Below w.heap.size w w':=by
 have HQ:=hid (h0y p q);rw[← HQ.out];have hD:=hid (Nat.mul_pos p.den_pos q.den_pos);obtain⟨N1,D1,rfl,hn1,hd1⟩:=hp.ex;obtain⟨N2,D2,rfl,hn2,hd2⟩:=hq.ex;clear hp hq HQ;generalize decide (p.num<0)=m1 at *
 generalize decide (q.num<0)=m2 at *
 generalize p.num.natAbs=n1 at *
 generalize q.num.natAbs=n2 at *
 generalize p.den=d1 at *
 generalize q.den=d2 at *
 have HN1:=hid hn1;have HD1:=hid hd1;have HN2:=hid hn2;have HD2:=hid hd2;have L1:=hid (Nat.le_trans (b0E h1 h3) (show 100000+100000≤1000000 by omega));have L2:=hid (Nat.le_trans (b0E h2 h4) (show 100000+100000≤1000000 by omega));have H1:=hid (Nat.le_trans h1 (show 100000≤1000000 by omega));have H2:=hid (Nat.le_trans h2 (show 100000≤1000000 by omega));have H3:=hid (Nat.le_trans h3 (show 100000≤1000000 by omega));have H4:=hid (Nat.le_trans h4 (show 100000≤1000000 by omega));clear h1 h2 h3 h4;obtain⟨a1,c1,rfl,_⟩:=hn1.openI;obtain⟨a2,c2,rfl,_⟩:=hd1.openI;obtain⟨a3,c3,rfl,_⟩:=hn2.openI;obtain⟨a4,c4,rfl,_⟩:=hd2.openI;clear hn1 hd1 hn2 hd2;go_enter Tryz.func105,Tryz.ntmps105;go_wp2_with fail;obtain⟨W,hW⟩:∃ W,((w.alloc (.cells #[.bool m1,.slice a1 (limbs n1).length c1,.slice a2 (limbs d1).length c2] 79)).alloc (.cells #[.bool m2,.slice a3 (limbs n2).length c3,.slice a4 (limbs d2).length c4] 79)).alloc (.cells #[.bool false,.slice none 0 0,.slice none 0 0] 79)=W:=⟨_,rfl⟩;rw[hW];have X0:Below w.heap.size w W:=by rw[← hW];exact (((Below.refl _ _).alloc (Nat.le_refl _) _).alloc (by simp) _).alloc (by simp;omega) _
 have Y0:Blk W w.heap.size #[.bool m1,.slice a1 (limbs n1).length c1,.slice a2 (limbs d1).length c2] 79:=by rw[← hW];exact ((Blk.new w _ _).alloc _).alloc _
 have Y1:Blk W (w.heap.size+1) #[.bool m2,.slice a3 (limbs n2).length c3,.slice a4 (limbs d2).length c4] 79:=by rw[← hW];exact (Blk.made (w.alloc _) _ _ (by simp)).alloc _
 have Y2:Blk W (w.heap.size+1+1) #[.bool false,.slice none 0 0,.slice none 0 0] 79:=by rw[← hW];exact Blk.made ((w.alloc _).alloc _) _ _ (by simp)
 have K0:∀ w',Blk w' w.heap.size #[.bool m1,.slice a1 (limbs n1).length c1,.slice a2 (limbs d1).length c2] 79→Blk w' (w.heap.size+1) #[.bool m2,.slice a3 (limbs n2).length c3,.slice a4 (limbs d2).length c4] 79 →
  w'.cell? ⟨w.heap.size,0,none⟩=some (.bool m1)∧w'.cell? ⟨w.heap.size,1,none⟩=some (.slice a1 (limbs n1).length c1)∧w'.cell? ⟨w.heap.size,2,none⟩=some (.slice a2 (limbs d1).length c2) ∧
  w'.cell? ⟨w.heap.size+1,0,none⟩=some (.bool m2)∧w'.cell? ⟨w.heap.size+1,1,none⟩=some (.slice a3 (limbs n2).length c3)∧w'.cell? ⟨w.heap.size+1,2,none⟩=some (.slice a4 (limbs d2).length c4):=
  fun w' y0 y1=>⟨y0.cell 0,y0.cell 1,y0.cell 2,y1.cell 0,y1.cell 1,y1.cell 2⟩
 have K:Hid (∀ w',Below W.heap.size W w'→w'.cell? ⟨w.heap.size,0,none⟩=some (.bool m1)∧w'.cell? ⟨w.heap.size,1,none⟩=some (.slice a1 (limbs n1).length c1)∧w'.cell? ⟨w.heap.size,2,none⟩=some (.slice a2 (limbs d1).length c2) ∧
  w'.cell? ⟨w.heap.size+1,0,none⟩=some (.bool m2)∧w'.cell? ⟨w.heap.size+1,1,none⟩=some (.slice a3 (limbs n2).length c3)∧w'.cell? ⟨w.heap.size+1,2,none⟩=some (.slice a4 (limbs d2).length c4)):=fun w' hb=>K0 w' (Y0.call hb) (Y1.call hb)
 have K2:Hid (∀ w1 x y z,Below W.heap.size W w1→∀ w',((w1.setCell ⟨w.heap.size+1+1,0,none⟩ x).setCell ⟨w.heap.size+1+1,1,none⟩ y).setCell ⟨w.heap.size+1+1,2,none⟩ z=w'→w'.cell? ⟨w.heap.size,0,none⟩=some (.bool m1)∧w'.cell? ⟨w.heap.size,1,none⟩=some (.slice a1 (limbs n1).length c1)∧w'.cell? ⟨w.heap.size,2,none⟩=some (.slice a2 (limbs d1).length c2) ∧
  w'.cell? ⟨w.heap.size+1,0,none⟩=some (.bool m2)∧w'.cell? ⟨w.heap.size+1,1,none⟩=some (.slice a3 (limbs n2).length c3)∧w'.cell? ⟨w.heap.size+1,2,none⟩=some (.slice a4 (limbs d2).length c4)):=by
  rintro w1 x y z hb _ rfl;exact K0 _ ((((Y0.call hb).other (by simp;omega) _).other (by simp;omega) _).other (by simp;omega) _) ((((Y1.call hb).other (by simp) _).other (by simp) _).other (by simp) _)
 have HY2:=hid Y2;have HX0:=hid X0;obtain⟨k0,k1,k2,k3,k4,k5⟩:=K W (Below.refl _ _);clear K0;clear Y0 Y1 Y2 X0 hW;have XN1:=hid (HN1.out.call HX0.out);have XD1:=hid (HD1.out.call HX0.out);have XN2:=hid (HN2.out.call HX0.out);have XD2:=hid (HD2.out.call HX0.out)
 go_region_held3 (fun w'=>w'.cell? ⟨w.heap.size,0,none⟩=some (.bool m1)∧w'.cell? ⟨w.heap.size,1,none⟩=some (.slice a1 (limbs n1).length c1)∧w'.cell? ⟨w.heap.size,2,none⟩=some (.slice a2 (limbs d1).length c2) ∧
  w'.cell? ⟨w.heap.size+1,0,none⟩=some (.bool m2)∧w'.cell? ⟨w.heap.size+1,1,none⟩=some (.slice a3 (limbs n2).length c3)∧w'.cell? ⟨w.heap.size+1,2,none⟩=some (.slice a4 (limbs d2).length c4))
  (first
   | exact K.out _ (Below.refl _ _).drew
   | exact K2.out _ _ _ _ B3.out _ rfl
   | exact K.out _ B3.out
   | exact K.out _ B2.out
   | exact K.out _ B1.out)
  (first
   | (go_at_call_of 110 (Value.slice a1 (limbs n1).length c1);refine (b0i _ _ _ n1 n2 (XN1.out.call (by first | exact B2.out | exact (Below.refl _ _).drew)) (XN2.out.call (by first | exact B2.out | exact (Below.refl _ _).drew)) H1.out H3.out).mono ?_;rintro e w1 ⟨⟨v1,rfl,hv1⟩,hb1⟩;have B1:=hid (a0a (by first | exact B2.out | exact (Below.refl _ _).drew) hb1))
   | (go_at_call_of 110 (Value.slice a2 (limbs d1).length c2);refine (b0i _ _ _ d1 d2 (XD1.out.call (by first | exact B1.out | exact (Below.refl _ _).drew)) (XD2.out.call (by first | exact B1.out | exact (Below.refl _ _).drew)) H2.out H4.out).mono ?_;rintro e w2 ⟨⟨v2,rfl,hv2⟩,hb2⟩;have B2:=hid (a0a (by first | exact B1.out | exact (Below.refl _ _).drew) hb2))
   | (go_at_call 111;refine (k0H _ _ _ _ (n1*n2) (d1*d2) (by first | exact hv1 | exact hv1.call hb2) (by first | exact hv2 | exact hv2.call hb1) hD.out L1.out L2.out).mono ?_;rintro e w3 ⟨⟨v3,rfl,hv3⟩,hb3⟩;obtain⟨N3,D3,rfl,hN3,hD3⟩:=hv3.ex;have B3:=hid (a0a (by first | exact B2.out | exact B1.out) hb3);obtain⟨a5,c5,rfl,_⟩:=hN3.openI;obtain⟨a6,c6,rfl,_⟩:=hD3.openI;have HN3:=hid hN3;have HD3:=hid hD3;have Z:=hid (HY2.out.call B3.out);have t0:=Z.out.cell 0;have t1:=Z.out.cell 1;have t2:=Z.out.cell 2;have t3:=Z.out.free 0;have t4:=Z.out.free 1;have t5:=Z.out.free 2;clear hv3 hN3 hD3))
 have hbn:(!(m1==m2))=(m1 != m2):=rfl;rw[hbn]at *;go_wp2_with fail;obtain⟨s1,s2⟩:=b0d Z.out (decide ((qmk (m1 != m2) (n1*n2) (d1*d2)).num<0)) a5 a6 (limbs (qmk (m1 != m2) (n1*n2) (d1*d2)).num.natAbs).length c5 (limbs (qmk (m1 != m2) (n1*n2) (d1*d2)).den).length c6;have f0:=s2.cell 0;have f1:=s2.cell 1;have f2:=s2.cell 2;simp at f0 f1 f2;refine bodyPost_ret (v:=.agg #[.bool (decide ((qmk (m1 != m2) (n1*n2) (d1*d2)).num<0)),.slice a5 (limbs (qmk (m1 != m2) (n1*n2) (d1*d2)).num.natAbs).length c5,.slice a6 (limbs (qmk (m1 != m2) (n1*n2) (d1*d2)).den).length c6]) (by simp[results,Tryz.results105,go_sem,f0,f1,f2]) rfl ⟨⟨_,rfl,⟨_,_,rfl,s1 _ _ _ HN3.out,s1 _ _ _ HD3.out⟩⟩,?_⟩;exact (((HX0.out.trans (B3.out.mono (Nat.le_trans (Nat.le_refl _) HX0.out.size))).setCell (by simp;omega) _).setCell (by simp;omega) _).setCell (by simp;omega) _
open Go.Lib (decDigits nDigits)
def Qv (v:Value):Prop:=∃ (m:Bool) (a:Option Addr) (n c:Nat) (a':Option Addr) (n' c':Nat),v=.agg #[.bool m,.slice a n c,.slice a' n' c']
theorem IsQ.qv {k:IntKind}{w:World}{v:Value}{q:Rat}(h:IsQ k w v q):Qv v:=by
 obtain⟨N,D,rfl,h1,h2⟩:=h.ex;obtain⟨a1,c1,rfl,_⟩:=h1.openI;obtain⟨a2,c2,rfl,_⟩:=h2.openI;exact⟨_,_,_,_,_,_,_,rfl⟩
theorem RetQE.open {s:ByteArray}{e:Ending}{w':World}(h:RetQE s e w'):∃ (m:Bool) (a:Option Addr) (n c:Nat) (a':Option Addr) (n' c':Nat),e=.returned (.tuple #[.agg #[.bool m,.slice a n c,.slice a' n' c'],.int .i64 (qE s)])∧(qE s=0→IsQ .i64 w' (.agg #[.bool m,.slice a n c,.slice a' n' c']) (vQ s))∧(qE s≠0→m=false∧a=none∧n=0∧c=0∧a'=none∧n'=0∧c'=0):=by
 obtain⟨v,rfl,h1,h2⟩:=h;by_cases h0:qE s=0
 ·obtain⟨m,a,n,c,a',n',c',rfl⟩:=(h1 h0).qv;exact⟨m,a,n,c,a',n',c',rfl,h1,fun h=>absurd h0 h⟩
 ·obtain rfl:=h2 h0;exact⟨_,_,_,_,_,_,_,rfl,h1,fun _=>⟨rfl,rfl,rfl,rfl,rfl,rfl,rfl⟩⟩
theorem r0A {q:Rat}{K:Nat}(h1:nDigits q.num.natAbs≤K)(h2:nDigits q.den≤K):Dig K q:=
 ⟨Nat.lt_of_lt_of_le (Go.Lib.lt_pow_nDigits _) (Nat.pow_le_pow_right (by omega) h1),Nat.lt_of_lt_of_le (Go.Lib.lt_pow_nDigits _) (Nat.pow_le_pow_right (by omega) h2)⟩
theorem c0T {q:Rat}(h:¬ ovQ q):Dig 4000 q:=by
 unfold ovQ at h;exact r0A (by omega) (by omega)
theorem Dig.limbs {K L:Nat}{q:Rat}(h:Dig K q)(h0:0<K)(hl:K≤9*L):(limbs q.num.natAbs).length≤L∧(limbs q.den).length≤L:=
 ⟨c0j (Nat.le_trans (a0q h0 h.n) hl),c0j (Nat.le_trans (a0q h0 h.d) hl)⟩
def s0s (F:Nat)(f:Rat→Rat→Rat):Prop:=∀ (w:World) (v u:Value) (p q:Rat),IsQ .i64 w v p→IsQ .i64 w u q→Dig 4000 p→Dig 4000 q →
 Calls Tryz.prog F #[v,u] w fun e w'=>d0Q .i64 (f p q) e w'∧Below w.heap.size w w'
theorem h0E:s0s 58 (· + ·):=fun w v u p q hp hq h1 h2=>by
 have l1:=h1.limbs (L:=100000) (by omega) (by omega);have l2:=h2.limbs (L:=100000) (by omega) (by omega);exact p0f w v u p q hp hq l1.1 l1.2 l2.1 l2.2
theorem n0q:s0s 105 (· * ·):=fun w v u p q hp hq h1 h2=>by
 have l1:=h1.limbs (L:=100000) (by omega) (by omega);have l2:=h2.limbs (L:=100000) (by omega) (by omega);exact n0c w v u p q hp hq l1.1 l1.2 l2.1 l2.2
end Go.Proofs.YtlimaehdmcnjaaaGreatDoor
namespace Go.Proofs.YtlimaehdmcnjaaaGreatDoor
open Go.RowKit
theorem c0E {P:Program}(w:World)(base:Nat)(t ty e:TypeId)(i:TypeInfo)(z:Value)(size bytes:Nat)(ht:P.underlying t=some (.slice e))(hi:P.info? e=some i)(hz:i.zero=some z)
 (hsize:i.size=size) (hby:i.bytes=bytes) (hzs:z.cells.size=size) (hsz:0<size)
 (v:Value) (n:Nat) (xs:List Value) (hown:w.ownsRow base e size v n xs) (hv:v ≠ .slice none 0 0)
 (ao:Option Addr) (m c:Nat) (news:List Value) (hl:news.length=m*size) (hnews:∀ j u,news[j]?=some u→∃ ad,ao=some ad∧w.cell? (ad.add j)=some u) (h1:∀ u∈news,u.oneCell'=true)
 (h63:n+m≤maxLen) (hbytes:(n+m)*bytes≤140737488355328) (hbase:base≤w.heap.size):
 ∃ v' w',(Builtin.append_ #[t,t] ty #[v,.slice ao m c]).run P w=.ok v' w'∧w'.ownsRow base e size v' (n+m) (xs++news)∧w.grownBy w' v.ownBlock∧v' ≠ .slice none 0 0:=by
 cases ao with
 | some ad=>
  obtain⟨v',w',hr,k1,k2,k3,-⟩:=run_append_own_at (P:=P) w base t ty e i z size bytes ht hi hz hsize hby hzs hsz v n xs hown ad m c news hl (fun j u hu=>by obtain⟨ad',e',hc⟩:=hnews j u hu;cases e';exact hc) h1 h63 hbytes hbase;exact⟨v',w',hr,k1,k2,fun e=>hv (k3.1 e).1⟩
 | none=>
  have hn:news = []:=by
   cases news with
   | nil=>rfl
   | cons u r=>obtain⟨ad,e,_⟩:=hnews 0 u rfl;cases e
  subst hn;have hm:m=0:=by
   rcases Nat.eq_zero_or_pos m with h | h
   ·exact h
   ·have:=Nat.mul_pos h hsz;simp at hl;omega
  subst hm;refine⟨v,w,?_,by simpa using hown,⟨rfl,rfl,rfl,Nat.le_refl _,fun _ _ _=>rfl⟩,hv⟩;rcases hown.2 with ⟨e,_⟩ | ⟨g,cap,cur,rfl,hb,hg,h1',h2',h3',h4'⟩
  ·exact absurd e hv
  ·simp[Builtin.append_,run_underlying ht,sizeOf,typeInfo,hi,Builtin.lenOf,Builtin.firstCells,loadCells,loadCellsFrom,storeCells,h1']
theorem d0u {P:Program}{w:World}{ops:Array Oper}{rest:List Oper}{o:Oper}{a:Act}{Q:Exit→Act→World→Prop}(hgd:o.guard=none)(s x:Operand)(t:TypeId)
 (ho:o.op=.call { callee:=.builtin .append,args:=#[s,x],argTypes:=#[t,t] })
 (base:Nat) (e:TypeId) (i:TypeInfo) (z:Value) (size bytes:Nat) (ht:P.underlying t=some (.slice e)) (hi:P.info? e=some i) (hz:i.zero=some z)
 (hsize:i.size=size) (hby:i.bytes=bytes) (hzs:z.cells.size=size) (hsz:0<size)
 (v:Value) (n:Nat) (xs:List Value) (hs:a.eval s=v) (hown:w.ownsRow base e size v n xs) (hv:v ≠ .slice none 0 0)
 (ao:Option Addr) (m c:Nat) (news:List Value) (hx:a.eval x=.slice ao m c) (hl:news.length=m*size) (hnews:∀ j u,news[j]?=some u→∃ ad,ao=some ad∧w.cell? (ad.add j)=some u) (h1:∀ u∈news,u.oneCell'=true)
 (h63:n+m≤maxLen) (hbytes:(n+m)*bytes≤140737488355328) (hbase:base≤w.heap.size)
 (h:∀ v' w',w'.ownsRow base e size v' (n+m) (xs++news)→w.grownBy w' v.ownBlock→v' ≠ .slice none 0 0→wpList P ops Q rest (a.put o.dst v') w'):
 wpList P ops Q (o::rest) a w:=by
 refine wpList_plain hgd fun K hK=>?_
 obtain⟨v',w',hr,h2,h3,h4⟩:=c0E (P:=P) w base t o.type e i z size bytes ht hi hz hsize hby hzs hsz v n xs hown hv ao m c news hl hnews h1 h63 hbytes hbase;unfold Oper.wp execOp;simp only[ho,resolve,invoke,builtin,Sem.run_bind,Sem.run_pure,Result.andThen_ok,List.map_toArray,List.map_cons,List.map_nil,hs,hx,hr];exact hK _ _ (h v' w' h2 h3 h4)
theorem b0W {w W w3:World}{t:TypeId}{z:Nat}{v:Value}{m:Nat}{vs:List Value}(h:W.ownsRow w.heap.size t z v m vs)(h0:Below w.heap.size w W)(hg:W.grownBy w3 v.ownBlock):Below w.heap.size w w3:=by
 refine h0.trans ⟨hg.os,hg.tape,hg.output,hg.size,fun j hj=>hg.block j (Nat.lt_of_lt_of_le hj h0.size) fun e=>?_⟩;have:=(h.lt j e.symm).1;omega
attribute [local go_sem] Oper.semAt_some
theorem h0B {W:World}{base:Nat}{e:TypeId}{g n cap:Nat}{xs:List Value}(h:W.ownsRow base e 1 (.slice (some ⟨g,0,none⟩) n cap) n xs)(i:Nat)(x:Value):(W.setCell ⟨g,i,none⟩ x).ownsRow base e 1 (.slice (some ⟨g,0,none⟩) n cap) n (xs.set i x):=by
 rcases h.2 with ⟨e1,_⟩ | ⟨g',cap',cur,e1,hb,hg,h1,h2,h3,h4⟩
 ·simp at e1
 ·simp at e1;obtain⟨rfl,rfl⟩:=e1;refine⟨by rw[List.length_set];exact h.1,.inr ⟨g,cap,cur.setIfInBounds i x,rfl,hb,Blk.set hg i x,h1,h2,by simpa using h3,?_⟩⟩;rw[Array.toList_setIfInBounds,List.take_set,h4]
theorem n0n {W:World}{base:Nat}{e:TypeId}{g n cap:Nat}{xs:List Value}(h:W.ownsRow base e 1 (.slice (some ⟨g,0,none⟩) n cap) n xs):base≤g∧g<W.heap.size∧(∀ i,W.frozen? ⟨g,i,none⟩=false)∧(∀ (i:Nat) (x:Value),xs[i]?=some x→W.cell? ⟨g,i,none⟩=some x)∧cap≤9223372036854775807∧n≤cap∧∀ (t:TypeId) (cs:Array Value) (b:Nat),t≠e→Blk W b cs t→b≠g:=by
 have hh:=h;rcases h.2 with ⟨e1,_⟩ | ⟨g',cap',cur,e1,hb,hg,h1,h2,h3,h4⟩
 ·simp at e1
 ·simp at e1;obtain⟨rfl,rfl⟩:=e1;refine⟨hb,(Array.getElem?_eq_some_iff.1 hg).1,fun i=>Blk.free hg i,fun i x hx=>?_,by unfold maxLen at h2;omega,h1,?_⟩
  ·have:=hh.cells rfl i x hx;rw[Addr.add_lit,Nat.zero_add]at this;exact this
  ·rintro t cs b ht hB rfl;have:=(show W.heap[b]? = _ from hB).symm.trans hg;simp at this;exact ht this.2
open Go.Shelf
open Go.Lib (decDigits nDigits)
theorem e0F:(Tryz.prog.info? 57).map (fun i=>(i.zero,i.size,i.bytes))=some (some (.agg #[.bool false,.slice none 0 0,.slice none 0 0]),3,56):=by kernel_rfl
theorem i0C:NoKL .u64 (Value.cells (.agg #[.bool false,.slice none 0 0,.slice none 0 0])).toList:=by intro x hx;simp[Value.cells]at hx
theorem s0r (m:Bool)(a b:Option Addr)(n p n' p':Nat):NoKL .u64 [[Value.bool m,.slice a n p,.slice b n' p']].flatten:=by intro x hx;simp at hx
theorem r0d (m:Bool)(a b:Option Addr)(n p n' p':Nat):∀ u ∈ [[Value.bool m,.slice a n p,.slice b n' p']].flatten,u.oneCell'=true:=by intro u hu;simp at hu;rcases hu with rfl | rfl | rfl<;>rfl
theorem r0m (x y z:Value):∀ d ∈ [[x,y,z]],d.length=3:=by intro d hd;simp at hd;subst hd;rfl
theorem l0c {W:World}{g:Nat}{x y z:Value}{t:TypeId}(h:Blk W g #[x,y,z] t):∀ j u,[[x,y,z]].flatten[j]?=some u→W.cell? ((⟨g,0,none⟩:Addr).add j)=some u:=fun j u hj=>by
 rw[Addr.add_lit,Nat.zero_add,h.cell];simpa using hj
structure VRow (B:Nat)(W:World)(v:Value)(qs:List Rat):Prop where
 ex:∃ cs,KRow .u64 57 3 B W v cs∧QL .u64 W cs qs
theorem VRow.nil (B:Nat)(W:World):VRow B W (.slice none 0 0) []:=⟨[],KRow.nil _ _ _ _ _,QL.nil _ _⟩
theorem VRow.call {B:Nat}{W W':World}{v:Value}{qs:List Rat}(h:VRow B W v qs)(hb:Below W.heap.size W W'):VRow B W' v qs:=by
 obtain⟨cs,h1,h2⟩:=h.ex;exact⟨cs,h1.call hb,h2.call hb⟩
theorem VRow.low {B C:Nat}{W:World}{v:Value}{qs:List Rat}(h:VRow B W v qs)(hC:C≤B):VRow C W v qs:=by
 obtain⟨cs,h1,h2⟩:=h.ex;refine⟨cs,⟨⟨h1.own.1,?_⟩,h1.all,h1.nok⟩,h2⟩;rcases h1.own.2 with h0 | ⟨g,cap,cur,e,hb,r⟩
 ·exact .inl h0
 ·exact .inr ⟨g,cap,cur,e,Nat.le_trans hC hb,r⟩
theorem VRow.slice {B:Nat}{W:World}{v:Value}{qs:List Rat}(h:VRow B W v qs):∃ a c,v=.slice a qs.length c∧qs.length≤c∧c≤9223372036854775807:=by
 obtain⟨cs,h1,h2⟩:=h.ex;rw[← h2.len];exact h1.ex
theorem VRow.at {B:Nat}{W:World}{a:Option Addr}{n c:Nat}{qs:List Rat}(h:VRow B W (.slice a n c) qs){i:Nat}{q:Rat}(hq:qs[i]?=some q):
 ∃ (g:Nat) (m:Bool) (a1:Option Addr) (n1 c1:Nat) (a2:Option Addr) (n2 c2:Nat),a=some ⟨g,0,none⟩∧B≤g∧g<W.heap.size∧W.cell? ⟨g,i*3,none⟩=some (.bool m)∧W.cell? ⟨g,i*3+1,none⟩=some (.slice a1 n1 c1)∧W.cell? ⟨g,i*3+2,none⟩=some (.slice a2 n2 c2)∧IsQ .u64 W (.agg #[.bool m,.slice a1 n1 c1,.slice a2 n2 c2]) q:=by
 obtain⟨cs,h1,h2⟩:=h.ex;obtain⟨d,hd,hc⟩:=h2.at_ i q hq;obtain⟨a1,n1,c1,a2,n2,c2,rfl,hQ⟩:=hc.ex;obtain⟨g,cap,e,-,-,hB,hg,-⟩:=h1.block hd (by omega);injection e with e1 e2 e3
 subst e1;exact⟨g,_,a1,n1,c1,a2,n2,c2,rfl,hB,hg,h1.cell hd (j:=0) rfl,h1.cell hd (j:=1) rfl,h1.cell hd (j:=2) rfl,hQ⟩
theorem n0E {W:World}{m:Bool}{x y:Value}{q:Rat}(h:IsQ .u64 W (.agg #[.bool m,x,y]) q):m=decide (q.num<0):=by
 obtain⟨N,D,e,-,-⟩:=h.ex;injection e with e
 have e2:=congrArg Array.toList e;injection e2 with e3 e4
 injection e3 with e3
theorem QC.of {W:World}{m:Bool}{a1 a2:Option Addr}{n1 c1 n2 c2:Nat}{q:Rat}(h:IsQ .u64 W (.agg #[.bool m,.slice a1 n1 c1,.slice a2 n2 c2]) q):QC .u64 W [.bool m,.slice a1 n1 c1,.slice a2 n2 c2] q:=by
 have e:=n0E h;subst e;exact⟨a1,n1,c1,a2,n2,c2,rfl,h⟩
theorem VRow.app {B:Nat}{W W':World}{v':Value}{cs:List (List Value)}{qs:List Rat}{c:List Value}{q:Rat}(h:QL .u64 W cs qs)(hk:KRow .u64 57 3 B W' v' (cs ++ [c]))(hkeep:KeepK .u64 W W')(hc:QC .u64 W c q):VRow B W' v' (qs ++ [q]):=
 ⟨cs ++ [c],hk,(h.keep hkeep).snoc (hc.keep hkeep)⟩
theorem b0l {w W w3:World}{v:Value}{cs:List (List Value)}{k:IntKind}{t:TypeId}{z:Nat}(h:KRow k t z w.heap.size W v cs)(h0:Below w.heap.size w W)(hg:W.grownBy w3 v.ownBlock):Below w.heap.size w w3:=b0W h.own h0 hg
theorem VRow.put {B:Nat}{W:World}{g n c:Nat}{qs:List Rat}(h:VRow B W (.slice (some ⟨g,0,none⟩) n c) qs){i:Nat}(hi:i<qs.length){m:Bool}{a1 a2:Option Addr}{n1 c1 n2 c2:Nat}{q:Rat}(hq:IsQ .u64 W (.agg #[.bool m,.slice a1 n1 c1,.slice a2 n2 c2]) q):
 VRow B (((W.setCell ⟨g,i*3,none⟩ (.bool m)).setCell ⟨g,i*3+1,none⟩ (.slice a1 n1 c1)).setCell ⟨g,i*3+2,none⟩ (.slice a2 n2 c2)) (.slice (some ⟨g,0,none⟩) n c) (qs.set i q) ∧
 KeepK .u64 W (((W.setCell ⟨g,i*3,none⟩ (.bool m)).setCell ⟨g,i*3+1,none⟩ (.slice a1 n1 c1)).setCell ⟨g,i*3+2,none⟩ (.slice a2 n2 c2)):=by
 obtain⟨cs,h1,h2⟩:=h.ex;have hl:i<cs.length:=by rw[h2.len];exact hi
 obtain⟨d,hd⟩:∃ d,cs[i]?=some d:=⟨_,List.getElem?_eq_getElem hl⟩;have hd3:=h1.all d (List.mem_of_getElem? hd);obtain⟨x,y,z,rfl⟩:∃ x y z,d = [x,y,z]:=by
  match d,hd3 with
  | [x,y,z],_=>exact⟨x,y,z,rfl⟩
 have s1:=h1.set hd (j:=0) (by omega) (u:=.bool m) (fun x e=>by cases e);have e1:(cs.set i ([x,y,z].set 0 (.bool m)))[i]?=some [.bool m,y,z]:=by rw[List.getElem?_set_self hl];rfl
 have s2:=s1.set e1 (j:=1) (by omega) (u:=.slice a1 n1 c1) (fun x e=>by cases e);rw[List.set_set]at s2;have e2:(cs.set i ([.bool m,y,z].set 1 (.slice a1 n1 c1)))[i]?=some [.bool m,.slice a1 n1 c1,z]:=by rw[List.getElem?_set_self hl];rfl
 have s3:=s2.set e2 (j:=2) (by omega) (u:=.slice a2 n2 c2) (fun x e=>by cases e);rw[List.set_set]at s3;have k:=((h1.keepSet (i*3) (.bool m)).trans (s1.keepSet (i*3+1) (.slice a1 n1 c1))).trans (s2.keepSet (i*3+2) (.slice a2 n2 c2));exact⟨⟨_,s3,(h2.keep k).set i ((QC.of hq).keep k)⟩,k⟩
theorem VRow.free {B:Nat}{W:World}{g n c:Nat}{qs:List Rat}(h:VRow B W (.slice (some ⟨g,0,none⟩) n c) qs)(j:Nat):W.frozen? ⟨g,j,none⟩=false:=by
 obtain⟨cs,h1,h2⟩:=h.ex;exact h1.free j
def QB (w:World)(g:Nat)(q:Rat):Prop:=∃ (m:Bool) (a:Option Addr) (n c:Nat) (a':Option Addr) (n' c':Nat),Blk w g #[.bool m,.slice a n c,.slice a' n' c'] 79∧IsQ .i64 w (.agg #[.bool m,.slice a n c,.slice a' n' c']) q
theorem QB.call {w w':World}{g:Nat}{q:Rat}(h:QB w g q)(hb:Below w.heap.size w w'):QB w' g q:=by
 obtain⟨m,a,n,c,a',n',c',h1,h2⟩:=h;exact⟨m,a,n,c,a',n',c',h1.call hb,h2.call hb⟩
theorem QB.new {w:World}{m:Bool}{a a':Option Addr}{n c n' c':Nat}{q:Rat}(h:IsQ .i64 w (.agg #[.bool m,.slice a n c,.slice a' n' c']) q):QB (w.alloc (.cells #[.bool m,.slice a n c,.slice a' n' c'] 79)) w.heap.size q:=
 ⟨m,a,n,c,a',n',c',Blk.new w _ _,h.call ((Below.refl _ _).alloc (Nat.le_refl _) _)⟩
theorem c0P {w:World}{b:Nat}{m0:Bool}{a0 b0:Option Addr}{n0 c0 n1 c1:Nat}{t:TypeId}(hb:Blk w b #[.bool m0,.slice a0 n0 c0,.slice b0 n1 c1] t)(m:Bool)(a a':Option Addr)(n c n' c':Nat){v:Value}{q:Rat}(h:IsQ .i64 w v q):
 IsQ .i64 (((w.setCell ⟨b,0,none⟩ (.bool m)).setCell ⟨b,1,none⟩ (.slice a n c)).setCell ⟨b,2,none⟩ (.slice a' n' c')) v q:=by
 obtain⟨N,D,rfl,h1,h2⟩:=h.ex;have hs:=(b0d hb m a a' n c n' c').1;exact⟨N,D,rfl,hs _ _ _ h1,hs _ _ _ h2⟩
theorem QB.put {w:World}{b:Nat}{m0:Bool}{a0 b0:Option Addr}{n0 c0 n1 c1:Nat}(hb:Blk w b #[.bool m0,.slice a0 n0 c0,.slice b0 n1 c1] 79){m:Bool}{a a':Option Addr}{n c n' c':Nat}{q:Rat}(h:IsQ .i64 w (.agg #[.bool m,.slice a n c,.slice a' n' c']) q):
 QB (((w.setCell ⟨b,0,none⟩ (.bool m)).setCell ⟨b,1,none⟩ (.slice a n c)).setCell ⟨b,2,none⟩ (.slice a' n' c')) b q:=
 ⟨m,a,n,c,a',n',c',(b0d hb m a a' n c n' c').2,c0P hb m a a' n c n' c' h⟩
end Go.Proofs.YtlimaehdmcnjaaaGreatDoor
namespace Go.Proofs.YtlimaehdmcnjaaaGreatDoor
open Go.RowKit
variable {P : Program} {ops : Array Oper} {Q : Exit → Act → World → Prop} {md : Region.Mode}
def r0N:List Oper→Nat→Option Oper
 | [],_=>none
 | o::_,0=>some o
 | _::l,i+1=>r0N l i
theorem i0B:∀ (l:List Oper) (i:Nat) (o:Oper),r0N l i=some o→l.toArray[i]?=some o
 | [],_,_,h=>by cases h
 | o::_,0,_,h=>by simpa[r0N]using h
 | _::l,i+1,o,h=>by simpa using i0B l i o h
def c0V (P:Program)(l:List Oper)(S:World→Prop)(L:Act→Prop):List Nat→Act→Prop
 | [],a=>L a
 | i::rest,a=>∃ o,r0N l i=some o∧∃ v,YieldsIf P l.toArray S o v a∧c0V P l S L rest (a.put o.dst v)
def g0G (md:Region.Mode)(ops:Array Oper):List Nat→Array Bool→Bool
 | [],_=>true
 | i::is,listed=>(Region.ready md ops listed).contains i && Region.free md ops listed i && g0G md ops is (listed.setIfInBounds i true)
def j0p:List Nat→Array Bool→Array Bool
 | [],listed=>listed
 | i::is,listed=>j0p is (listed.setIfInBounds i true)
theorem b0T {l:List Oper}{S:World→Prop}(hsel:Region.noSelect l.toArray=true){g:Nat}{w:World}(hS:S w):∀ (is:List Nat) (listed:Array Bool) (a:Act),g0G md l.toArray is listed=true →
 c0V P l S (fun a'=>wpAnyH P md l.toArray (a0o Q) S g (j0p is listed) a' w) is a→wpAnyH P md l.toArray (a0o Q) S (g+is.length) listed a w
 | [],_,_,_,h=>h
 | i::is,listed,a,hB,h=>by
  simp only[g0G,Bool.and_eq_true]at hB;obtain⟨⟨hr,hf⟩,hB'⟩:=hB;obtain⟨o,ho,v,hy,hrest⟩:=h;have hQ:∀ c a w,a0o Q (.panic c) (Act.put a o.dst v) w→a0o Q (.panic c) a w:=fun _ _ _ h=>h
  exact wpAnyH_take (i0B _ _ _ ho) hsel hf hr hQ hy hS (b0T hsel hS is _ _ hB' hrest)
theorem a0f {id:Nat}{a:Act}{w:World}{l:List Oper}(is:List Nat)(g:Nat)(S:World→Prop)(hm:P.follows .mixedOrders=true)(hsel:Region.noSelect l.toArray=true)(hg:g+is.length=l.toArray.size)(hB:g0G .any l.toArray is (Array.replicate l.toArray.size false)=true)(hS:S w.drew)
 (h:c0V P l S (fun a'=>wpAnyH P .any l.toArray (a0o Q) S g (j0p is (Array.replicate l.toArray.size false)) a' w.drew) is a):(Code.region id l.toArray true).wp P Q a w:=by
 have h2:=b0T (P:=P) (md:=.any) (Q:=Q) (S:=S) hsel (g:=g) hS is (Array.replicate l.toArray.size false) a hB h;rw[hg]at h2;exact (wpIn_wide (n:=1)).1 (wpIn_region_any hm (h0i _ _ _ _ (wpAny_of_held (S:=S) _ _ _ _ h2)))
theorem a0d {l:List Oper}{S:World→Prop}{is:List Nat}{g fuel:Nat}{listed:Array Bool}{a:Act}{w:World}(hsel:Region.noSelect l.toArray=true)(hf:fuel=g+is.length)(hS:S w)(hB:g0G md l.toArray is listed=true)
 (h:c0V P l S (fun a'=>wpAnyH P md l.toArray (a0o Q) S g (j0p is listed) a' w) is a):wpAnyH P md l.toArray (a0o Q) S fuel listed a w:=by
 rw[hf];exact b0T hsel hS is listed a hB h
end Go.Proofs.YtlimaehdmcnjaaaGreatDoor
namespace Go.Proofs.YtlimaehdmcnjaaaGreatDoor
open Go.RowKit
variable {P : Program} {ops : Array Oper} {Q : Exit → Act → World → Prop} {md : Region.Mode}
theorem c0a {S:World→Prop}{i:Nat}{o:Oper}{fuel:Nat}{listed:Array Bool}{a:Act}{w:World}(ho:ops[i]?=some o)(hg:o.guard=none)
 (h:wpList P ops (d0W P md ops (a0o Q) S fuel (listed.setIfInBounds i true)) [o] a w):wpOp P ops (a0o Q) i (fun a' w'=>S w'∧wpAnyH P md ops (a0o Q) S fuel (listed.setIfInBounds i true) a' w') a w:=by
 unfold wpOp;rw[ho];have hw:Region.wanted o (yielded ops a.tmps)=true:=by simp[Region.wanted,hg]
 simp only[hw,if_true];unfold wpList at h;rw[if_pos hw]at h;rcases h with h | ⟨_,_,_,h⟩
 ·left
  unfold Oper.wp at *;generalize (execOp a.eval o).run P w=r at *
  cases r with
  | ok m w'=>
   cases m<;>simp only[Oper.upon]at h ⊢
   case value u=>exact h
   case skip=>exact h
   case defer d=>exact h
   case enter f args=>
    refine Calls.mono h fun e w'' he=>?_
    cases e with
    | returned u=>exact he
    | panicked c=>exact he.elim
    | outgrown=>obtain⟨_,_,hx⟩:=he;exact hx.elim
   case row row args=>exact h
  | halt x w'=>
   cases x<;>simp only[Oper.upon]at h ⊢
   case panic u=>exact h.elim
 ·exact h.elim
theorem a0k {S:World→Prop}{i j:Nat}{oi oj:Oper}{fuel:Nat}{listed:Array Bool}{a:Act}{w:World}(hr:Region.ready md ops listed = [i,j])(hi:ops[i]?=some oi)(hj:ops[j]?=some oj)(hgi:oi.guard=none)(hgj:oj.guard=none)
 (h1:wpList P ops (d0W P md ops (a0o Q) S fuel (listed.setIfInBounds i true)) [oi] a w)
 (h2:wpList P ops (d0W P md ops (a0o Q) S fuel (listed.setIfInBounds j true)) [oj] a w):wpAnyH P md ops (a0o Q) S (fuel+1) listed a w:=by
 refine wpAnyH_all hr (by simp) fun k hk=>?_
 rcases List.mem_cons.1 hk with rfl | hk
 ·exact c0a hi hgi h1
 ·obtain rfl:k=j:=by simpa using hk
  exact c0a hj hgj h2
end Go.Proofs.YtlimaehdmcnjaaaGreatDoor
namespace Go.Proofs.YtlimaehdmcnjaaaGreatDoor
open Go.RowKit
open Go.Shelf
open Go.Lib (decDigits nDigits)
theorem g0b:(Tryz.prog.info? 79).map (fun i=>(i.zero,i.size,i.bytes))=some (some (.agg #[.bool false,.slice none 0 0,.slice none 0 0]),3,56):=by kernel_rfl
theorem l0a:NoKL .i64 (Value.cells (.agg #[.bool false,.slice none 0 0,.slice none 0 0])).toList:=by intro x hx;simp[Value.cells]at hx
theorem p0t (m:Bool)(a b:Option Addr)(n p n' p':Nat):NoKL .i64 [[Value.bool m,.slice a n p,.slice b n' p']].flatten:=by intro x hx;simp at hx
structure WRow (B:Nat)(W:World)(v:Value)(qs:List Rat):Prop where
 ex:∃ cs,KRow .i64 79 3 B W v cs∧QL .i64 W cs qs
theorem WRow.nil (B:Nat)(W:World):WRow B W (.slice none 0 0) []:=⟨[],KRow.nil _ _ _ _ _,QL.nil _ _⟩
theorem WRow.call {B:Nat}{W W':World}{v:Value}{qs:List Rat}(h:WRow B W v qs)(hb:Below W.heap.size W W'):WRow B W' v qs:=by
 obtain⟨cs,h1,h2⟩:=h.ex;exact⟨cs,h1.call hb,h2.call hb⟩
theorem WRow.low {B C:Nat}{W:World}{v:Value}{qs:List Rat}(h:WRow B W v qs)(hC:C≤B):WRow C W v qs:=by
 obtain⟨cs,h1,h2⟩:=h.ex;refine⟨cs,⟨⟨h1.own.1,?_⟩,h1.all,h1.nok⟩,h2⟩;rcases h1.own.2 with h0 | ⟨g,cap,cur,e,hb,r⟩
 ·exact .inl h0
 ·exact .inr ⟨g,cap,cur,e,Nat.le_trans hC hb,r⟩
theorem WRow.slice {B:Nat}{W:World}{v:Value}{qs:List Rat}(h:WRow B W v qs):∃ a c,v=.slice a qs.length c∧qs.length≤c∧c≤9223372036854775807:=by
 obtain⟨cs,h1,h2⟩:=h.ex;rw[← h2.len];exact h1.ex
theorem WRow.at {B:Nat}{W:World}{a:Option Addr}{n c:Nat}{qs:List Rat}(h:WRow B W (.slice a n c) qs){i:Nat}{q:Rat}(hq:qs[i]?=some q):
 ∃ (g:Nat) (m:Bool) (a1:Option Addr) (n1 c1:Nat) (a2:Option Addr) (n2 c2:Nat),a=some ⟨g,0,none⟩∧B≤g∧g<W.heap.size∧W.cell? ⟨g,i*3,none⟩=some (.bool m)∧W.cell? ⟨g,i*3+1,none⟩=some (.slice a1 n1 c1)∧W.cell? ⟨g,i*3+2,none⟩=some (.slice a2 n2 c2)∧IsQ .i64 W (.agg #[.bool m,.slice a1 n1 c1,.slice a2 n2 c2]) q:=by
 obtain⟨cs,h1,h2⟩:=h.ex;obtain⟨d,hd,hc⟩:=h2.at_ i q hq;obtain⟨a1,n1,c1,a2,n2,c2,rfl,hQ⟩:=hc.ex;obtain⟨g,cap,e,-,-,hB,hg,-⟩:=h1.block hd (by omega);injection e with e1 e2 e3
 subst e1;exact⟨g,_,a1,n1,c1,a2,n2,c2,rfl,hB,hg,h1.cell hd (j:=0) rfl,h1.cell hd (j:=1) rfl,h1.cell hd (j:=2) rfl,hQ⟩
theorem d0m {W:World}{m:Bool}{x y:Value}{q:Rat}(h:IsQ .i64 W (.agg #[.bool m,x,y]) q):m=decide (q.num<0):=by
 obtain⟨N,D,e,-,-⟩:=h.ex;injection e with e
 have e2:=congrArg Array.toList e;injection e2 with e3 e4
 injection e3 with e3
theorem QC.ofI {W:World}{m:Bool}{a1 a2:Option Addr}{n1 c1 n2 c2:Nat}{q:Rat}(h:IsQ .i64 W (.agg #[.bool m,.slice a1 n1 c1,.slice a2 n2 c2]) q):QC .i64 W [.bool m,.slice a1 n1 c1,.slice a2 n2 c2] q:=by
 have e:=d0m h;subst e;exact⟨a1,n1,c1,a2,n2,c2,rfl,h⟩
theorem WRow.app {B:Nat}{W W':World}{v':Value}{cs:List (List Value)}{qs:List Rat}{c:List Value}{q:Rat}(h:QL .i64 W cs qs)(hk:KRow .i64 79 3 B W' v' (cs ++ [c]))(hkeep:KeepK .i64 W W')(hc:QC .i64 W c q):WRow B W' v' (qs ++ [q]):=
 ⟨cs ++ [c],hk,(h.keep hkeep).snoc (hc.keep hkeep)⟩
theorem WRow.put {B:Nat}{W:World}{g n c:Nat}{qs:List Rat}(h:WRow B W (.slice (some ⟨g,0,none⟩) n c) qs){i:Nat}(hi:i<qs.length){m:Bool}{a1 a2:Option Addr}{n1 c1 n2 c2:Nat}{q:Rat}(hq:IsQ .i64 W (.agg #[.bool m,.slice a1 n1 c1,.slice a2 n2 c2]) q):
 WRow B (((W.setCell ⟨g,i*3,none⟩ (.bool m)).setCell ⟨g,i*3+1,none⟩ (.slice a1 n1 c1)).setCell ⟨g,i*3+2,none⟩ (.slice a2 n2 c2)) (.slice (some ⟨g,0,none⟩) n c) (qs.set i q) ∧
 KeepK .i64 W (((W.setCell ⟨g,i*3,none⟩ (.bool m)).setCell ⟨g,i*3+1,none⟩ (.slice a1 n1 c1)).setCell ⟨g,i*3+2,none⟩ (.slice a2 n2 c2)):=by
 obtain⟨cs,h1,h2⟩:=h.ex;have hl:i<cs.length:=by rw[h2.len];exact hi
 obtain⟨d,hd⟩:∃ d,cs[i]?=some d:=⟨_,List.getElem?_eq_getElem hl⟩;have hd3:=h1.all d (List.mem_of_getElem? hd);obtain⟨x,y,z,rfl⟩:∃ x y z,d = [x,y,z]:=by
  match d,hd3 with
  | [x,y,z],_=>exact⟨x,y,z,rfl⟩
 have s1:=h1.set hd (j:=0) (by omega) (u:=.bool m) (fun x e=>by cases e);have e1:(cs.set i ([x,y,z].set 0 (.bool m)))[i]?=some [.bool m,y,z]:=by rw[List.getElem?_set_self hl];rfl
 have s2:=s1.set e1 (j:=1) (by omega) (u:=.slice a1 n1 c1) (fun x e=>by cases e);rw[List.set_set]at s2;have e2:(cs.set i ([.bool m,y,z].set 1 (.slice a1 n1 c1)))[i]?=some [.bool m,.slice a1 n1 c1,z]:=by rw[List.getElem?_set_self hl];rfl
 have s3:=s2.set e2 (j:=2) (by omega) (u:=.slice a2 n2 c2) (fun x e=>by cases e);rw[List.set_set]at s3;have k:=((h1.keepSet (i*3) (.bool m)).trans (s1.keepSet (i*3+1) (.slice a1 n1 c1))).trans (s2.keepSet (i*3+2) (.slice a2 n2 c2));exact⟨⟨_,s3,(h2.keep k).set i ((QC.ofI hq).keep k)⟩,k⟩
theorem WRow.free {B:Nat}{W:World}{g n c:Nat}{qs:List Rat}(h:WRow B W (.slice (some ⟨g,0,none⟩) n c) qs)(j:Nat):W.frozen? ⟨g,j,none⟩=false:=by
 obtain⟨cs,h1,h2⟩:=h.ex;exact h1.free j
structure RRow (W:World)(v:Value)(qs:List Rat):Prop where
 ex:∃ (a:Option Addr) (c:Nat),v=.slice a qs.length c∧qs.length≤c∧c≤9223372036854775807∧∀ (i:Nat) (q:Rat),qs[i]?=some q→∃ (g o:Nat) (m:Bool) (a1:Option Addr) (n1 c1:Nat) (a2:Option Addr) (n2 c2:Nat),a=some ⟨g,o,none⟩∧g<W.heap.size∧W.cell? ⟨g,o+i*3,none⟩=some (.bool m)∧W.cell? ⟨g,o+i*3+1,none⟩=some (.slice a1 n1 c1)∧W.cell? ⟨g,o+i*3+2,none⟩=some (.slice a2 n2 c2)∧IsQ .i64 W (.agg #[.bool m,.slice a1 n1 c1,.slice a2 n2 c2]) q
theorem RRow.call {W W':World}{v:Value}{qs:List Rat}(h:RRow W v qs)(hb:Below W.heap.size W W'):RRow W' v qs:=by
 obtain⟨a,c,e,h1,h2,h3⟩:=h.ex;refine⟨a,c,e,h1,h2,fun i q hq=>?_⟩;obtain⟨g,o,m,a1,n1,c1,a2,n2,c2,e1,hg,k1,k2,k3,hQ⟩:=h3 i q hq;exact⟨g,o,m,a1,n1,c1,a2,n2,c2,e1,Nat.lt_of_lt_of_le hg hb.size,(hb.cell (p:=⟨g,_,none⟩) hg).trans k1,(hb.cell (p:=⟨g,_,none⟩) hg).trans k2,(hb.cell (p:=⟨g,_,none⟩) hg).trans k3,hQ.call hb⟩
theorem WRow.rd {B:Nat}{W:World}{v:Value}{qs:List Rat}(h:WRow B W v qs):RRow W v qs:=by
 obtain⟨a,c,rfl,h1,h2⟩:=h.slice;refine⟨a,c,rfl,h1,h2,fun i q hq=>?_⟩;obtain⟨g,m,a1,n1,c1,a2,n2,c2,e,-,hg,k1,k2,k3,hQ⟩:=h.at hq;exact⟨g,0,m,a1,n1,c1,a2,n2,c2,e,hg,by rw[Nat.zero_add];exact k1,by rw[Nat.zero_add];exact k2,by rw[Nat.zero_add];exact k3,hQ⟩
theorem RRow.cut {W:World}{a:Option Addr}{n c k:Nat}{qs:List Rat}(h:RRow W (.slice a n c) qs)(hk:k≤n):RRow W (.slice a k c) (qs.take k):=by
 obtain⟨a',c',e,h1,h2,h3⟩:=h.ex;injection e with e1 e2 e3
 subst e1 e3;have hl:(qs.take k).length=k:=by rw[List.length_take];omega
 refine⟨a,c,by rw[hl],by omega,h2,fun i q hq=>?_⟩;rw[List.getElem?_take]at hq
 split at hq
 ·exact h3 i q hq
 ·cases hq
theorem RRow.behind {W:World}{g o n c k:Nat}{qs:List Rat}(h:RRow W (.slice (some ⟨g,o,none⟩) n c) qs)(hk:k≤n):RRow W (.slice (some ⟨g,o+k*3,none⟩) (n-k) (c-k)) (qs.drop k):=by
 obtain⟨a',c',e,h1,h2,h3⟩:=h.ex;injection e with e1 e2 e3
 subst e1 e3;have hl:(qs.drop k).length=n-k:=by rw[List.length_drop];omega
 refine⟨_,c-k,by rw[hl],by omega,by omega,fun i q hq=>?_⟩;rw[List.getElem?_drop]at hq;obtain⟨g',o',m,a1,n1,c1,a2,n2,c2,e',hg,k1,k2,k3,hQ⟩:=h3 _ q hq;simp only[Option.some.injEq,Addr.mk.injEq,and_true]at e';obtain⟨rfl,rfl⟩:=e';rw[show o+(k+i)*3=o+k*3+i*3 by omega]at k1 k2 k3;exact⟨g,_,m,a1,n1,c1,a2,n2,c2,rfl,hg,k1,k2,k3,hQ⟩
theorem RRow.nil (W:World):RRow W (.slice none 0 0) []:=⟨none,0,rfl,Nat.le_refl _,by omega,fun i q h=>by simp at h⟩
theorem RRow.slice {W:World}{v:Value}{qs:List Rat}(h:RRow W v qs):∃ a c,v=.slice a qs.length c∧qs.length≤c∧c≤9223372036854775807:=by
 obtain⟨a,c,e,h1,h2,-⟩:=h.ex;exact⟨a,c,e,h1,h2⟩
theorem RRow.at {W:World}{a:Option Addr}{n c:Nat}{qs:List Rat}(h:RRow W (.slice a n c) qs){i:Nat}{q:Rat}(hq:qs[i]?=some q):∃ (g o:Nat) (m:Bool) (a1:Option Addr) (n1 c1:Nat) (a2:Option Addr) (n2 c2:Nat),a=some ⟨g,o,none⟩∧g<W.heap.size∧W.cell? ⟨g,o+i*3,none⟩=some (.bool m)∧W.cell? ⟨g,o+i*3+1,none⟩=some (.slice a1 n1 c1)∧W.cell? ⟨g,o+i*3+2,none⟩=some (.slice a2 n2 c2)∧IsQ .i64 W (.agg #[.bool m,.slice a1 n1 c1,.slice a2 n2 c2]) q:=by
 obtain⟨a',c',e,h1,h2,h3⟩:=h.ex;injection e with e1 e2 e3
 subst e1 e3;exact h3 i q hq
theorem b0x (w:World)(s:ByteArray)(hs:s.size≤1000000)(hq:qE s=0):
 Calls Tryz.prog 83 #[.string s] w fun e w'=>d0Q .i64 (vQ s) e w'∧Below w.heap.size w w':=by
 have PR:=fun V=>hid (h0t V s hs)
 have A0:=hid ((Below.refl w.heap.size w).alloc (Nat.le_refl _) (.cells #[.bool false,.slice none 0 0,.slice none 0 0] 79));have X0:=hid (Blk.new w #[.bool false,.slice none 0 0,.slice none 0 0] 79);have HQ0:=hid hq;clear hs hq;go_enter Tryz.func83,Tryz.ntmps83;go_wp2_with fail;refine (PR _).out.mono ?_;rintro e w1 ⟨⟨v1,rfl,hv1,-⟩,hb1⟩;obtain⟨m1,a1,n1,c1,a2,n2,c2,rfl⟩:=(hv1 HQ0.out).qv;have X1:=hid (X0.out.call hb1);have y1:=hid (a0a A0.out hb1);have A1:=hid ((Below.refl w1.heap.size w1).alloc (Nat.le_refl _) (.cells #[.bool m1,.slice a1 n1 c1,.slice a2 n2 c2] 79));have Z1:=hid (Blk.new w1 #[.bool m1,.slice a1 n1 c1,.slice a2 n2 c2] 79);have X2:=hid (X1.out.call A1.out);have y2:=hid (a0a y1.out A1.out);have Q2:=hid ((hv1 HQ0.out).call A1.out);clear hb1 hv1 X1 y1;have d0:=X2.out.cell 0;have d1:=X2.out.cell 1;have d2:=X2.out.cell 2;have e0:=X2.out.free 0;have e1:=X2.out.free 1;have e2:=X2.out.free 2;have g0:=Z1.out.cell 0;have g1:=Z1.out.cell 1;have g2:=Z1.out.cell 2;simp at d0 d1 d2 g0 g1 g2;go_wp2_with fail;obtain⟨s1,s2⟩:=b0d X2.out m1 a1 a2 n1 c1 n2 c2;have f0:=s2.cell 0;have f1:=s2.cell 1;have f2:=s2.cell 2;simp at f0 f1 f2;refine bodyPost_ret (v:=.agg #[.bool m1,.slice a1 n1 c1,.slice a2 n2 c2]) (by simp[results,Tryz.results83,go_sem,f0,f1,f2]) rfl ⟨⟨_,rfl,c0P X2.out m1 a1 a2 n1 c1 n2 c2 Q2.out⟩,?_⟩;exact ((y2.out.setCell (Nat.le_refl _) _).setCell (Nat.le_refl _) _).setCell (Nat.le_refl _) _
end Go.Proofs.YtlimaehdmcnjaaaGreatDoor
namespace Go.Proofs.YtlimaehdmcnjaaaGreatDoor
open Go.RowKit
open Go.Lib (decDigits nDigits)
theorem q0i (w:World):(convert 21 9 (.int .i32 48)).run Tryz.prog w=.ok (.string ⟨#[48]⟩) w:=by kernel_rfl
theorem q0h (w:World):(convert 21 9 (.int .i32 49)).run Tryz.prog w=.ok (.string ⟨#[49]⟩) w:=by kernel_rfl
theorem q0g (w:World):(convert 21 9 (.int .i32 50)).run Tryz.prog w=.ok (.string ⟨#[50]⟩) w:=by kernel_rfl
theorem q0f (w:World):(convert 21 9 (.int .i32 51)).run Tryz.prog w=.ok (.string ⟨#[51]⟩) w:=by kernel_rfl
theorem q0e (w:World):(convert 21 9 (.int .i32 52)).run Tryz.prog w=.ok (.string ⟨#[52]⟩) w:=by kernel_rfl
theorem q0d (w:World):(convert 21 9 (.int .i32 53)).run Tryz.prog w=.ok (.string ⟨#[53]⟩) w:=by kernel_rfl
theorem q0c (w:World):(convert 21 9 (.int .i32 54)).run Tryz.prog w=.ok (.string ⟨#[54]⟩) w:=by kernel_rfl
theorem q0b (w:World):(convert 21 9 (.int .i32 55)).run Tryz.prog w=.ok (.string ⟨#[55]⟩) w:=by kernel_rfl
theorem q0a (w:World):(convert 21 9 (.int .i32 56)).run Tryz.prog w=.ok (.string ⟨#[56]⟩) w:=by kernel_rfl
theorem p0Z (w:World):(convert 21 9 (.int .i32 57)).run Tryz.prog w=.ok (.string ⟨#[57]⟩) w:=by kernel_rfl
theorem j0U (d:Nat)(h:d<10)(w:World):(convert 21 9 (.int .i32 (((48+d:Nat)):Int))).run Tryz.prog w=.ok (.string ⟨[UInt8.ofNat (48+d)].toArray⟩) w:=by
 obtain rfl | rfl | rfl | rfl | rfl | rfl | rfl | rfl | rfl | rfl:d=0∨d=1∨d=2∨d=3∨d=4∨d=5∨d=6∨d=7∨d=8∨d=9:=by omega
 ·exact q0i w
 ·exact q0h w
 ·exact q0g w
 ·exact q0f w
 ·exact q0e w
 ·exact q0d w
 ·exact q0c w
 ·exact q0b w
 ·exact q0a w
 ·exact p0Z w
theorem f0i (w:World)(n:Nat)(h:n≤9223372036854775807):Calls Tryz.prog 71 #[.int .i64 n] w fun e w'=>e=.returned (.tuple #[m0E n,.int .i64 0])∧w=w':=by
 have hd20:=hid (show nDigits n≤19 from a0q (by omega) (by omega));go_enter Tryz.func71,Tryz.ntmps71;go_wp2_with fail
 go_loop [0,4] (fun nn ss=>∃ (m:Nat) (l:List UInt8),nn=.int .i64 m∧m≤9223372036854775807∧ss=.string ⟨l.toArray⟩∧l.length≤19∧Hid (decDigits n=decDigits m++l)) (fun nn _=>(intOf nn).toNat)
 case atStart=>exact⟨n,[],rfl,h,rfl,by simp,by simp[Hid]⟩
 case round=>
  obtain⟨m,l,rfl,hm,rfl,hl,hd⟩:=hrel;have hc:=j0U (m%10) (by omega);have hz:(((48+m%10:Nat)):Int)=48+(m:Int)%10:=by omega
  rw[hz]at hc;by_cases h9:9<m
  ·have q1:decide ((9:Int)<(m:Int))=true:=by simp;omega
   have hdm:=hid (a0K (u:=m) (by omega));have hl19:l.length+1≤19:=by
    have h1:=congrArg List.length hd.out;rw[List.length_append,Go.Lib.decDigits_length]at h1;have h2:=hd20.out;have h3:=e0Z m;omega
   clear hz;go_wp2_with fail;go_round
   case rel=>exact⟨m / 10,UInt8.ofNat (48+m%10)::l,by go_num,by omega,by simp[Go.ByteArray.mk_append_mk],by simpa using hl19,by rw[Hid,hd.out,hdm.out];simp⟩
   case measure=>simp[intOf]<;>omega
  ·have q1:decide ((9:Int)<(m:Int))=false:=by simp;omega
   have hm9:m<10:=by omega
   have hdm:=hid (a0u hm9);have hmm:m%10=m:=Nat.mod_eq_of_lt hm9;rw[hmm]at hc;have hmI:(48+(m:Int)%10)=48+(m:Int):=by omega
   rw[hmI]at hc;clear hz hmm hmI h9;go_wp2_with fail;go_ret2
   refine⟨m0X ?_ rfl,rfl⟩;rw[m0E,hd.out,hdm.out];simp[Go.ByteArray.mk_append_mk]
theorem q0W (w:World)(n:Nat)(h:n≤9223372036854775807):Calls Tryz.prog 24 #[.int .i64 n] w fun e w'=>e=.returned (.string (b0h n))∧w=w':=by
 have q0:decide ((0:Int)≤(n:Int))=true:=by simp
 go_enter Tryz.func24,Tryz.ntmps24;go_wp2_with fail;refine (f0i _ n h).mono ?_;rintro e w1 ⟨rfl,rfl⟩;rw[b0j];go_wp2_with fail;go_ret
 exact⟨rfl,rfl⟩
def bv (l:List UInt8):Nat:=l.foldl (fun a b=>a+a+(if b=49 then 1 else 0)) 0
theorem i0w (w:World)(s:ByteArray)(hs:s.size≤1000000):Calls Tryz.prog 36 #[.string s] w fun e w'=>e=.returned (.int .i64 (qE s))∧Below w.heap.size w w':=by
 have R1:=fun V=>hid (h0t V s hs)
 clear hs;go_enter Tryz.func36,Tryz.ntmps36;go_wp2_with fail;refine (R1 _).out.mono ?_;rintro e w1 ⟨hr1,hb1⟩;obtain⟨m,a,n,c,a',n',c',rfl,h1,h2⟩:=hr1.open;obtain⟨x,hx⟩:∃ x,qE s=x:=⟨_,rfl⟩;have HX:=hid hx;rw[hx];have y2:=hid (hb1.alloc hb1.size (.cells #[.bool m,.slice a n c,.slice a' n' c'] 79));clear h1 h2 hr1 hb1 hx R1;go_wp2_with fail;go_ret
 exact⟨by rw[HX.out];rfl,y2.out⟩
end Go.Proofs.YtlimaehdmcnjaaaGreatDoor
namespace Go.Proofs.YtlimaehdmcnjaaaGreatDoor
open Go.RowKit
def pre (ws:List Nat)(i:Nat):Nat:=(ws.take i).sum
def ArrP (k:IntKind)(t:TypeId)(w:World)(g:Nat)(l:List Nat):Prop:=∃ cs:Array Value,Blk w g cs t∧cs.toList.take l.length=ints k l
theorem ArrP.cell {k:IntKind}{t:TypeId}{w:World}{g:Nat}{l:List Nat}(h:ArrP k t w g l){i x:Nat}(hx:l[i]?=some x):w.cell? ⟨g,i,none⟩=some (.int k (x:Int)):=by
 obtain⟨cs,hb,ht⟩:=h;rw[hb.cell];have h1:=c0y (k:=k) hx;rw[← ht,List.getElem?_take]at h1
 split at h1
 ·simpa using h1
 ·cases h1
theorem ArrP.free {k:IntKind}{t:TypeId}{w:World}{g:Nat}{l:List Nat}(h:ArrP k t w g l)(i:Nat):w.frozen? ⟨g,i,none⟩=false:=by
 obtain⟨cs,hb,_⟩:=h;exact hb.free i
theorem ArrP.lt {k:IntKind}{t:TypeId}{w:World}{g:Nat}{l:List Nat}(h:ArrP k t w g l):g<w.heap.size:=by
 obtain⟨cs,hb,_⟩:=h;exact hb.lt
theorem ArrP.set {k:IntKind}{t:TypeId}{w:World}{g:Nat}{l:List Nat}(h:ArrP k t w g l)(i x:Nat):ArrP k t (w.setCell ⟨g,i,none⟩ (.int k (x:Int))) g (l.set i x):=by
 obtain⟨cs,hb,ht⟩:=h;refine⟨_,hb.set i _,?_⟩;rw[List.length_set,← d0n,← ht,Array.toList_setIfInBounds,List.take_set]
theorem ArrP.call {k:IntKind}{t:TypeId}{w w':World}{g:Nat}{l:List Nat}(h:ArrP k t w g l)(hb:Below w.heap.size w w'):ArrP k t w' g l:=by
 obtain⟨cs,hc,ht⟩:=h;exact⟨cs,hc.call hb,ht⟩
theorem ArrP.drewN {k:IntKind}{t:TypeId}{w:World}{g:Nat}{l:List Nat}(h:ArrP k t w g l)(n:Nat):ArrP k t (w.drewN n) g l:=h
theorem ArrP.other {k:IntKind}{t:TypeId}{w:World}{g:Nat}{l:List Nat}(h:ArrP k t w g l){a:Addr}(ha:a.block≠g)(v:Value):ArrP k t (w.setCell a v) g l:=by
 obtain⟨cs,hb,ht⟩:=h;exact⟨cs,hb.other ha v,ht⟩
theorem ArrP.row {k:IntKind}{t:TypeId}{w:World}{g:Nat}{l:List Nat}(h:ArrP k t w g l){n c:Nat}(hn:n≤l.length)(hc:n≤c)(hm:c≤maxLen):Row w (.slice (some ⟨g,0,none⟩) n c) (ints k (l.take n)):=by
 obtain⟨cs,hb,ht⟩:=h;refine Row.of_blk hb (by rw[ints_length,List.length_take_of_le hn]) (by omega) (fun i x hx=>?_) hc hm;rw[← c0k,← ht,List.getElem?_take]at hx
 split at hx
 ·rw[List.getElem?_take]at hx
  split at hx
  ·simpa using hx
  ·cases hx
 ·cases hx
theorem ArrP.of_owns {k:IntKind}{t:TypeId}{w:World}{B:Nat}{v:Value}{l:List Nat}(h:w.ownsRow B t 1 v l.length (ints k l))(h0:0<l.length):∃ g c,v=.slice (some ⟨g,0,none⟩) l.length c∧B≤g∧l.length≤c∧c≤maxLen∧ArrP k t w g l:=by
 rcases h.2 with ⟨rfl,hn⟩ | ⟨g,cap,cur,rfl,hb,hg,h1,h2,h3,h4⟩
 ·omega
 ·exact⟨g,cap,rfl,hb,h1,h2,cur,hg,by rw[Nat.mul_one]at h4;exact h4⟩
def r0K (us vs:List Nat)(gu j n:Nat)(w:World)(e:Ending)(w':World):Prop:=
 e=.returned (.int .u64 ((val ((us.drop j).take (n+1)) / val vs:Nat):Int))∧∃ o,WinOut us j n (val ((us.drop j).take (n+1))%val vs) o∧ArrP .u64 122 w' gu o∧w.grownBy w' (some gu)
theorem n0L {ui vi p G c b:Nat}(hu:ui<1000000000)(hv:vi<1000000000)(hp:G*vi=p)(hG:G<1000000000)(hb:b≤1)(hc:c≤999999999)(hcb:c+b≤G):
 p≤999999998000000001∧(p+c) / 1000000000≤999999999∧(∀ b',b'≤1→ui+1000000000*b'<(p+c)%1000000000+b+1000000000→(p+c)%1000000000+b≤ui+1000000000*b'→(p+c) / 1000000000+b'≤G∧(ui+1000000000*b'-((p+c)%1000000000+b))<1000000000∧(ui+1000000000*b'-((p+c)%1000000000+b))+(c+b)+G*vi=ui+1000000000*((p+c) / 1000000000+b')):=by
 have h1:p≤G*999999999:=by rw[← hp];exact Nat.mul_le_mul_left _ (by omega)
 refine⟨by omega,by omega,fun b' hb' h2 h3=>?_⟩;rw[hp];refine⟨by omega,by omega,by omega⟩
theorem j0H (w:World)(gu j cu:Nat)(us:List Nat)(gv ov cv:Nat)(vs:List Nat)(n:Nat)(hS:StepIn us vs j n)(hU:ArrP .u64 122 w gu us)(hV:Row w (.slice (some ⟨gv,ov,none⟩) n cv) (ints .u64 vs))(hne:gv≠gu):
 Calls Tryz.prog 180 #[.slice (some ⟨gu,j,none⟩) (n+1) cu,.slice (some ⟨gv,ov,none⟩) n cv] w fun e w'=>r0K us vs gu j n w e w':=by
 have n2:=hS.n2;have nm:=hS.nm;have lu:=hS.lu;have um:=hS.um;have cv':∀ i,i<n→w.cell? ⟨gv,ov+i,none⟩=some (.int .u64 (vs.getD i 0:Nat)):=fun i hi=>by
  obtain⟨g,o,e,hg,hc⟩:=hV.at (c0y (a0R (l:=vs) (i:=i) (by rw[hS.lv];exact hi)));simp at e;obtain⟨rfl,rfl⟩:=e;exact hc
 have cu':∀ i,i≤n→w.cell? ⟨gu,j+i,none⟩=some (.int .u64 (us.getD (j+i) 0:Nat)):=fun i hi=>hU.cell (a0R (by omega))
 have hE:=hid hS.est;have a0:=cu' n (Nat.le_refl _);have a1:=cu' (n-1) (by omega);have a2:=cu' (n-2) (by omega);have b1:=cv' (n-1) (by omega);have b2:=cv' (n-2) (by omega);have CV:=hid cv';have CU:=hid cu';have HS:=hid hS;have HU:=hid hU;clear cv' cu' hS hU hV;obtain⟨u0,hu0⟩:∃ x,us.getD (j+n) 0=x:=⟨_,rfl⟩;obtain⟨u1,hu1⟩:∃ x,us.getD (j+(n-1)) 0=x:=⟨_,rfl⟩;obtain⟨u2,hu2⟩:∃ x,us.getD (j+(n-2)) 0=x:=⟨_,rfl⟩;obtain⟨v1,hv1⟩:∃ x,vs.getD (n-1) 0=x:=⟨_,rfl⟩;obtain⟨v2,hv2⟩:∃ x,vs.getD (n-2) 0=x:=⟨_,rfl⟩;rw[hu0,hu1,hu2,hv1,hv2]at hE;rw[hu0]at a0;rw[hu1]at a1;rw[hu2]at a2;rw[hv1]at b1;rw[hv2]at b2;have HU0:=hid hu0;clear hu0 hu1 hu2 hv1 hv2;have l0:=hE.out.b0;have l1:=hE.out.b1;have l2:=hE.out.b2;have l3:=hE.out.c1;have l4:=hE.out.c2;have l5:=hE.out.v0;have dz:((v1:Int)==0)=false:=by simp;omega
 have f1:(0:Int)≤(n:Int)-1:=by omega
 have f2:(n:Int)-1<(n:Int)+1:=by omega
 have f3:(n:Int)-1<(n:Int):=by omega
 have f4:(0:Int)≤(n:Int)-2:=by omega
 have f5:(n:Int)-2<(n:Int)+1:=by omega
 have f6:(n:Int)-2<(n:Int):=by omega
 have f7:(0:Int)≤(n:Int):=by omega
 have f8:(n:Int)<(n:Int)+1:=by omega
 have e1:IntKind.i64.wrap ((n:Int)-1)=(n:Int)-1:=IntWalk.i64_in _ (by omega);have e2:IntKind.i64.wrap ((n:Int)-2)=(n:Int)-2:=IntWalk.i64_in _ (by omega);have e3:((n:Int)-1).toNat=n-1:=by omega
 have e4:((n:Int)-2).toNat=n-2:=by omega
 have e5:IntKind.u64.wrap ((u0:Int)*1000000000)=(u0:Int)*1000000000:=IntWalk.u64_in _ (by omega);have e6:IntKind.u64.wrap ((u0:Int)*1000000000+u1)=(u0:Int)*1000000000+u1:=IntWalk.u64_in _ (by omega);go_enter Tryz.func180,Tryz.ntmps180;go_wp2_with fail;go_quiet (fail)
 clear e5 e6;go_wp2_with fail;go_quiet (fail)
 go_upto_block 0 with (fail)
 rename_i nq1 nq2
 obtain⟨V,hV⟩:∃ V,val vs=V:=⟨_,rfl⟩;obtain⟨U,hU⟩:∃ U,val ((us.drop j).take (n+1))=U:=⟨_,rfl⟩;rw[hU,hV]at hE;have HVU:=hid (And.intro hU hV);clear hU hV
 go_cut [7] (fun gg wx=>∃ (G q:Nat),gg=.int .u64 G∧wx=w.drewN q∧G<1000000000∧Hid (U / V≤G∧G*V<U+V))
 case first=>
  go_wp2_with fail
  go_loopw [7,8] (fun gg rr wr=>∃ G R q:Nat,gg=.int .u64 G∧rr=.int .u64 R∧wr=w.drewN q∧Hid (EstI U V u0 u1 v1 G R)) (fun gg _ _=>(intOf gg).toNat)
  case atStart=>
   exact⟨_,_,_,by rw[Int.natCast_ediv];rfl,by rw[Int.natCast_emod];rfl,by rw[World.drewN_drewN],EstI.start hE.out⟩
  case round=>
   obtain⟨G,R,q,rfl,rfl,rfl,hI⟩:=hrel;have g2:=hI.out.g2;have r2:=hI.out.r2;by_cases hR:R<1000000000
   ·have q1:decide ((R:Int)<1000000000)=true:=by simp;omega
    by_cases hG:1000000000≤G
    ·have q2:decide ((1000000000:Int)≤(G:Int))=true:=by simp;omega
     have HN:=hid (hI.out.big hE.out hR hG);go_wp2_with fail
     go_big_quiet (fail)
     clear q1 q2;go_wp2_with fail;go_quiet (fail)
     go_wp2_with fail;go_roundw
     case rel=>exact⟨G-1,R+v1,_,by go_num,by go_num,by rw[World.drewN_drewN,World.drewN_drewN],HN⟩
     case measure=>simp[intOf]<;>omega
    ·have q2:decide ((1000000000:Int)≤(G:Int))=false:=by simp;omega
     obtain⟨p,hp⟩:∃ p,G*v2=p:=⟨_,rfl⟩;have hpb:p≤999999999*999999999:=by rw[← hp];exact Nat.mul_le_mul (by omega) (by omega)
     have HPI:=hid (show ((G:Int)*(v2:Int))=(p:Int) from by rw[← Int.natCast_mul,hp]);by_cases hT:R*1000000000+u2<p
     ·have q3:decide ((R:Int)*1000000000+u2<(p:Int))=true:=by simp;omega
      have HN:=hid (hI.out.less hE.out hR (by rw[hp];exact hT));have hg0:=HN.out.2;clear hp hT;obtain⟨x5,x6,x7⟩:IntKind.u64.wrap ((G:Int)*(v2:Int))=(p:Int)∧IntKind.u64.wrap ((R:Int)*1000000000)=(R:Int)*1000000000∧IntKind.u64.wrap ((R:Int)*1000000000+u2)=(R:Int)*1000000000+u2:=by
       refine⟨by rw[HPI.out];exact IntWalk.u64_in _ (by omega),IntWalk.u64_in _ (by omega),IntWalk.u64_in _ (by omega)⟩
      go_wp2_with fail
      go_big_quiet (fail)
      clear q1 q2 q3 x5 x6 x7;go_wp2_with fail;go_quiet (fail)
      go_wp2_with fail;go_roundw
      case rel=>exact⟨G-1,R+v1,_,by go_num,by go_num,by rw[World.drewN_drewN,World.drewN_drewN],HN.out.1⟩
      case measure=>simp[intOf]<;>omega
     ·have q3:decide ((R:Int)*1000000000+u2<(p:Int))=false:=by simp;omega
      have HD:=hid (hI.out.done hE.out (.inr ⟨by omega,by rw[hp];omega⟩));have HQ:=hid hI.out.q;clear hp hT;obtain⟨x5,x6,x7⟩:IntKind.u64.wrap ((G:Int)*(v2:Int))=(p:Int)∧IntKind.u64.wrap ((R:Int)*1000000000)=(R:Int)*1000000000∧IntKind.u64.wrap ((R:Int)*1000000000+u2)=(R:Int)*1000000000+u2:=by
       refine⟨by rw[HPI.out];exact IntWalk.u64_in _ (by omega),IntWalk.u64_in _ (by omega),IntWalk.u64_in _ (by omega)⟩
      go_wp2_with fail
      go_big_quiet (fail)
      clear q1 q2 q3 x5 x6 x7;go_wp2_with fail
      go_meet
      exact⟨G,_,rfl,by rw[World.drewN_drewN],HD.out.1,HQ.out,HD.out.2⟩
   ·have q1:decide ((R:Int)<1000000000)=false:=by simp;omega
    have HD:=hid (hI.out.done hE.out (.inl (by omega)));have HQ:=hid hI.out.q;go_wp2_with fail
    go_big_quiet (fail)
    clear q1;go_wp2_with fail
    go_meet
    exact⟨G,_,rfl,by rw[World.drewN_drewN],HD.out.1,HQ.out,HD.out.2⟩
 case rest=>
  obtain⟨G,q,rfl,rfl,hG,hQ⟩:=hcut;have hE1:=hE;clear a0 a1 a2 b1 b2 dz f1 f2 f3 f4 f5 f6 f7 f8 e1 e2 e3 e4 hE l0 l1 l2 l3 l4 l5;go_wp2_with fail
  go_loopw [9,10,11,12,13,79] (fun cc bb s11 s12 s13 ii wr=>∃ (i c b:Nat) (o:List Nat),cc=.int .u64 c∧bb=.int .u64 b∧b≤1∧c≤999999999∧ii=.int .i64 i∧i≤n∧Hid (MsubI us vs j n G i (c+b) o)∧Hid (ArrP .u64 122 wr gu o)∧Hid (w.grownBy wr (some gu))) (fun _ _ _ _ _ ii _=>n-(intOf ii).toNat)
  case atStart=>exact⟨0,0,0,us,rfl,rfl,by omega,by omega,rfl,Nat.zero_le _,MsubI.start HS.out.su,HU.out.drewN q,d0p (World.grownBy.refl w _) q⟩
  case round=>
   obtain⟨i,c,b,o,rfl,rfl,hb1,hc9,rfl,hin,hM,hO,hB⟩:=hrel;have hol:=hid hM.out.len;have hcG:=hM.out.c1;by_cases hlt:i<n
   ·have d1:=hO.out.cell (a0R (l:=o) (i:=j+i) (by rw[hol.out];omega));have d4:=hO.out.free (j+i);have d2:=c0b hB.out (CV.out i hlt) hne;have hvl:=HS.out.sv.getD i;have hul:=HS.out.su.getD (j+i);rw[b0f hM.out.hi]at d1;obtain⟨ui,hui⟩:∃ x,us.getD (j+i) 0=x:=⟨_,rfl⟩;obtain⟨vi,hvi⟩:∃ x,vs.getD i 0=x:=⟨_,rfl⟩;rw[hui]at d1 hul;rw[hvi]at d2 hvl;obtain⟨p,hp⟩:∃ p,G*vi=p:=⟨_,rfl⟩;obtain⟨hpb,hcb,hst⟩:=n0L hul hvl hp hG hb1 hc9 hcG;have HST:=hid hst;have HPI:=hid (show ((G:Int)*(vi:Int))=(p:Int) from by rw[← Int.natCast_mul,hp]);have HUI:=hid hui;have HVI:=hid hvi;clear hp hst hui hvi;have f1:(0:Int)≤(i:Int):=by omega
    have f2:(i:Int)<(n:Int):=by omega
    have f3:(i:Int)<(n:Int)+1:=by omega
    obtain⟨k1,hk1⟩:∃ k,(p+c) / 1000000000=k:=⟨_,rfl⟩;obtain⟨t1,ht1⟩:∃ t,(p+c)%1000000000=t:=⟨_,rfl⟩;rw[hk1]at HST hcb;rw[ht1]at HST;have ht9:t1<1000000000:=by omega
    have K1:=hid (show (((p:Int)+c) / 1000000000)=(k1:Int) from by rw[← hk1];omega);have T1:=hid (show (((p:Int)+c)%1000000000)=(t1:Int) from by rw[← ht1];omega);clear hk1 ht1;by_cases hneg:ui<t1+b
    ·have q1:decide ((ui:Int)<(t1:Int)+(b:Int))=true:=by simp;omega
     obtain⟨z1,z2,z3⟩:=HST.out 1 (by omega) (by omega) (by omega);have HN:=hid (hM.out.next (by omega) lu z2 z1 (by rw[HUI.out,HVI.out];exact z3));obtain⟨z,hz⟩:∃ z,ui+1000000000*1-(t1+b)=z:=⟨_,rfl⟩;rw[hz]at HN;have HZ:=hid (show ((ui:Int)+1000000000-((t1:Int)+b))=(z:Int) from by omega);clear z1 z2 z3 hz;have x5:IntKind.u64.wrap ((G:Int)*(vi:Int))=(p:Int):=by rw[HPI.out];exact IntWalk.u64_in _ (by omega)
     have y1:=K1.out;have y2:=T1.out;go_wp2_with fail;clear x5 y1 y2;go_roundw
     case rel=>
      have D5:=(hO.out.set (j+i) (ui+1000000000)).set (j+i) z;rw[List.set_set,Int.natCast_add]at D5;rw[K1.out,HZ.out];exact⟨i+1,k1,1,_,rfl,rfl,by omega,by omega,by go_num,by omega,HN,D5,c0d (c0d hB.out _ _) _ _⟩
     case measure=>simp[intOf]<;>omega
    ·have q1:decide ((ui:Int)<(t1:Int)+(b:Int))=false:=by simp;omega
     obtain⟨z1,z2,z3⟩:=HST.out 0 (by omega) (by omega) (by omega);have HN:=hid (hM.out.next (by omega) lu z2 z1 (by rw[HUI.out,HVI.out];exact z3));obtain⟨z,hz⟩:∃ z,ui+1000000000*0-(t1+b)=z:=⟨_,rfl⟩;rw[hz]at HN;have HZ:=hid (show ((ui:Int)-((t1:Int)+b))=(z:Int) from by omega);clear z1 z2 z3 hz;have x5:IntKind.u64.wrap ((G:Int)*(vi:Int))=(p:Int):=by rw[HPI.out];exact IntWalk.u64_in _ (by omega)
     have y1:=K1.out;have y2:=T1.out;go_wp2_with fail;clear x5 y1 y2;go_roundw
     case rel=>
      rw[K1.out,HZ.out];exact⟨i+1,k1,0,_,rfl,rfl,by omega,by omega,by go_num,by omega,HN,hO.out.set (j+i) z,c0d hB.out _ _⟩
     case measure=>simp[intOf]<;>omega
   ·obtain rfl:i=n:=by omega
    have hg0:=b0f hM.out.hi;have d1:=hO.out.cell (a0R (l:=o) (i:=j+i) (by rw[hol.out];omega));have d4:=hO.out.free (j+i);rw[hg0,HU0.out]at d1;have hV0:=hE1.out.pos;have l0:=hE1.out.b0;clear hg0;by_cases hc:c+b≤u0
    ·obtain⟨r1,r2,r3⟩:=hM.out.fits lu HS.out.lv HS.out.sv HVU.out.1 HVU.out.2 HU0.out hQ.out.1 hV0 hc;have R1:=hid r1;have R3:=hid r3;have R2:=hid r2;have q1:decide ((c:Int)+(b:Int)≤(u0:Int))=true:=by simp;omega
     have q2:(c:Int)+b≤u0:=by omega
     clear r1 r2 r3 hc;go_wp2_with fail;go_ret
     refine⟨a0G (by rw[HVU.out.1,HVU.out.2,← R1.out]),_,by rw[HVU.out.1,HVU.out.2];exact R3.out,?_,c0d hB.out _ _⟩;have e0:((u0:Int)-((c:Int)+b))=((0:Nat):Int):=by have:=R2.out;omega
     rw[e0];exact hO.out.set (j+i) 0
    ·obtain⟨hc1,hadd⟩:=hM.out.lacks lu HS.out.lv HS.out.sv HVU.out.1 HVU.out.2 HU0.out hQ.out.1 hQ.out.2 hV0 (by omega);have HADD:=hid hadd;have q1:decide ((c:Int)+(b:Int)≤(u0:Int))=false:=by simp;omega
     clear hadd hc hc1;go_wp2_with fail
     go_loopw [9,15,16,137] (fun cc s15 s16 ii wq=>∃ (y k:Nat) (p:List Nat),cc=.int .u64 k∧ii=.int .i64 y∧y≤i∧Hid (AddI o vs j y k p)∧Hid (ArrP .u64 122 wq gu p)∧Hid (w.grownBy wq (some gu))) (fun _ _ _ ii _=>i-(intOf ii).toNat)
     case atStart=>exact⟨0,0,o,rfl,rfl,Nat.zero_le _,AddI.start hM.out.sm,hO,hB⟩
     case round=>
      obtain⟨y,k,p,rfl,rfl,hyi,hA,hP,hB2⟩:=hrel;have hpl:=hid (show p.length=us.length from by rw[hA.out.len,hol.out]);by_cases hlt2:y<i
      ·have d1:=hP.out.cell (a0R (l:=p) (i:=j+y) (by rw[hpl.out];omega));have d4:=hP.out.free (j+y);have d2:=c0b hB2.out (CV.out y hlt2) hne;rw[b0f hA.out.hi]at d1;have HN2:=hid (hA.out.next hM.out.sm HS.out.sv (by rw[hol.out];omega));have hvl:=HS.out.sv.getD y;have hul:=hM.out.sm.getD (j+y);have hk1:=hA.out.k1;obtain⟨ui,hui⟩:∃ x,o.getD (j+y) 0=x:=⟨_,rfl⟩;obtain⟨vi,hvi⟩:∃ x,vs.getD y 0=x:=⟨_,rfl⟩;rw[hui]at d1 hul;rw[hvi]at d2 hvl;rw[hui,hvi]at HN2;clear hui hvi;have f1:(0:Int)≤(y:Int):=by omega
       have f2:(y:Int)<(i:Int):=by omega
       have f3:(y:Int)<(i:Int)+1:=by omega
       have hkI:(k:Int)≤1:=by omega
       obtain⟨x5,x6⟩:IntKind.u64.wrap ((ui:Int)+vi)=(ui:Int)+vi∧IntKind.u64.wrap ((ui:Int)+vi+k)=(ui:Int)+vi+k:=by
        refine⟨IntWalk.u64_in _ (by omega),IntWalk.u64_in _ (by omega)⟩
       go_wp2_with fail;go_quiet (fail)
       clear x5 x6;go_wp2_with fail;go_roundw
       case rel=>
        have hz:(((ui:Int)+vi+k)%1000000000)=(((ui+vi+k)%1000000000:Nat):Int):=by omega
        rw[hz];exact⟨y+1,_,_,by go_num,by go_num,by omega,HN2,(hP.out.drewN _).set (j+y) _,c0d (d0p hB2.out _) _ _⟩
       case measure=>simp[intOf]<;>omega
      ·obtain rfl:y=i:=by omega
       obtain⟨r0,r1,r2,r3⟩:=HADD.out k p hA.out;subst r0;have R1:=hid r1;have R3:=hid r3;have d1:=hP.out.cell (a0R (l:=p) (i:=j+y) (by rw[hpl.out];omega));have d4:=hP.out.free (j+y);clear r1 r3;go_wp2_with fail;go_ret
       refine⟨a0G (by rw[HVU.out.1,HVU.out.2,R1.out];omega),_,by rw[HVU.out.1,HVU.out.2];exact R3.out,hP.out.set (j+y) 0,c0d hB2.out _ _⟩
open Go.Shelf
attribute [local go_sem] Oper.semAt_some
theorem l0r (w:World)(v:Value)(a d:Nat)(ha:IsN .u64 w v a)(hd0:0<d)(hd1:d<1000000000)(hla:(limbs a).length≤1000000):
 Calls Tryz.prog 179 #[v,.int .u64 d] w fun e w'=>(∃ v',e=.returned (.tuple #[v',.int .u64 ((a%d:Nat):Int)])∧IsN .u64 w' v' (a / d))∧Below w.heap.size w w':=by
 obtain⟨a1,c1,rfl,h1,h2,h3⟩:=ha.openI;have H3:=hid h3;clear h3 ha;obtain⟨n,ea⟩:∃ n,(limbs a).length=n:=⟨_,rfl⟩;rw[ea]at h1 hla ⊢;have HA:=hid ea;clear ea;have hmk:=fun W=>e0b n (by omega) W
 refine (callsIn_wide (n:=9)).1 ?_;refine callsIn_of_wp_marks Tryz.func179 rfl trivial ?_ rfl;simp only[Tryz.ntmps179,List.size_toArray,List.length_cons,List.length_nil,Nat.reduceAdd,Nat.reduceSub,Array.replicate_succ,Array.replicate_zero,List.push_toArray,List.append_toArray,List.nil_append,List.cons_append]
 gi_wp2_with (refine⟨trivial,?_⟩;gi_at_call 120;refine (callsIn_wide.2 (d0s _ _ _ _)).mono ?_;rintro e w' ⟨rfl,rfl⟩)
 clear hmk;obtain⟨W0,hW0⟩:∃ W0,((((((w.alloc (.cells #[.slice a1 n c1] 55)).alloc (.cells #[.int .u64 d] 122)).alloc (.cells (madeCells #[.int .u64 0] n) 122)).alloc (.cells #[.slice (some ⟨w.heap.size+1+1,0,none⟩) n n] 55)).alloc (.cells #[.int .u64 0] 122)).alloc (.cells #[.slice a1 n c1] 55))=W0:=⟨_,rfl⟩;have y0:Blk W0 w.heap.size #[.slice a1 n c1] 55:=by rw[← hW0];exact (((((Blk.new w _ _).alloc _).alloc _).alloc _).alloc _).alloc _
 have y1:Blk W0 (w.heap.size+1) #[.int .u64 d] 122:=by rw[← hW0];exact ((((Blk.made _ _ _ (by simp)).alloc _).alloc _).alloc _).alloc _
 have y2:Arr .u64 122 W0 (w.heap.size+1+1) (List.replicate n 0):=by
  rw[← hW0];have:=Arr.made ((w.alloc (.cells #[.slice a1 n c1] 55)).alloc (.cells #[.int .u64 d] 122)) .u64 122 n;rw[World.size_alloc,World.size_alloc]at this;exact (((Blk.alloc this _).alloc _).alloc _)
 have y3:Blk W0 (w.heap.size+1+1+1) #[.slice (some ⟨w.heap.size+1+1,0,none⟩) n n] 55:=by rw[← hW0];exact ((Blk.made _ _ _ (by simp)).alloc _).alloc _
 have y4:Blk W0 (w.heap.size+1+1+1+1) #[.int .u64 0] 122:=by rw[← hW0];exact (Blk.made _ _ _ (by simp)).alloc _
 have y5:Blk W0 (w.heap.size+1+1+1+1+1) #[.slice a1 n c1] 55:=by rw[← hW0];exact Blk.made _ _ _ (by simp)
 have B0:Below w.heap.size w W0:=by rw[← hW0];exact ((((((Below.refl _ _).alloc (Nat.le_refl _) _).alloc (by simp) _).alloc (by simp;omega) _).alloc (by simp;omega) _).alloc (by simp;omega) _).alloc (by simp;omega) _
 have z0:W0.heap.size=w.heap.size+6:=by rw[← hW0];simp
 rw[hW0];have Y0:=hid y0;have Y1:=hid y1;have Y2:=hid y2;have Y3:=hid y3;have Y4:=hid y4;have Y5:=hid y5;have HB0:=hid B0;have Z0:=hid z0;clear y0 y1 y2 y3 y4 y5 B0 z0 hW0;have hread:∀ W1 W2,Below W0.heap.size W0 W1→KpB w.heap.size (w.heap.size+1+1+1+1+1) W1 W2→W2.cell? ⟨w.heap.size+1+1+1+1+1,0,none⟩=some (.slice a1 n c1)∧∀ i,i<n→∃ g o z,a1=some ⟨g,o,none⟩∧W2.cell? ⟨g,o+i,none⟩=some (.int .u64 z)∧True:=fun W1 W2 b1 b2=>by
  refine⟨(b2.blk (Y5.out.call b1)).cell 0,fun i hi=>?_⟩;obtain⟨x,hx⟩:∃ x,(limbs a)[i]?=some x:=⟨_,List.getElem?_eq_getElem (by rw[HA.out];exact hi)⟩;obtain⟨g,o,rfl,hg,hc⟩:=H3.out i x hx;exact⟨g,o,_,rfl,(((b2.1.cell (p:=⟨g,o+i,none⟩) hg).trans (b1.cell (p:=⟨g,o+i,none⟩) (by have:=Z0.out;simp;omega))).trans (HB0.out.cell (p:=⟨g,o+i,none⟩) hg)).trans hc,trivial⟩
 refine d0Z (by omega) (gf:=165) (lb:=#[.pointer (some ⟨w.heap.size+1+1+1+1+1,0,none⟩)]) rfl (enters_of Tryz.func165 (by kernel_rfl) rfl)
  (c0C (Kp:=KpB w.heap.size (w.heap.size+1+1+1+1+1)) (V:=fun _ _=>True) 8 (by omega) _ n c1 a1 (by omega) h1 W0 (KpB.refl _ _) KpB.trans hread) KpB.trans (KpB.put (by have:=Z0.out;omega) (by have:=Z0.out;omega)) (Below.refl _ _) (fun _=>rfl)
  (fun pre W=>(∃ (r:Nat) (o:List Nat),SmallI a d (n-pre.length) r o∧Arr .u64 122 W (w.heap.size+1+1) o∧Blk W (w.heap.size+1+1+1+1) #[.int .u64 r] 122∧Blk W (w.heap.size+1+1+1) #[.slice (some ⟨w.heap.size+1+1,0,none⟩) n n] 55)∧Below (w.heap.size+2) W0 W)
  (fun c pre W=>False)
  (OwnFrom.and (fun s A B row hs hg hr=>by
   obtain⟨r,o,h1,h2,h3,h4⟩:=hs;exact⟨r,o,h1,Blk.kept h2 hg (fun r e=>(hr r e).2),h3.kept hg (fun r e=>(hr r e).2),h4.kept hg (fun r e=>(hr r e).2)⟩) (ownFrom_below (by have:=Z0.out;omega) (by have:=Z0.out;omega)))
  (fun c s A B row hs hg hr=>hs)
  ⟨⟨0,_,by have:=SmallI.start (a:=a) hd0;rw[HA.out]at this;simpa using this,Y2.out,Y4.out,Y3.out⟩,Below.refl _ _⟩ ?act ?assign ?body ?done ?stop
 case assign=>
  intro l x W K hK
  gi_wp2
  exact hK
 case body=>
  rintro l pre ⟨j,z⟩ W ⟨hj,-⟩ ⟨⟨r,o,hS,hO,hR,hU⟩,hB⟩;dsimp only at hj;rw[show n-pre.length=j+1 by omega]at hS;obtain⟨x,hx⟩:∃ x,(limbs a)[j]?=some x:=⟨_,List.getElem?_eq_getElem (by rw[HA.out];omega)⟩;obtain⟨g,og,rfl,hg,hc⟩:=H3.out j x hx;have hol:o.length=n:=by rw[hS.len,HA.out]
  obtain⟨z0,hz0⟩:∃ z,o[j]?=some z:=⟨_,List.getElem?_eq_getElem (by omega)⟩;have d1:=((hB.cell (p:=⟨g,og+j,none⟩) (by simp;omega)).trans (HB0.out.cell (p:=⟨g,og+j,none⟩) hg)).trans hc;have b0:=(Y0.out.below hB (by omega)).cell 0;have b1:=(Y1.out.below hB (by omega)).cell 0;have b3:=hU.cell 0;have b4:=hR.cell 0;have b5:=hR.free 0;have d3:=hO.cell hz0;have d4:=hO.free j;simp only[List.getElem?_toArray,List.getElem?_cons_zero]at b0 b1 b3 b4;have HN:=hid (hS.next hx);have hxl:=(a0j a).get hx;have hrl:=hS.rd;have dz:((d:Int)==0)=false:=by simp;omega
  have HX:=hid hx;have HBB:=hid hB;have HJ:=hid hj;have HO:=hid hO;have HR:=hid hR;have HU:=hid hU;clear hx hc hB hj hz0 hol hS hO hR hU;have f1:(0:Int)≤(j:Int):=by omega
  have f2:(j:Int)<(n:Int):=by have:=HJ.out;omega
  have e5:IntKind.u64.wrap ((r:Int)*1000000000)=(r:Int)*1000000000:=IntWalk.u64_in _ (by omega);have e6:IntKind.u64.wrap ((r:Int)*1000000000+x)=(r:Int)*1000000000+x:=IntWalk.u64_in _ (by omega)
  gi_wp2
  refine c0K (by kernel_rfl) (by kernel_rfl) (by kernel_rfl) ?_
  repeat (gi_big_quiet_step (fail))
  refine wpQuietIn_nil ?_;intro _ hw';obtain⟨nq,rfl⟩:=hw';clear e5 e6
  gi_wp2
  obtain⟨V,hV⟩:∃ V,W.drewN nq=V:=⟨_,rfl⟩;have v1:V.cell? ⟨w.heap.size+1,0,none⟩=some (.int .u64 (d:Int)):=by rw[← hV];exact b1
  have v3:V.cell? ⟨w.heap.size+1+1+1,0,none⟩=some (.slice (some ⟨w.heap.size+1+1,0,none⟩) n n):=by rw[← hV];exact b3
  rw[hV];obtain⟨qv,hqv⟩:∃ q,(r*1000000000+x) / d=q:=⟨_,rfl⟩;obtain⟨mv,hmv⟩:∃ m,(r*1000000000+x)%d=m:=⟨_,rfl⟩;rw[hqv,hmv]at HN;have dz2:¬ d=0:=by omega
  have e7:IntKind.u64.wrap (((r:Int)*1000000000+x).tdiv d)=(qv:Int):=by
   rw[IntWalk.u64_quo _ _ (by omega),← hqv,Int.natCast_ediv];rfl
  have e8:((r:Int)*1000000000+x).tmod d=(mv:Int):=by
   rw[IntWalk.rem_in _ _ (by omega),← hmv,Int.natCast_emod];rfl
  have v4:V.cell? ⟨w.heap.size+1+1+1+1,0,none⟩=some (.int .u64 (r:Int)):=by rw[← hV];exact b4
  have v5:V.frozen? ⟨w.heap.size+1+1+1+1,0,none⟩=false:=by rw[← hV];exact b5
  have v6:V.cell? ⟨w.heap.size+1+1,j,none⟩=some (.int .u64 (z0:Int)):=by rw[← hV];exact d3
  have v7:V.frozen? ⟨w.heap.size+1+1,j,none⟩=false:=by rw[← hV];exact d4
  have HVB:=hid (show Below (w.heap.size+2) W0 V from by rw[← hV];exact a0i HBB.out nq);have HVW:=hid (show KpB w.heap.size (w.heap.size+1+1+1+1+1) W V∧KeepsFrom W0.heap.size W V from by rw[← hV];exact⟨⟨a0i (Below.refl _ _) _,rfl⟩,Nat.le_refl _,fun _ _ _ h _=>h⟩);have HVO:=hid (show Arr .u64 122 V (w.heap.size+1+1) o from by rw[← hV];exact HO.out);have HVR:=hid (show Blk V (w.heap.size+1+1+1+1) #[.int .u64 r] 122 from by rw[← hV];exact HR.out);have HV1:=hid (show Blk V (w.heap.size+1) #[.int .u64 d] 122 from by rw[← hV];exact Blk.drewN (Blk.below (B:=w.heap.size+2) Y1.out HBB.out (by omega)) nq);have HVU:=hid (show Blk V (w.heap.size+1+1+1) #[.slice (some ⟨w.heap.size+1+1,0,none⟩) n n] 55 from by rw[← hV];exact HU.out);clear hV d1 b0 b1 b3 b4 b5 d3 d4 hqv hmv HBB HO HR HU;refine c0F 9 (fun W'=>W'.cell? ⟨w.heap.size+1,0,none⟩=some (.int .u64 (d:Int))∧W'.cell? ⟨w.heap.size+1+1+1,0,none⟩=some (.slice (some ⟨w.heap.size+1+1,0,none⟩) n n)) (by kernel_rfl) (by kernel_rfl) (by kernel_rfl) rfl (by kernel_rfl) ⟨v1,v3⟩ ?_;simp only[List.take_succ_cons,List.take_zero]
  iterate 9
   apply Exists.intro
   refine⟨.inl ⟨by rfl,?_⟩,?_⟩
   ·(intro W' hW'
     obtain⟨q1,q2⟩:=hW'
     go_simp
     try (with_reducible rfl))
   simp only[Act.put,List.setIfInBounds_toArray,List.set_cons_zero,List.set_cons_succ]
  clear e7 e8;refine a0b (i:=9) (by kernel_rfl) (by rfl) (by rfl) ?_;go_wp2
  have u1:Arr .u64 122 (V.setCell ⟨w.heap.size+1+1,j,none⟩ (.int .u64 (qv:Int))) (w.heap.size+1+1) (o.set j qv):=HVO.out.set j qv;have u2:=Blk.other (a:=⟨w.heap.size+1+1,j,none⟩) HVR.out (by simp<;>omega) (.int .u64 (qv:Int));have u3:=Blk.other (a:=⟨w.heap.size+1+1,j,none⟩) HVU.out (by simp<;>omega) (.int .u64 (qv:Int));have u4:=Blk.other (a:=⟨w.heap.size+1+1,j,none⟩) HV1.out (by simp<;>omega) (.int .u64 (qv:Int));obtain⟨V1,hV1⟩:∃ V1,(V.setCell ⟨w.heap.size+1+1,j,none⟩ (.int .u64 (qv:Int))).drew=V1:=⟨_,rfl⟩;have c2:V1.cell? ⟨w.heap.size+1+1+1+1,0,none⟩=some (.int .u64 (r:Int)):=by rw[← hV1];exact u2.cell 0
  have c2':V1.frozen? ⟨w.heap.size+1+1+1+1,0,none⟩=false:=by rw[← hV1];exact u2.free 0
  have c3:V1.cell? ⟨w.heap.size+1+1+1,0,none⟩=some (.slice (some ⟨w.heap.size+1+1,0,none⟩) n n):=by rw[← hV1];exact u3.cell 0
  have c4:V1.cell? ⟨w.heap.size+1,0,none⟩=some (.int .u64 (d:Int)):=by rw[← hV1];exact u4.cell 0
  have U1:Hid (Arr .u64 122 V1 (w.heap.size+1+1) (o.set j qv)):=by rw[← hV1];exact u1
  have U2:Hid (Blk V1 (w.heap.size+1+1+1+1) #[.int .u64 r] 122):=by rw[← hV1];exact u2
  have U3:Hid (Blk V1 (w.heap.size+1+1+1) #[.slice (some ⟨w.heap.size+1+1,0,none⟩) n n] 55):=by rw[← hV1];exact u3
  have HB1:=hid (show Below (w.heap.size+2) W0 V1 from by rw[← hV1];exact (HVB.out.setCell (by simp<;>omega) _).drew)
  have HW1:=hid (show KpB w.heap.size (w.heap.size+1+1+1+1+1) W V1∧KeepsFrom W0.heap.size W V1 from by
   rw[← hV1];refine⟨⟨(HVW.out.1.1.setCell (by simp<;>omega) _).drew,?_⟩,HVW.out.2.trans (((KeepsOthers.setCell V _ _).trans (KeepsOthers.drew _)).from _)⟩;exact (Below.heap_setCell _ _ _ _ (by simp<;>omega)).trans HVW.out.1.2)
  rw[hV1];clear hV1 u1 u2 u3 u4 v1 v3 v4 v5 v6 v7;refine⟨⟨c4,c3⟩,a0b (i:=10) (by kernel_rfl) (by rfl) (by rfl) ?_⟩;go_wp2
  have w3:=Blk.other (a:=⟨w.heap.size+1+1+1+1,0,none⟩) U3.out (by simp<;>omega) (.int .u64 (mv:Int));have w1:=Blk.other (a:=⟨w.heap.size+1+1+1+1,0,none⟩) U1.out (by simp<;>omega) (.int .u64 (mv:Int));have w2:=U2.out.set 0 (.int .u64 (mv:Int));refine⟨⟨?_,w3.cell 0⟩,wpAnyH_done (by kernel_rfl) ?_ _⟩
  ·rw[World.cell?_setCell_other _ _ _ _ (by simp<;>omega)];exact c4
  simp only[a0o]
  gi_wp2
  refine⟨HW1.out.2.trans ((KeepsOthers.setCell _ _ _).from _),⟨(HW1.out.1.1).setCell (by simp<;>omega) _,?_⟩,⟨mv,o.set j qv,?_,w1,w2,w3⟩,HB1.out.setCell (by simp<;>omega) _⟩
  ·rw[Below.heap_setCell _ _ _ _ (by simp<;>omega)];exact HW1.out.1.2
  ·rw[List.length_append,List.length_singleton,show n-(pre.length+1)=j by have:=HJ.out;omega];exact HN.out
 case done=>
  rintro D xs W hD hx ⟨⟨r,o,hS,hO,hR,hU⟩,hB⟩ hK;rw[hx,Nat.sub_self]at hS;have hv:=hS.done;have hol:o.length=n:=by rw[hS.len,HA.out]
  have hr:Row W (.slice (some ⟨w.heap.size+1+1,0,none⟩) n n) (ints .u64 o):=by
   have:=Arr.row (n:=n) (c:=n) hO (by omega) (Nat.le_refl _) (by unfold maxLen;omega);rwa[List.take_of_length_le (by omega)]at this
  have b3:=hU.cell 0;have b4:=hR.cell 0;simp only[List.getElem?_toArray,List.getElem?_cons_zero]at b3 b4;have HL:=hid hol;have HV:=hid hv;have HR:=hid hr;have HS:=hid hS.sm;have HB:=hid hB;have HK:=hid hK;clear hx hS hO hR hU hB hK hv hol hr
  gi_wp2
  refine wpIn_region_quiet_lit rfl (by kernel_rfl) (by kernel_rfl) ?_
  repeat (gi_big_quiet_step (fail))
  refine wpQuietIn_step (fun _ _ f hf=>trivial) (fun K2 hK2=>?_)
  go_simp
  have htr:∀ q,CallsIn Fence.wide 8 Tryz.prog 143 #[.slice (some ⟨w.heap.size+1+1,0,none⟩) n n] (W.drewN q) fun e w''=>e=.returned (.slice (some ⟨w.heap.size+1+1,0,none⟩) (limbs (a / d)).length n)∧∃ m,w''=W.drewN m:=fun q=>by
   have:=d0l (W.drewN q) (some ⟨w.heap.size+1+1,0,none⟩) n o HS.out (by rw[HL.out];exact HR.out.drewN q);rw[HV.out.1,HL.out]at this;exact CallsIn.quiet_of_same (callsIn_wide.2 this)
  refine⟨_,htr,hK2 _ ?_⟩;clear hK2 K2 htr
  repeat (gi_big_quiet_step (fail))
  refine wpQuietIn_nil ?_;intro _ hw';obtain⟨nq,rfl⟩:=hw'
  gi_wp2
  have hK3:(W.drewN nq).heap[D]?=some (.deferred (some [])):=HK.out;refine c0i hK3 (v:=.tuple #[.slice (some ⟨w.heap.size+1+1,0,none⟩) (limbs (a / d)).length n,.int .u64 (r:Int)]) (by simp[results,Tryz.results179,go_sem]) ⟨⟨_,by rw[← HV.out.2],?_⟩,?_⟩
  ·have h1:=f0C HS.out (show Row W (.slice (some ⟨w.heap.size+1+1,0,none⟩) o.length n) (ints .u64 o) by rw[HL.out];exact HR.out);rw[HV.out.1]at h1;exact IsN.put (W:=W.drewN nq) (Row.drewN h1 nq) hK3 _
  ·exact (a0i (HB0.out.trans (HB.out.mono (by omega))) nq).trans (belowK_b (w:=w) (Nat.le_refl _) _ D _ _ (by have:=Z0.out;omega) hK3 rfl rfl)
 case stop=>
  rintro D c pre W hD-h;exact h.elim
attribute [local go_sem] Oper.semAt_some
theorem f0W (w:World)(v u:Value)(a b:Nat)(ha:IsN .u64 w v a)(hb:IsN .u64 w u b)(hlt:a<b)(hla:(limbs a).length≤1000000):
 Calls Tryz.prog 146 #[v,u] w fun e w'=>m0B .u64 (a / b) (a%b) e w'∧Below w.heap.size w w':=by
 have HA:=hid ha;have HB:=hid hb;have HL:=hid (b0t hlt);have HQ:=hid (Nat.div_eq_of_lt hlt);have HR:=hid (Nat.mod_eq_of_lt hlt);have HLA:=hid hla;obtain⟨a1,c1,rfl,_⟩:=ha.openI;obtain⟨a2,c2,rfl,_⟩:=hb.openI;clear ha hb hlt hla;go_enter Tryz.func146,Tryz.ntmps146;go_wp2_with fail;refine (l0s _ _ _ a b HA.out HB.out HLA.out).mono ?_;rintro e w1 ⟨rfl,hb1⟩;have B1:=hid hb1;clear hb1;rw[HL.out];go_wp2_with fail;go_ret2
 exact⟨⟨_,_,rfl,by rw[HQ.out];exact IsN.zero _ _,by rw[HR.out];exact HA.out.call B1.out⟩,B1.out⟩
theorem k0X {a b:Nat}(h:b≤a):b0e a b=0∨b0e a b=1:=by
 unfold b0e;split
 ·omega
 ·split<;>simp
theorem g0R (w:World)(v u:Value)(a b:Nat)(ha:IsN .u64 w v a)(hb:IsN .u64 w u b)(hle:b≤a)(h0:0<b)(h1:b<1000000000)(hla:(limbs a).length≤1000000):
 Calls Tryz.prog 146 #[v,u] w fun e w'=>m0B .u64 (a / b) (a%b) e w'∧Below w.heap.size w w':=by
 have HA:=hid ha;have HB:=hid hb;have HLA:=hid hla;have hord:=k0X hle;obtain⟨a1,c1,rfl,h1',_⟩:=ha.openI;obtain⟨a2,c2,rfl,h2',h3',h4'⟩:=hb.openI;have hl1:limbs b = [b]:=b0Y h0 h1;obtain⟨g,o,rfl,hg,hc⟩:=h4' 0 b (by rw[hl1];rfl);rw[Nat.add_zero]at hc;have HC:=hid hc;have hlen:(limbs b).length=1:=by rw[hl1];rfl
 rw[hlen]at HB h2' ⊢;clear ha hb hc h4' hl1 hlen hla;go_enter Tryz.func146,Tryz.ntmps146;go_wp2_with fail;refine (l0s _ _ _ a b HA.out HB.out HLA.out).mono ?_;rintro e w1 ⟨rfl,hb1⟩;have d1:=(hb1.cell (p:=⟨g,o,none⟩) hg).trans HC.out;have B1:=hid hb1;clear hb1;obtain⟨t,ht⟩:∃ t,b0e a b=t:=⟨_,rfl⟩;rw[ht]at hord ⊢;have q0:decide (t<0)=false:=by simp;omega
 clear ht hord;go_wp2_with fail;refine (l0r _ _ a b (HA.out.call B1.out) h0 h1 HLA.out).mono ?_;rintro e w2 ⟨⟨v2,rfl,hv2⟩,hb2⟩;have B2:=hid hb2;have V2:=hid hv2;clear hb2 hv2;have hrb:=hid (show a%b<18446744073709551616 from Nat.lt_trans (Nat.mod_lt a h0) (by omega));go_wp2_with fail;refine (r0r _ (a%b) hrb.out).mono ?_;rintro e w3 ⟨⟨v3,rfl,hv3⟩,hb3⟩;have V3:=hid hv3;have B3:=hid hb3;clear hv3 hb3;go_wp2_with fail;go_ret2
 exact⟨⟨_,_,rfl,V2.out.call B3.out,V3.out⟩,a0a (a0a B1.out B2.out) B3.out⟩
def KpQ (bs g K:Nat)(W W2:World):Prop:=W2.heap[bs]?=W.heap[bs]? ∧ ((∃ Q,Arr .u64 122 W g Q∧Q.length=K)→∃ Q,Arr .u64 122 W2 g Q∧Q.length=K)
theorem KpQ.refl (bs g K:Nat)(W:World):KpQ bs g K W W:=⟨rfl,fun h=>h⟩
theorem KpQ.trans {bs g K:Nat}{A B C:World}(h:KpQ bs g K A B)(k:KpQ bs g K B C):KpQ bs g K A C:=⟨k.1.trans h.1,fun x=>k.2 (h.2 x)⟩
theorem KpQ.put {bs g K:Nat}{w:World}(hb:bs<w.heap.size)(W:World)(l:Nat)(o o':Obj)(hl:w.heap.size≤l)(h:W.heap[l]?=some o)(h1:o.isCells=false)(h2:o.isWalk=false):KpQ bs g K W (W.putObj l o'):=
 ⟨World.putObj_heap_other (by omega),fun ⟨Q,hq,hq2⟩=>⟨Q,Blk.kept hq (grownBy_putObj' W l o') (fun r e=>by cases e;exact⟨_,h,h1⟩),hq2⟩⟩
theorem m0I {a b d A m:Nat}(hA:(limbs (a*d)).length=A)(hm:m≤A+1)(h0:0<m)(hb:1000000000 ^ (m-1)≤b)(hd:0<d):val ((limbs (a*d) ++ [0]).drop (A+1-m))<b*d:=by
 rw[List.drop_append_of_le_length (by omega),a0U];have h1:=c0f ((a0j (a*d)).drop (A+1-m));rw[List.length_drop,hA,show A-(A+1-m)=m-1 by omega]at h1;simp only[a0F,val_nil];have h2:b≤b*d:=Nat.le_mul_of_pos_right b hd;omega
theorem k0S {k:IntKind}{w wr w3:World}{t:TypeId}{v v3:Value}{s:List Nat}{z A:Nat}{o:Obj}(hl:s.length=A)(hO:wr.ownsRow w.heap.size t 1 v A (ints k s))(hB:Below w.heap.size w wr)
 (h3:w3.ownsRow w.heap.size t 1 v3 (A+1) (ints k s ++ [.int k (z:Int)])) (hg:(wr.alloc o).grownBy w3 v.ownBlock):
 w3.ownsRow w.heap.size t 1 v3 (s ++ [z]).length (ints k (s ++ [z]))∧Below w.heap.size w w3:=by
 subst hl;exact a0y hO hB h3 hg
theorem p0u {a d L:Nat}(hL:(limbs a).length=L)(hd:d<1000000000):a*d<1000000000 ^ (L+1):=by
 have h:=a0e.1 (Nat.le_of_eq hL);rw[Nat.pow_succ];exact Nat.lt_of_le_of_lt (Nat.mul_le_mul_left a (Nat.le_of_lt hd)) (Nat.mul_lt_mul_of_pos_right h (by omega))
theorem f0V (w:World)(v u:Value)(a b m:Nat)(ha:IsN .u64 w v a)(hb:IsN .u64 w u b)(hle:b≤a)(hn:(limbs b).length=m)(hm2:2≤m)(hla:(limbs a).length≤1000000):
 Calls Tryz.prog 146 #[v,u] w fun e w'=>m0B .u64 (a / b) (a%b) e w'∧Below w.heap.size w w':=by
 obtain⟨i0,hi,hz0,hz1,hz2⟩:=info_parts d0o;have HA:=hid ha;have HB:=hid hb;have hord:=k0X hle;have hmn:=a0h hle;obtain⟨a1,c1,rfl,h1',_⟩:=ha.openI;obtain⟨a2,c2,rfl,h2',h3',h4'⟩:=hb.openI;obtain⟨x,hx⟩:∃ x,(limbs b)[m-1]?=some x:=⟨_,List.getElem?_eq_getElem (by omega)⟩;obtain⟨g,o,rfl,hg,hc⟩:=h4' (m-1) x hx;have HC:=hid hc;have hn1:(limbs b).length=(m-1)+1:=by omega
 obtain⟨s1,s2,s3⟩:=g0u hn1 hx;obtain⟨t1,t2,_⟩:=f0D hn1 hx;obtain⟨d,hd⟩:∃ d,1000000000 / (x+1)=d:=⟨_,rfl⟩;rw[hd]at s1 s2 s3;have HS:=hid (show (limbs (b*d)).length=m by omega);have hdI:=hid (show ((1000000000:Int) / ((x:Int)+1))=(d:Int) from by rw[← hd];rfl);rw[hn]at h2' hmn ⊢;obtain⟨L,hL⟩:∃ L,(limbs a).length=L:=⟨_,rfl⟩;rw[hL]at hmn h1' ⊢;have hla':L≤1000000:=by omega
 have hL':=hL;have HL:=hid hL;have HN:=hid hn;have HLA:=hid hla;have HLE:=hid hle;rw[hL]at HA;rw[hn]at HB;clear ha hb hc h4' hx hd s1 hL hn hla hle hn1;refine (callsIn_wide (n:=9)).1 ?_;refine callsIn_of_wp_marks Tryz.func146 rfl trivial ?_ rfl;simp only[Tryz.ntmps146,List.size_toArray,List.length_cons,List.length_nil,Nat.reduceAdd,Nat.reduceSub,Array.replicate_succ,Array.replicate_zero,List.push_toArray,List.append_toArray,List.nil_append,List.cons_append]
 gi_wp2_with fail
 refine⟨trivial,(callsIn_wide.2 (l0s _ _ _ a b HA.out HB.out HLA.out)).mono ?_⟩;rintro e w1 ⟨rfl,hb1⟩;have d1:=(hb1.cell (p:=⟨g,o+(m-1),none⟩) hg).trans HC.out;have B1:=hid hb1;clear hb1;obtain⟨t,ht⟩:∃ t,b0e a b=t:=⟨_,rfl⟩;rw[ht]at hord ⊢;have q0:decide (t<0)=false:=by simp;omega
 clear ht hord;have q1:((m:Int)==1)=false:=by simp;omega
 gi_wp2_with fail
 clear q1;rw[hdI.out];obtain⟨W1,hW1⟩:∃ W1,w1.alloc (.cells #[.int .u64 (d:Int)] 122)=W1:=⟨_,rfl⟩;have BW1:=hid (show Below w.heap.size w W1 from by rw[← hW1];exact B1.out.alloc B1.out.size _);have SB:=hid (show Blk W1 w1.heap.size #[.int .u64 (d:Int)] 122 from by rw[← hW1];exact Blk.new _ _ _);have hsz:=hid (show w1.heap.size<W1.heap.size from SB.out.lt)
 have SC:=hid (show IsN .u64 W1 (.slice (some ⟨w1.heap.size,0,none⟩) 1 1) d from by
  unfold IsN;rw[b0Y s2 s3];exact Row.of_blk (n:=1) (c:=1) SB.out rfl (by unfold maxLen;omega) (fun i x hx=>by simpa[ints]using hx) (Nat.le_refl _) (by unfold maxLen;omega))
 have SL:=hid (show (limbs d).length≤1000000 from by rw[b0Y s2 s3];simp);rw[hW1];clear hW1 d1;refine⟨trivial,(callsIn_wide.2 (e0B W1 _ _ a d (HA.out.call BW1.out) SC.out HLA.out SL.out)).mono ?_⟩;rintro e w2 ⟨⟨vm,rfl,hown⟩,hb2⟩;obtain⟨A,hA⟩:∃ A,(limbs (a*d)).length=A:=⟨_,rfl⟩;have hAL:L≤A:=by rw[← hL',← hA];exact a0h (Nat.le_mul_of_pos_right a s2)
 have hAU:A≤L+1:=by rw[← hA];exact a0e.2 (p0u hL' s3)
 have HAD:=hid hA;rw[hA]at hown;have O2:=hid hown;have B2:=hid hb2;obtain⟨am,cm,rfl⟩:=a0t hown;clear hown hb2 hA
 gi_wp2_with (gi_at_builtin;refine wpListIn_append_own _ rfl _ _ 55 rfl W1.heap.size 122 i0 (.int .u64 0) 1 8 Tryz.underlying55 hi hz0 hz1 hz2 rfl (by decide) _ A _ rfl (O2.out.alloc _) ⟨w2.heap.size,0,none⟩ 1 1 [.int .u64 0] rfl rfl (cell_one_new w2 (.int .u64 0) 122) (by simp[Value.oneCell']) (by unfold maxLen;omega) (by omega) (by have:=B2.out.size;simp;omega) ?_;intro v' w3 hown3 hgrow3 _;have HO3:=hid hown3;have HG3:=hid hgrow3;clear hown3 hgrow3)
 obtain⟨n1,n2⟩:=k0S (w:=W1) (v:=.slice am A cm) (s:=limbs (a*d)) (z:=0) HAD.out O2.out B2.out HO3.out HG3.out;obtain⟨us,hus⟩:∃ us,limbs (a*d) ++ [0]=us:=⟨_,rfl⟩;rw[hus]at n1;have hul:us.length=A+1:=by rw[← hus,List.length_append,HAD.out];rfl
 obtain⟨gu,cu,rfl,hgu,hcu,hcum,hPU⟩:=ArrP.of_owns n1 (by omega);have HUS:=hid hus;have HUL:=hid hul;have PU3:=hid hPU;have BW3:=hid (show Below W1.heap.size W1 w3 from n2);have BX3:=hid (a0a BW1.out n2);have hgul:=hPU.lt;rw[hul];rw[hul]at hcu;clear n1 n2 hus hul hPU O2 HO3 HG3;refine⟨trivial,(callsIn_wide.2 (e0B w3 _ _ b d (HB.out.call BX3.out) (SC.out.call BW3.out) (by rw[HN.out];omega) SL.out)).mono ?_⟩;rintro e w4 ⟨⟨vv,rfl,hvv⟩,hb4⟩;obtain⟨gv,cv,rfl,hgv,hcv,hcvm,hPV⟩:=ArrP.of_owns hvv (by rw[HS.out];omega);have B4:=hid hb4;have BX4:=hid (a0a BX3.out hb4);have PV4:=hid hPV;have hgvl:=hPV.lt;rw[HS.out]at hcv ⊢;clear hvv hb4 hPV;have qL:decide (A+1≤L)=false:=by simp;omega
 gi_wp2_with fail
 obtain⟨W5,hW5⟩:∃ W5,(w4.alloc (.cells #[.slice (some ⟨gu,0,none⟩) (A+1) cu] 55)).alloc (.cells #[.slice (some ⟨gv,0,none⟩) m cv] 55)=W5:=⟨_,rfl⟩;have y9:Blk W5 w4.heap.size #[.slice (some ⟨gu,0,none⟩) (A+1) cu] 55:=by rw[← hW5];exact (Blk.new w4 _ _).alloc _
 have y10:Blk W5 (w4.heap.size+1) #[.slice (some ⟨gv,0,none⟩) m cv] 55:=by rw[← hW5];exact Blk.made _ _ _ (by simp)
 have B5:Below w4.heap.size w4 W5:=by rw[← hW5];exact ((Below.refl _ _).alloc (Nat.le_refl _) _).alloc (by simp) _
 have z5:W5.heap.size=w4.heap.size+2:=by rw[← hW5];simp
 have b9:=y9.cell 0;have b10:=y10.cell 0;simp only[List.getElem?_toArray,List.getElem?_cons_zero]at b9 b10;have l9:w4.heap.size<W5.heap.size:=by omega
 have l10:w4.heap.size+1<W5.heap.size:=by omega
 have Y9:=hid y9;have Y10:=hid y10;have HB5:=hid B5;have Z5:=hid z5;obtain⟨K,hK⟩:∃ K,K=A+1-m:=⟨_,rfl⟩;have hKI:((A:Int)+1-(m:Int))=(K:Int):=by omega
 have hKL:K+m=A+1:=by omega
 have hmk:=fun W=>e0b K (by omega) W
 rw[hW5];clear hW5 y9 y10 B5 z5 hK
 gi_loopw [52] (fun _ wr=>wr=W5) (fun _ _=>0)
 case atStart=>rfl
 case round=>
  obtain rfl:=hrel
  gi_wp2_with fail
  have HMN:=hid hmn;refine⟨trivial,(callsIn_wide.2 (d0s _ _ _ _)).mono ?_⟩;rintro e w' ⟨rfl,rfl⟩
  gi_wp2_with fail
  obtain⟨W0,hW0⟩:∃ W0,(((wr.alloc (.cells #[.int .i64 m] 3)).alloc (.cells (madeCells #[.int .u64 0] K) 122)).alloc (.cells #[.slice (some ⟨wr.heap.size+1,0,none⟩) K K] 55)).alloc (.cells #[.slice (some ⟨wr.heap.size+1,0,none⟩) K K] 55)=W0:=⟨_,rfl⟩;have y11:Blk W0 wr.heap.size #[.int .i64 m] 3:=by rw[← hW0];exact (((Blk.new wr _ _).alloc _).alloc _).alloc _
  have y12:Blk W0 (wr.heap.size+1+1) #[.slice (some ⟨wr.heap.size+1,0,none⟩) K K] 55:=by rw[← hW0];exact (Blk.made _ _ _ (by simp)).alloc _
  have y13:Blk W0 (wr.heap.size+1+1+1) #[.slice (some ⟨wr.heap.size+1,0,none⟩) K K] 55:=by rw[← hW0];exact Blk.made _ _ _ (by simp)
  have yq:Arr .u64 122 W0 (wr.heap.size+1) (List.replicate K 0):=by
   rw[← hW0];have:=Arr.made (wr.alloc (.cells #[.int .i64 m] 3)) .u64 122 K;rw[World.size_alloc]at this;exact (Blk.alloc this _).alloc _
  have B0:Below wr.heap.size wr W0:=by rw[← hW0];exact ((((Below.refl _ _).alloc (Nat.le_refl _) _).alloc (by simp) _).alloc (by simp;omega) _).alloc (by simp;omega) _
  have z0:W0.heap.size=wr.heap.size+4:=by rw[← hW0];simp
  have BX0:=hid (a0a (a0a BX4.out HB5.out) B0);have PU0:=hid (((PU3.out.call B4.out).call HB5.out).call B0);have V0:=hid ((PV4.out.call HB5.out).call B0);have S0:=hid ((((SB.out.call BW3.out).call B4.out).call HB5.out).call B0);have Y9':=hid (Y9.out.call B0);have Y10':=hid (Y10.out.call B0);rw[hW0];have Y11:=hid y11;have Y12:=hid y12;have Y13:=hid y13;have YQ:=hid yq;have Z0:=hid z0;have hw3:=B4.out.size;have hw1:=BW1.out.size;have hw13:=BW3.out.size;clear hW0 y11 y12 y13 yq B0 z0 l9 l10 b9 b10 hmk hKI;have i5:w4.heap.size+2≤wr.heap.size:=by have:=Z5.out;omega
  have i0':wr.heap.size+4≤W0.heap.size:=by have:=Z0.out;omega
  refine d0Z (by omega) (gf:=165) (lb:=#[.pointer (some ⟨wr.heap.size+1+1+1,0,none⟩)]) rfl (enters_of Tryz.func165 (by kernel_rfl) rfl)
   (c0C (Kp:=KpQ (wr.heap.size+1+1+1) (wr.heap.size+1) K) (V:=fun _ _=>True) 8 (by omega) _ K K (some ⟨wr.heap.size+1,0,none⟩) (by omega) (Nat.le_refl _) W0 (KpQ.refl _ _ _) KpQ.trans (fun W1 W2 b1 b2=>?hread)) KpQ.trans (KpQ.put (by omega)) (Below.refl _ _) (fun _=>rfl)
   (fun pre W=>(∃ o Q,DivI (a*d) (b*d) m (A+1) (K-pre.length) o Q∧ArrP .u64 122 W gu o∧Arr .u64 122 W (wr.heap.size+1) Q)∧Keep2 W0 W gu (some (wr.heap.size+1)))
   (fun c pre W=>False)
   (fun s A B row hs hg hr=>⟨by
    obtain⟨o,Q,h1,h2,h3⟩:=hs.1;obtain⟨cs,h2a,h2b⟩:=h2;exact⟨o,Q,h1,⟨cs,h2a.kept hg (fun r e=>(hr r e).2),h2b⟩,Blk.kept h3 hg (fun r e=>(hr r e).2)⟩,hs.2.grown hg (fun k e=>.inr (.inr (hr k e).1))⟩)
   (fun c s A B row hs hg hr=>hs)
   ⟨⟨us,_,?start,PU0.out,YQ.out⟩,Keep2.refl _ _ _⟩ ?act ?assign ?body ?done ?stop
  case hread=>
   obtain⟨Q,hq,hql⟩:=b2.2 ⟨_,YQ.out.call b1,by simp⟩;refine⟨?_,fun i hi=>?_⟩
   ·have h1:Blk W2 (wr.heap.size+1+1+1) #[.slice (some ⟨wr.heap.size+1,0,none⟩) K K] 55:=b2.1.trans (Y13.out.call b1);exact h1.cell 0
   ·exact⟨_,0,_,rfl,by rw[Nat.zero_add];exact hq.cell (List.getElem?_eq_getElem (by omega)),trivial⟩
  case start=>
   have h1:1000000000 ^ (m-1)≤b:=a0L.1 (by rw[HN.out];omega);have h2:b*d≤1000000000 ^ m:=Nat.le_of_lt (a0e.1 (by rw[HS.out];exact Nat.le_refl _));have hsu:Sm us:=by rw[← HUS.out];exact (a0j _).append (Sm.cons (by omega) Sm.nil)
   have hvu:val us=a*d:=by rw[← HUS.out,a0U,a0p];simp[a0F]
   have:=DivI.start (U:=a*d) (V:=b*d) (n:=m) (L:=A+1) h2 hsu HUL.out (by omega) hvu (by
    rw[← HUS.out];exact m0I HAD.out (by omega) (by omega) h1 s2)
   rw[show A+1-m=K by omega]at this;simpa using this
  case assign=>
   intro l x W KK hK
   gi_wp2
   exact hK
  case stop=>
   rintro D c pre W hD-h;exact h.elim
  case done=>
   rintro D xs W hD hx ⟨⟨o2,Q,hDI,hU,hQ⟩,hKp⟩ hK;rw[hx,Nat.sub_self]at hDI;obtain⟨r1,r2,r3⟩:=hDI.done (by omega);have hfin:=hid (m0c (a:=a) (b:=b) s2 r1 r2);have R3:=hid r3
   have hlen:=hid (show (limbs (val (o2.take m))).length≤1000000 from by
    rw[r3];have:=a0h (Nat.le_of_lt r2);rw[HS.out]at this;omega)
   have hol:=hid hDI.lo;have hql:=hid (show Q.length=K from by rw[hDI.lq];omega);have k9:=hKp.blk Y9'.out (by omega) (by simp;omega);have k11:=hKp.blk Y11.out (by omega) (by simp);have k12:=hKp.blk Y12.out (by omega) (by simp);have ks:=hKp.blk S0.out (by have:=hsz.out;omega) (by have:=hsz.out;simp;omega);have c9:=k9.cell 0;have c11:=k11.cell 0;have c12:=k12.cell 0;have cs0:=ks.cell 0;simp only[List.getElem?_toArray,List.getElem?_cons_zero]at c9 c11 c12 cs0;have ru:=hid (show Row W (.slice (some ⟨gu,0,none⟩) m cu) (ints .u64 (o2.take m)) from hU.row (by rw[hol.out];omega) (by omega) hcum);have smu:=hid (hDI.so.take m);have smq:=hid hDI.sq;have HQ:=hid hQ;have HKP:=hid hKp;have HK:=hid hK;have BW:=hid (show Below w.heap.size w W from BX0.out.trans (hKp.below (B:=w.heap.size) (by omega) (by omega) (fun x e=>by injection e;omega)));have f1:(m:Int)≤(cu:Int):=by omega
   clear hx hDI r1 r2 r3 k9 k11 k12 ks hU hQ hKp hK;have htr:Calls Tryz.prog 143 #[.slice (some ⟨gu,0,none⟩) m cu] W.drew fun e w'=>e=.returned (.slice (some ⟨gu,0,none⟩) (limbs (val o2)).length cu)∧w'=W.drew:=by
    have:=d0l W.drew (some ⟨gu,0,none⟩) cu (o2.take m) smu.out (by rw[List.length_take_of_le (by rw[hol.out];omega)];exact ru.out.drew);rwa[List.length_take_of_le (by rw[hol.out];omega),R3.out]at this
   have hin:=hid (show IsN .u64 W.drew (.slice (some ⟨gu,0,none⟩) (limbs (val o2)).length cu) (val o2) from by
    have:=f0C (c:=cu) (a:=some ⟨gu,0,none⟩) smu.out (by rw[List.length_take_of_le (by rw[hol.out];omega)];exact ru.out.drew);rwa[R3.out]at this)
   have hlen2:=hid (show (limbs (val o2)).length≤1000000 from by have:=hlen.out;rwa[R3.out]at this);have HTR:=hid htr;clear htr
   gi_wp2
   refine wpIn_wide.2 ?_
   go_region_held3 (fun w'=>w'.cell? ⟨w4.heap.size,0,none⟩=some (.slice (some ⟨gu,0,none⟩) (A+1) cu)∧w'.cell? ⟨wr.heap.size,0,none⟩=some (.int .i64 (m:Int))∧w'.cell? ⟨w1.heap.size,0,none⟩=some (.int .u64 (d:Int)))
    (first
     | exact⟨c9,c11,cs0⟩
     | exact⟨(B6.out.cell (p:=⟨_,_,_⟩) (a0z (a:=⟨w4.heap.size,0,none⟩) c9)).trans c9,(B6.out.cell (p:=⟨_,_,_⟩) (a0z (a:=⟨wr.heap.size,0,none⟩) c11)).trans c11,(B6.out.cell (p:=⟨_,_,_⟩) (a0z (a:=⟨w1.heap.size,0,none⟩) cs0)).trans cs0⟩)
    (first
     | (go_at_call 143;refine HTR.out.mono ?_;rintro e w' ⟨rfl,rfl⟩)
     | (go_at_call 179;refine (l0r _ _ (val o2) d hin.out s2 s3 hlen2.out).mono ?_;rintro e w6 ⟨⟨v6,rfl,hv6⟩,hb6⟩;have V6:=hid hv6;have B6:=hid (show Below W.heap.size W w6 from⟨hb6.os,hb6.tape,hb6.output,hb6.size,hb6.block⟩);clear hv6 hb6))
   have c12':=(B6.out.cell (p:=⟨_,_,_⟩) (a0z (a:=⟨wr.heap.size+1+1,0,none⟩) c12)).trans c12;have HQ6:=hid (HQ.out.call B6.out)
   have rq:=hid (show Row w6 (.slice (some ⟨wr.heap.size+1,0,none⟩) Q.length K) (ints .u64 Q) from by
    have:=HQ6.out.row (n:=K) (c:=K) (by rw[hql.out];exact Nat.le_refl _) (Nat.le_refl _) (by unfold maxLen;omega);rw[hql.out];rwa[List.take_of_length_le (by rw[hql.out];exact Nat.le_refl _)]at this)
   clear c9 c11 c12 cs0;have HK6:=hid (show w6.heap[D]?=some (.deferred (some [])) from (B6.out.block D (Array.getElem?_eq_some_iff.1 HK.out).1).trans HK.out)
   gi_wp2_with (refine⟨trivial,?_⟩;gi_at_call 143;have htq:=d0l w6 (some ⟨wr.heap.size+1,0,none⟩) K Q smq.out rq.out;rw[hql.out]at htq;refine (callsIn_wide.2 htq).mono ?_;clear htq;rintro e w' ⟨rfl,rfl⟩)
   refine c0i HK6.out (v:=.tuple #[.slice (some ⟨wr.heap.size+1,0,none⟩) (limbs (val Q)).length K,v6]) (by simp[results,Tryz.results146,go_sem]) ⟨⟨_,_,rfl,?_,?_⟩,?_⟩
   ·have h1:=f0C smq.out rq.out;have h2:=IsN.put h1 HK6.out (.deferred none);rw[← hfin.out.1];exact h2
   ·have h2:=IsN.put V6.out HK6.out (.deferred none);rwa[hfin.out.2]at h2
   ·exact (a0a BW.out B6.out).trans (belowK_b (w:=w) (Nat.le_refl _) _ D _ _ (by omega) HK6.out rfl rfl)
  case body=>
   rintro l pre ⟨j,z⟩ W ⟨hj,-⟩ ⟨⟨o2,Q,hD,hU,hQ⟩,hKp⟩;dsimp only at hj;rw[show K-pre.length=j+1 by omega]at hD;have hol:o2.length=A+1:=hD.lo;have hql:Q.length=K:=by rw[hD.lq];omega
   have hV:=hid (a0p (b*d));have hSI:=hid (show StepIn o2 (limbs (b*d)) j m from⟨hm2,by omega,HS.out,by rw[hol];omega,by rw[hol];omega,hD.so,a0j _,g0O (n:=m-1) (by rw[HS.out];omega),by rw[hV.out];exact hD.win (by omega)⟩);obtain⟨zq,hzq⟩:∃ z,Q[j]?=some z:=⟨_,List.getElem?_eq_getElem (by omega)⟩;have k9:=hKp.blk Y9'.out (by omega) (by simp;omega);have k10:=hKp.blk Y10'.out (by omega) (by simp;omega);have k11:=hKp.blk Y11.out (by omega) (by simp);have k12:=hKp.blk Y12.out (by omega) (by simp);have kv:ArrP .u64 122 W gv (limbs (b*d)):=by
    obtain⟨cs,h1,h2⟩:=V0.out;exact⟨cs,hKp.blk h1 (by omega) (by simp;omega),h2⟩
   have rv:=hid (show Row W (.slice (some ⟨gv,0,none⟩) m cv) (ints .u64 (limbs (b*d))) from by
    have:=kv.row (n:=m) (c:=cv) (by rw[HS.out];exact Nat.le_refl _) hcv hcvm;rwa[List.take_of_length_le (by rw[HS.out];exact Nat.le_refl _)]at this)
   have c9:=k9.cell 0;have c10:=k10.cell 0;have c11:=k11.cell 0;have c12:=k12.cell 0;simp only[List.getElem?_toArray,List.getElem?_cons_zero]at c9 c10 c11 c12;have HJ:=hid hj;have HD:=hid hD;have HU:=hid hU;have HQ:=hid hQ;have HKP:=hid hKp;have HQL:=hid hql;have HZQ:=hid hzq;have K9:=hid k9;have K10:=hid k10;have K11:=hid k11;have K12:=hid k12;have f1:(0:Int)≤(j:Int):=by omega
   have f2:(j:Int)<(K:Int):=by omega
   have f3:(j:Int)+(m:Int)+1≤(cu:Int):=by omega
   have f4:(j:Int)≤(j:Int)+(m:Int)+1:=by omega
   have hjm:j+m≤2000002:=by omega
   clear hj hD hU hQ hKp hql hzq hol k9 k10 k11 k12 kv;have e1:IntKind.i64.wrap ((j:Int)+m)=(j:Int)+m:=IntWalk.i64_in _ (by omega);have e2:IntKind.i64.wrap ((j:Int)+m+1)=(j:Int)+m+1:=IntWalk.i64_in _ (by omega);have e3:((j:Int)+m+1).toNat=j+m+1:=by omega
   gi_wp2
   refine c0F 10 (fun W'=>W'.cell? ⟨wr.heap.size+1+1,0,none⟩=some (.slice (some ⟨wr.heap.size+1,0,none⟩) K K)∧W'.cell? ⟨w4.heap.size,0,none⟩=some (.slice (some ⟨gu,0,none⟩) (A+1) cu)∧W'.cell? ⟨wr.heap.size,0,none⟩=some (.int .i64 (m:Int))∧W'.cell? ⟨w4.heap.size+1,0,none⟩=some (.slice (some ⟨gv,0,none⟩) m cv)) (by kernel_rfl) (by kernel_rfl) (by kernel_rfl) rfl (by kernel_rfl) ⟨c12,c9,c11,c10⟩ ?_;simp only[List.take_succ_cons,List.take_zero]
   iterate 10
    apply Exists.intro
    refine⟨.inl ⟨by rfl,?_⟩,?_⟩
    ·(intro W' hW'
      obtain⟨q1,q2,q3,q4⟩:=hW'
      go_simp
      try (with_reducible rfl))
    simp only[Act.put,List.setIfInBounds_toArray,List.set_cons_zero,List.set_cons_succ]
   refine a0b (i:=10) (by kernel_rfl) (by rfl) (by rfl) ?_;go_wp2_with fail;rw[show j+m+1-j=m+1 by omega];refine (j0H _ gu j _ o2 gv 0 _ (limbs (b*d)) m hSI.out (HU.out.drewN 1) (rv.out.drewN 1) (by omega)).mono ?_;rintro e w5 ⟨he,o5,hw5,hA5,hg5⟩;rw[hV.out]at he hw5;have HN5:=hid (HD.out.next (by omega) hw5);obtain⟨qv,hqv⟩:∃ q,val ((o2.drop j).take (m+1)) / (b*d)=q:=⟨_,rfl⟩;rw[hqv]at he HN5;subst he;have A5:=hid hA5;have G5:=hid (show W.grownBy w5 (some gu) from⟨hg5.os,hg5.tape,hg5.output,hg5.size,hg5.block⟩);have Q5:=hid (Arr.gb HQ.out G5.out (by omega));have s12:=c0b G5.out c12 (by simp<;>omega);have s9:=c0b G5.out c9 (by simp<;>omega);have s11:=c0b G5.out c11 (by simp<;>omega);have s10:=c0b G5.out c10 (by simp<;>omega);have d3:=Q5.out.cell HZQ.out;have d4:=Q5.out.free j;clear hw5 hA5 hg5 hqv c9 c10 c11 c12;go_wp2_with fail;refine⟨⟨s12,s9,s11,s10⟩,a0b (i:=11) (by kernel_rfl) (by rfl) (by rfl) ?_⟩;go_wp2_with fail;refine⟨⟨s12,s9,s11,s10⟩,a0b (i:=12) (by kernel_rfl) (by rfl) (by rfl) ?_⟩;go_wp2_with fail;have q5:=Q5.out.set j qv;refine⟨⟨?_,?_,?_,?_⟩,wpAnyH_done (by kernel_rfl) ?_ _⟩
   ·rw[World.cell?_setCell_other _ _ _ _ (by simp<;>omega)];exact s12
   ·rw[World.cell?_setCell_other _ _ _ _ (by simp<;>omega)];exact s9
   ·rw[World.cell?_setCell_other _ _ _ _ (by simp<;>omega)];exact s11
   ·rw[World.cell?_setCell_other _ _ _ _ (by simp<;>omega)];exact s10
   simp only[a0o]
   gi_wp2
   have k13:=HKP.out.blk Y13.out (by omega) (by simp<;>omega);have l13:=k13.lt;refine⟨(KeepsFrom.of_grownBy G5.out (fun k e=>by injection e;omega)).trans ((KeepsOthers.setCell _ _ _).from _),⟨?_,fun _=>⟨_,q5,by rw[List.length_set,HQL.out]⟩⟩,⟨o5,_,?_,A5.out.other (by simp<;>omega) _,q5⟩,(HKP.out.grown G5.out (fun k e=>by injection e;omega)).set (.inr (.inl rfl)) _⟩
   ·rw[Below.heap_setCell _ _ _ _ (by simp<;>omega)];exact G5.out.block _ l13 (by simp<;>omega)
   ·rw[List.length_append,List.length_singleton,show K-(pre.length+1)=j by have:=HJ.out;omega];exact HN5.out
theorem e0c (w:World)(v u:Value)(a b:Nat)(ha:IsN .u64 w v a)(hb:IsN .u64 w u b)(h0:0<b)(hla:(limbs a).length≤1000000):
 Calls Tryz.prog 146 #[v,u] w fun e w'=>m0B .u64 (a / b) (a%b) e w'∧Below w.heap.size w w':=by
 by_cases hlt:a<b
 ·exact f0W w v u a b ha hb hlt hla
 ·by_cases h1:b<1000000000
  ·exact g0R w v u a b ha hb (by omega) h0 h1 hla
  ·refine f0V w v u a b _ ha hb (by omega) rfl ?_ hla;have:1<(limbs b).length:=a0L.2 (by omega);omega
end Go.Proofs.YtlimaehdmcnjaaaGreatDoor
namespace Go.Proofs.YtlimaehdmcnjaaaGreatDoor
open Go.RowKit
theorem r0s (w:World)(v u:Value)(a b:Nat)(ha:IsN .u64 w v a)(hb:IsN .u64 w u b)(hla:(limbs a).length≤1000000)(hlb:(limbs b).length≤1000000):
 Calls Tryz.prog 132 #[v,u] w fun e w'=>g0l .u64 (Nat.gcd a b) e w'∧Below w.heap.size w w':=by
 have HA:=hid ha;have HB:=hid hb;have LA:=hid hla;have LB:=hid hlb;clear ha hb hla hlb;go_enter Tryz.func132,Tryz.ntmps132;go_wp2_with fail
 go_loopw [0,1,5,6] (fun x y q r wr=>∃ m n:Nat,Hid (IsN .u64 wr x m)∧Hid (IsN .u64 wr y n)∧Hid ((limbs m).length≤1000000)∧Hid ((limbs n).length≤1000000)∧Hid (Nat.gcd m n=Nat.gcd a b)∧Hid (Below w.heap.size w wr))
  (fun x y q r wr=>n0s .u64 wr y)
 case atStart=>exact⟨a,b,HA,HB,LA,LB,rfl,Below.refl _ _⟩
 case round=>
  obtain⟨m,n,hx,hy,hm,hn,hg,hB⟩:=hrel;have hnum:=hid (e0a hy.out);obtain⟨a1,c1,rfl,h1,h1',h1''⟩:=hx.out.openI;obtain⟨a2,c2,rfl,h2,h2',h2''⟩:=hy.out.openI;clear h1'' h2'';by_cases h0:n=0
  ·subst h0;have hl:(limbs 0).length=0:=by rw[limbs_zero];rfl
   rw[hl]at *;clear hl;go_wp2_with fail;go_ret
   exact⟨⟨_,rfl,by rw[← hg.out,Nat.gcd_zero_right];exact hx.out⟩,hB.out⟩
  ·have hpos:0<(limbs n).length:=List.length_pos_iff.2 (fun e=>h0 (a0Q.1 e));have q0:decide ((0:Int)<((limbs n).length:Int))=true:=by simp;omega
   go_wp2_with fail;refine (e0c _ _ _ m n hx.out hy.out (by omega) hm.out).mono ?_;rintro e w1 ⟨⟨v1,v2,rfl,hv1,hv2⟩,hb1⟩;have V2:=hid hv2;have B1:=hid (a0a hB.out hb1);have Y1:=hid (hy.out.call hb1);have hlt:=hid (Nat.mod_lt m (y:=n) (by omega));have hll:=hid (show (limbs (m%n)).length≤1000000 from Nat.le_trans (a0h (Nat.le_of_lt hlt.out)) hn.out);have hgg:=hid (show Nat.gcd n (m%n)=Nat.gcd a b from by rw[← hg.out,Nat.gcd_comm m n,Nat.gcd_rec n m,Nat.gcd_comm]) ;clear hv1 hv2 hb1;go_wp2_with fail;go_roundw
   case rel=>exact⟨n,m%n,Y1,V2,hn,hll,hgg,B1⟩
   case measure=>rw[e0a V2.out,hnum.out];exact hlt.out
open Go.Shelf
open Go.Lib (decDigits nDigits)
theorem l0e (n:Nat):0<nDigits n:=by
 have h:=Go.Lib.lt_pow_nDigits n;rcases Nat.eq_zero_or_pos (nDigits n) with e | e
 ·rw[← Go.Lib.decDigits_length]at e;exact absurd (List.eq_nil_of_length_eq_zero e) (c0B n)
 ·exact e
def a0T (l:List ByteArray):List Value:=l.map Value.string
@[simp] theorem strs_length (l:List ByteArray):(a0T l).length=l.length:=by simp[a0T]
theorem m0L {l:List ByteArray}{i:Nat}{b:ByteArray}(h:l[i]?=some b):(a0T l)[i]?=some (.string b):=by simp[a0T,h]
theorem Row.openS {w:World}{v:Value}{l:List ByteArray}(h:Row w v (a0T l)):∃ a c,v=.slice a l.length c∧l.length≤c∧c≤9223372036854775807∧∀ (i:Nat) (x:ByteArray),l[i]?=some x→∃ g o,a=some ⟨g,o,none⟩∧g<w.heap.size∧w.cell? ⟨g,o+i,none⟩=some (.string x):=by
 obtain⟨a,c,rfl,h1,h2,h3⟩:=h.ex;rw[strs_length]at *;exact⟨a,c,rfl,h1,by unfold maxLen at h2;omega,fun i x hx=>h3 i _ (m0L hx)⟩
end Go.Proofs.YtlimaehdmcnjaaaGreatDoor
namespace Go.Proofs.YtlimaehdmcnjaaaGreatDoor
open Go.RowKit
def isZ (n:Nat):Bool:=decide (n=0)
def isO (n:Nat):Bool:=decide (n=1)
theorem l0w {n:Nat}:isZ n=true↔n=0:=by simp[isZ]
theorem c0Q {n:Nat}:isO n=true↔n=1:=by simp[isO]
theorem e0W {n:Nat}:(limbs n).length=0↔n=0:=by
 rw[List.length_eq_zero_iff];exact a0Q
theorem f0n (w:World)(v:Value)(n:Nat)(h:IsN .u64 w v n):Calls Tryz.prog 91 #[v] w fun e w'=>e=.returned (.bool (isZ n))∧w=w':=by
 obtain⟨a,c,rfl,h1,h2,-⟩:=h.openI;obtain⟨L,hL⟩:∃ L,(limbs n).length=L:=⟨_,rfl⟩;have hz:isZ n=((L:Int)==0):=by
  rw[Bool.eq_iff_iff,l0w,beq_iff_eq];rw[← e0W,hL];omega
 have HZ:=hid hz;rw[hL];clear h hL hz h1;go_enter Tryz.func91,Tryz.ntmps91;go_wp2_with fail;go_ret
 exact⟨by rw[HZ.out];first | rfl | simp,rfl⟩
theorem h0P (w:World)(v:Value)(n:Nat)(h:IsN .u64 w v n):Calls Tryz.prog 61 #[v] w fun e w'=>e=.returned (.bool (isO n))∧w=w':=by
 obtain⟨a,c,rfl,h1,h2,h3⟩:=h.openI;by_cases hl:(limbs n).length=1
 ·obtain⟨x,hx⟩:∃ x,(limbs n)[0]?=some x:=⟨_,List.getElem?_eq_getElem (by omega)⟩;obtain⟨g,o,rfl,hg,hc⟩:=h3 0 x hx;rw[Nat.add_zero]at hc;have hn:n=x:=by
   have h4:limbs n = [x]:=by
    apply List.ext_getElem?
    intro i;rcases i with _ | i
    ·exact hx
    ·rw[List.getElem?_eq_none (by omega)];simp
   have:=a0p n;rw[h4]at this;simpa[a0F]using this.symm
  subst hn;have HL:=hid hl;rw[hl];clear hl hx h3 h h1;by_cases h1:n=1
  ·subst h1;go_enter Tryz.func61,Tryz.ntmps61;go_wp2_with fail;go_ret
   exact⟨rfl,rfl⟩
  ·have q1:((n:Int)==1)=false:=beq_eq_false_iff_ne.2 (by omega);have H1:=hid (show isO n=false by simp[isO,h1]);clear h1;go_enter Tryz.func61,Tryz.ntmps61;go_wp2_with fail;go_ret
   exact⟨i0s (by rw[H1.out]),rfl⟩
 ·obtain⟨L,hL⟩:∃ L,(limbs n).length=L:=⟨_,rfl⟩;have hn:isO n=false:=by
   refine Bool.eq_false_iff.2 fun e=>hl ?_
   rw[c0Q.1 e,e0y];rfl
  rw[hL]at hl ⊢;have q1:((L:Int)==1)=false:=beq_eq_false_iff_ne.2 (by omega);have H1:=hid hn;clear hl hn hL h h3 h1;go_enter Tryz.func61,Tryz.ntmps61;go_wp2_with fail;go_ret
  exact⟨i0s (by rw[H1.out]),rfl⟩
open Go.Lib (decDigits nDigits)
theorem l0L (w:World):Calls Tryz.prog 44 #[] w fun e w'=>d0Q .u64 0 e w'∧Below w.heap.size w w':=by
 go_enter Tryz.func44,Tryz.ntmps44;go_wp2_with fail;refine (r0r _ 1 (by omega)).mono ?_;rintro e w1 ⟨⟨v1,rfl,hv1⟩,hb1⟩;obtain⟨a3,c3,rfl,_⟩:=hv1.openI;have HV:=hid hv1;have HB:=hid (show Blk w1 w.heap.size #[.bool false,.slice none 0 0,.slice none 0 0] 57 from (Blk.new w _ _).call hb1);have d0:=HB.out.cell 0;have d1:=HB.out.cell 1;have d2:=HB.out.cell 2;have e0:=HB.out.free 0;have e1:=HB.out.free 1;have e2:=HB.out.free 2;have HBB:=hid hb1;clear hb1 hv1;simp at d0 d1 d2;go_wp2_with fail;obtain⟨s1,s2⟩:=b0d HB.out false none a3 0 0 (limbs 1).length c3;have f0:=s2.cell 0;have f1:=s2.cell 1;have f2:=s2.cell 2;simp at f0 f1 f2;refine bodyPost_ret (v:=.agg #[.bool false,.slice none 0 0,.slice a3 (limbs 1).length c3]) (by simp[results,Tryz.results44,go_sem,f0,f1,f2]) rfl ⟨⟨_,rfl,IsQ.zero_ (s1 _ _ _ (IsN.zero _ _)) (s1 _ _ _ HV.out)⟩,?_⟩;exact (((((Below.refl _ _).alloc (Nat.le_refl _) _).trans (HBB.out.mono (by simp))).setCell (Nat.le_refl _) _).setCell (Nat.le_refl _) _).setCell (Nat.le_refl _) _
theorem k0N {m:Bool}{n d:Nat}(hn:0<n)(hd:0<d){k:IntKind}{w:World}{N D:Value}(hg:Nat.gcd n d=1)(h1:IsN k w N n)(h2:IsN k w D d):IsQ k w (.agg #[.bool m,N,D]) (qmk m n d):=
 IsQ.mk' hn hd (by rw[hg,Nat.div_one];exact h1) (by rw[hg,Nat.div_one];exact h2)
theorem i0U (w:World)(m:Bool)(v u:Value)(n d:Nat)(hn:IsN .u64 w v n)(hd:IsN .u64 w u d)(h0:0<d)(hln:(limbs n).length≤1000000)(hld:(limbs d).length≤1000000):
 Calls Tryz.prog 98 #[.bool m,v,u] w fun e w'=>d0Q .u64 (qmk m n d) e w'∧Below w.heap.size w w':=by
 have HN:=hid hn;have HD:=hid hd;obtain⟨a1,c1,rfl,_⟩:=hn.openI;obtain⟨a2,c2,rfl,_⟩:=hd.openI;obtain⟨k1,hk1⟩:∃ k,(limbs n).length=k:=⟨_,rfl⟩;obtain⟨k2,hk2⟩:∃ k,(limbs d).length=k:=⟨_,rfl⟩;have LN:=hid hln;have LD:=hid hld;have H0:=hid h0;rw[hk1]at HN ⊢;rw[hk2]at HD ⊢;have b0:=hid ((Below.refl w.heap.size w).alloc (Nat.le_refl _) (.cells #[.bool false,.slice none 0 0,.slice none 0 0] 57));have x0:=hid (Blk.new w #[.bool false,.slice none 0 0,.slice none 0 0] 57);have N0:=hid (HN.out.call b0.out);have D0:=hid (HD.out.call b0.out);clear hn hd hln hld h0 hk1 hk2;rcases Nat.eq_zero_or_pos n with rfl | hp
 ·have hq:=hid (i0z m d);rw[hq.out];have hz:isZ 0=true:=rfl;go_enter Tryz.func98,Tryz.ntmps98;go_wp2_with fail;refine (f0n _ _ _ N0.out).mono ?_;rintro e w1 ⟨rfl,rfl⟩;rw[hz];clear hz;go_wp2_with fail;refine (l0L _).mono ?_;rintro e w1 ⟨⟨v1,rfl,hv1⟩,hb1⟩;obtain⟨M,D,rfl,h2,h3⟩:=hv1.ex;obtain⟨a3,c3,rfl,_⟩:=h2.openI;obtain⟨a4,c4,rfl,_⟩:=h3.openI;have hm:decide ((0:Rat).num<0)=false:=rfl;rw[hm];have HB:=hid (x0.out.call hb1);have BB:=hid (a0a b0.out hb1);have d0:=HB.out.cell 0;have d1:=HB.out.cell 1;have d2:=HB.out.cell 2;have e0:=HB.out.free 0;have e1:=HB.out.free 1;have e2:=HB.out.free 2;have H2:=hid h2;have H3:=hid h3;clear hb1 hv1 h2 h3 hm;simp at d0 d1 d2;obtain⟨l1,hl1⟩:∃ k,(limbs (0:Rat).num.natAbs).length=k:=⟨_,rfl⟩;obtain⟨l2,hl2⟩:∃ k,(limbs (0:Rat).den).length=k:=⟨_,rfl⟩;rw[hl1]at H2 ⊢;rw[hl2]at H3 ⊢;clear hl1 hl2;go_wp2_with fail;obtain⟨s1,s2⟩:=b0d HB.out false a3 a4 l1 c3 l2 c4;have f0:=s2.cell 0;have f1:=s2.cell 1;have f2:=s2.cell 2;simp at f0 f1 f2;refine bodyPost_ret (v:=.agg #[.bool false,.slice a3 l1 c3,.slice a4 l2 c4]) (by simp[results,Tryz.results98,go_sem,f0,f1,f2]) rfl ⟨⟨_,rfl,⟨_,_,rfl,s1 _ _ _ H2.out,s1 _ _ _ H3.out⟩⟩,?_⟩;exact ((BB.out.setCell (Nat.le_refl _) _).setCell (Nat.le_refl _) _).setCell (Nat.le_refl _) _
 ·have hz:isZ n=false:=by unfold isZ;simpa using (by omega:n≠0)
  have HP:=hid hp;clear hp;by_cases h1:d=1
  ·have ho:isO d=true:=c0Q.2 h1;have HG:=hid (show Nat.gcd n d=1 by rw[h1,Nat.gcd_one_right]);clear h1;go_enter Tryz.func98,Tryz.ntmps98;go_wp2_with fail;refine (f0n _ _ _ N0.out).mono ?_;rintro e w1 ⟨rfl,rfl⟩;rw[hz];clear hz;go_wp2_with fail;refine (h0P _ _ _ D0.out).mono ?_;rintro e w1 ⟨rfl,rfl⟩;rw[ho];clear ho;go_wp2_with fail;have hB:=Blk.new w #[.bool m,.slice a1 k1 c1,.slice a2 k2 c2] 57;have f0:=hB.cell 0;have f1:=hB.cell 1;have f2:=hB.cell 2;simp at f0 f1 f2;have b1:=(Below.refl w.heap.size w).alloc (Nat.le_refl _) (.cells #[.bool m,.slice a1 k1 c1,.slice a2 k2 c2] 57);refine bodyPost_ret (v:=.agg #[.bool m,.slice a1 k1 c1,.slice a2 k2 c2]) (by simp[results,Tryz.results98,go_sem]) rfl ⟨⟨_,rfl,k0N HP.out H0.out HG.out (HN.out.call b1) (HD.out.call b1)⟩,b1⟩
  ·have ho:isO d=false:=by unfold isO;simpa using h1
   obtain⟨g,hg⟩:∃ g,Nat.gcd n d=g:=⟨_,rfl⟩;have hgp:0<g:=hg ▸ Nat.gcd_pos_of_pos_left d HP.out;have HG:=hid hg;have HGP:=hid hgp;clear h1 hg hgp;go_enter Tryz.func98,Tryz.ntmps98;go_wp2_with fail;refine (f0n _ _ _ N0.out).mono ?_;rintro e w1 ⟨rfl,rfl⟩;rw[hz];clear hz;go_wp2_with fail;refine (h0P _ _ _ D0.out).mono ?_;rintro e w1 ⟨rfl,rfl⟩;rw[ho];clear ho;go_wp2_with fail;refine (r0s _ _ _ _ _ N0.out D0.out LN.out LD.out).mono ?_;rintro e w1 ⟨⟨v1,rfl,hv1⟩,hb1⟩;rw[HG.out]at hv1;have x1:=hid (x0.out.call hb1);have b1:=hid (a0a b0.out hb1);have N1:=hid (N0.out.call hb1);have D1:=hid (D0.out.call hb1);have G1:=hid hv1;clear hb1 hv1;obtain⟨a5,c5,rfl,_⟩:=G1.out.openI;obtain⟨k5,hk5⟩:∃ k,(limbs g).length=k:=⟨_,rfl⟩;rw[hk5]at G1 ⊢;clear hk5;go_wp2_with fail;refine (h0P _ _ _ G1.out).mono ?_;rintro e w2 ⟨rfl,rfl⟩;by_cases hg1:g=1
   ·have ho:isO g=true:=c0Q.2 hg1;have HG1:=hid (show Nat.gcd n d=1 by rw[HG.out,hg1]);rw[ho];have d0:=x1.out.cell 0;have d1:=x1.out.cell 1;have d2:=x1.out.cell 2;have e0:=x1.out.free 0;have e1:=x1.out.free 1;have e2:=x1.out.free 2;simp at d0 d1 d2;clear ho hg1;go_wp2_with fail;obtain⟨s1,s2⟩:=b0d x1.out m a1 a2 k1 c1 k2 c2;have f0:=s2.cell 0;have f1:=s2.cell 1;have f2:=s2.cell 2;simp at f0 f1 f2;refine bodyPost_ret (v:=.agg #[.bool m,.slice a1 k1 c1,.slice a2 k2 c2]) (by simp[results,Tryz.results98,go_sem,f0,f1,f2]) rfl ⟨⟨_,rfl,k0N HP.out H0.out HG1.out (s1 _ _ _ N1.out) (s1 _ _ _ D1.out)⟩,?_⟩;exact ((b1.out.setCell (Nat.le_refl _) _).setCell (Nat.le_refl _) _).setCell (Nat.le_refl _) _
   ·have ho:isO g=false:=by unfold isO;simpa using hg1
    rw[ho];clear ho hg1;go_wp2_with fail;refine (e0c _ _ _ n g N1.out G1.out HGP.out LN.out).mono ?_;rintro e w2 ⟨⟨v2,v3,rfl,hv2,-⟩,hb2⟩;have x2:=hid (x1.out.call hb2);have b2:=hid (a0a b1.out hb2);have D2:=hid (D1.out.call hb2);have G2:=hid (G1.out.call hb2);have V2:=hid hv2;clear hb2 hv2;go_wp2_with fail;refine (e0c _ _ _ d g D2.out G2.out HGP.out LD.out).mono ?_;rintro e w3 ⟨⟨v4,v5,rfl,hv4,-⟩,hb3⟩;have x3:=hid (x2.out.call hb3);have b3:=hid (a0a b2.out hb3);have W2:=hid (V2.out.call hb3);have W4:=hid hv4;clear hb3 hv4;obtain⟨a6,c6,rfl,_⟩:=W2.out.openI;obtain⟨a7,c7,rfl,_⟩:=W4.out.openI;have d0:=x3.out.cell 0;have d1:=x3.out.cell 1;have d2:=x3.out.cell 2;have e0:=x3.out.free 0;have e1:=x3.out.free 1;have e2:=x3.out.free 2;simp at d0 d1 d2;go_wp2_with fail;obtain⟨s1,s2⟩:=b0d x3.out m a6 a7 (limbs (n / g)).length c6 (limbs (d / g)).length c7;have f0:=s2.cell 0;have f1:=s2.cell 1;have f2:=s2.cell 2;simp at f0 f1 f2;refine bodyPost_ret (v:=.agg #[.bool m,.slice a6 (limbs (n / g)).length c6,.slice a7 (limbs (d / g)).length c7]) (by simp[results,Tryz.results98,go_sem,f0,f1,f2]) rfl ⟨⟨_,rfl,IsQ.mk' HP.out H0.out (HG.out ▸ s1 _ _ _ W2.out) (HG.out ▸ s1 _ _ _ W4.out)⟩,?_⟩;exact ((b3.out.setCell (Nat.le_refl _) _).setCell (Nat.le_refl _) _).setCell (Nat.le_refl _) _
theorem k0W {q:Rat}(h:ovQ q):d0A q=⟨#[]⟩:=if_pos h
theorem p0p {q:Rat}(h:¬ ovQ q):d0A q=txQ q:=if_neg h
theorem k0U {q:Rat}(h:ovQ q):d0g q=5:=if_pos h
theorem p0o {q:Rat}(h:¬ ovQ q):d0g q=0:=if_neg h
theorem b0U (a b:ByteArray):(a++b).data.toList=a.data.toList++b.data.toList:=by simp
theorem q0F (n:Nat):txB false n 1=b0h n:=by apply b0b;simp[txB,b0h]
theorem q0D (n:Nat):txB true n 1=⟨#[45]⟩++b0h n:=by apply b0b;rw[b0U,b0w,a0D];simp
theorem q0E (n d:Nat)(h:d≠1):txB false n d=b0h n++(⟨#[47]⟩++b0h d):=by apply b0b;rw[b0U,b0U,b0w,a0D,a0D,if_neg h];simp
theorem q0C (n d:Nat)(h:d≠1):txB true n d=⟨#[45]⟩++b0h n++(⟨#[47]⟩++b0h d):=by apply b0b;rw[b0U,b0U,b0U,b0w,a0D,a0D,if_neg h];simp
theorem r0y (w:World)(v:Value)(q:Rat)(h:IsQ .u64 w v q)(h1:(limbs q.num.natAbs).length≤1000000)(h2:(limbs q.den).length≤1000000)(hL:Lay w):
 Calls Tryz.prog 104 #[v] w fun e w'=>e=.returned (.tuple #[.string (d0A q),.int .i64 (d0g q)])∧Below w.heap.size w w':=by
 obtain⟨N,D,rfl,hn,hd⟩:=h.ex;obtain⟨m,hm⟩:∃ m,decide (q.num<0)=m:=⟨_,rfl⟩;have HN:=hid hn;have HD:=hid hd;have HM:=hid hm;have HL:=hid hL;have L1:=hid h1;have L2:=hid h2;rw[hm];obtain⟨a1,c1,rfl,_⟩:=hn.openI;obtain⟨a2,c2,rfl,_⟩:=hd.openI;obtain⟨k1,hk1⟩:∃ k,(limbs q.num.natAbs).length=k:=⟨_,rfl⟩;obtain⟨k2,hk2⟩:∃ k,(limbs q.den).length=k:=⟨_,rfl⟩;rw[hk1]at HN ⊢;rw[hk2]at HD ⊢;have b0:=hid ((Below.refl w.heap.size w).alloc (Nat.le_refl _) (.cells #[.bool m,.slice a1 k1 c1,.slice a2 k2 c2] 57));have x0:=hid (Blk.new w #[.bool m,.slice a1 k1 c1,.slice a2 k2 c2] 57);have N0:=hid (HN.out.call b0.out);have D0:=hid (HD.out.call b0.out);clear hn hd hm h hk1 hk2 hL h1 h2;by_cases o1:4000<nDigits q.num.natAbs
 ·have ho:ovQ q:=.inl o1;rw[k0W ho,k0U ho];have q0:decide ((4000:Int)<(nDigits q.num.natAbs:Nat))=true:=by simp;omega
  clear o1 ho;go_enter Tryz.func104,Tryz.ntmps104;go_wp2_with fail;refine (c0x _ _ _ N0.out (HL.out.call b0.out) L1.out).mono ?_;rintro e w1 ⟨rfl,hb1⟩;have b1:=hid (a0a b0.out hb1);clear hb1;go_wp2_with fail;go_ret2
  exact⟨rfl,b1.out⟩
 ·have q0:decide ((4000:Int)<(nDigits q.num.natAbs:Nat))=false:=by simp;omega
  by_cases o2:4000<nDigits q.den
  ·have ho:ovQ q:=.inr o2;rw[k0W ho,k0U ho];have q1:decide ((4000:Int)<(nDigits q.den:Nat))=true:=by simp;omega
   clear o1 ho o2;go_enter Tryz.func104,Tryz.ntmps104;go_wp2_with fail;refine (c0x _ _ _ N0.out (HL.out.call b0.out) L1.out).mono ?_;rintro e w1 ⟨rfl,hb1⟩;have b1:=hid (a0a b0.out hb1);have D1:=hid (D0.out.call hb1);have x1:=x0.out.call hb1;have r2:=x1.cell 2;simp at r2;clear hb1 x1;go_wp2_with fail;refine (c0x _ _ _ D1.out (HL.out.call b1.out) L2.out).mono ?_;rintro e w2 ⟨rfl,hb2⟩;have b2:=hid (a0a b1.out hb2);clear hb2 r2;go_wp2_with fail;go_ret2
   exact⟨rfl,b2.out⟩
  ·have ho:¬ ovQ q:=fun h=>h.elim o1 o2
   rw[p0p ho,p0o ho];have q1:decide ((4000:Int)<(nDigits q.den:Nat))=false:=by simp;omega
   obtain⟨z,hz⟩:∃ z,isO q.den=z:=⟨_,rfl⟩;have HO:=fun W h=>hid (h0P W (.slice a2 k2 c2) q.den h)
   rw[hz]at HO;have HT:Hid (txQ q=txB m q.num.natAbs q.den):=by rw[← HM.out];rfl
   have HZ:=hid hz;rw[HT.out];obtain⟨T,hT⟩:∃ T,txB m q.num.natAbs q.den=T:=⟨_,rfl⟩;have HTT:=hid hT;rw[hT];have HS1:=fun W hv hL=>hid (f0X W (.slice a1 k1 c1) q.num.natAbs hv hL L1.out)
   have HS2:=fun W hv hL=>hid (f0X W (.slice a2 k2 c2) q.den hv hL L2.out)
   have en:(⟨(Lib.decDigits q.num.natAbs).toArray⟩:ByteArray)=b0h q.num.natAbs:=rfl;have ed:(⟨(Lib.decDigits q.den).toArray⟩:ByteArray)=b0h q.den:=rfl;rw[en]at HS1;rw[ed]at HS2;obtain⟨sn,hsn⟩:∃ s,b0h q.num.natAbs=s:=⟨_,rfl⟩;obtain⟨sd,hsd⟩:∃ s,b0h q.den=s:=⟨_,rfl⟩;rw[hsn]at HS1;rw[hsd]at HS2;have HSN:=hid hsn;have HSD:=hid hsd;have hs1:sn.size≤4000:=by rw[← hsn,a0P];omega
   have hs2:sd.size≤4000:=by rw[← hsd,a0P];omega
   clear o1 ho o2 hT hz en ed hsn hsd;go_enter Tryz.func104,Tryz.ntmps104;go_wp2_with fail;refine (c0x _ _ _ N0.out (HL.out.call b0.out) L1.out).mono ?_;rintro e w1 ⟨rfl,hb1⟩;have b1:=hid (a0a b0.out hb1);have D1:=hid (D0.out.call hb1);have x1:=hid (x0.out.call hb1);have N1:=hid (N0.out.call hb1);have r2:=x1.out.cell 2;simp at r2;clear hb1;go_wp2_with fail;refine (c0x _ _ _ D1.out (HL.out.call b1.out) L2.out).mono ?_;rintro e w2 ⟨rfl,hb2⟩;have b2:=hid (a0a b1.out hb2);have D2:=hid (D1.out.call hb2);have x2:=hid (x1.out.call hb2);have N2:=hid (N1.out.call hb2);have r1:=x2.out.cell 1;simp at r1;clear hb2 r2;go_wp2_with fail;refine (HS1 _ N2.out (HL.out.call b2.out)).out.mono ?_;rintro e w3 ⟨rfl,hb3⟩;have b3:=hid (a0a b2.out hb3);have D3:=hid (D2.out.call hb3);have x3:=hid (x2.out.call hb3);have r0:=x3.out.cell 0;have r2:=x3.out.cell 2;simp at r0 r2;clear hb3 r1 HS1;cases m
   ·go_wp2_with fail;refine (HO _ D3.out).out.mono ?_;rintro e w4 ⟨rfl,rfl⟩;cases z
    ·go_wp2_with fail;refine (HS2 _ D3.out (HL.out.call b3.out)).out.mono ?_;rintro e w5 ⟨rfl,hb5⟩;have b5:=hid (a0a b3.out hb5);clear hb5 r0 r2;go_wp2_with fail;go_ret2
     have hTe:T=sn++(⟨#[47]⟩++sd):=by rw[← HTT.out,q0E _ _ (of_decide_eq_false HZ.out),HSN.out,HSD.out]
     exact⟨by rw[hTe];rfl,b5.out⟩
    ·go_wp2_with fail;go_ret2
     have hTe:T=sn:=by rw[← HTT.out,c0Q.1 HZ.out,q0F,HSN.out]
     exact⟨by rw[hTe];rfl,b3.out⟩
   ·go_wp2_with fail;refine (HO _ D3.out).out.mono ?_;rintro e w4 ⟨rfl,rfl⟩;cases z
    ·go_wp2_with fail;refine (HS2 _ D3.out (HL.out.call b3.out)).out.mono ?_;rintro e w5 ⟨rfl,hb5⟩;have b5:=hid (a0a b3.out hb5);clear hb5 r0 r2;go_wp2_with fail;go_ret2
     have hTe:T=⟨#[45]⟩++sn++(⟨#[47]⟩++sd):=by rw[← HTT.out,q0C _ _ (of_decide_eq_false HZ.out),HSN.out,HSD.out]
     exact⟨by rw[hTe];rfl,b5.out⟩
    ·go_wp2_with fail;go_ret2
     have hTe:T=⟨#[45]⟩++sn:=by rw[← HTT.out,c0Q.1 HZ.out,q0D,HSN.out]
     exact⟨by rw[hTe];rfl,b3.out⟩
open Go.Shelf
theorem r0Z {x y:ByteArray}(h:¬ x=y):¬ x.toList=y.toList:=fun e=>h (by
 rw[Lib.toList_data,Lib.toList_data]at e;exact b0b e)
theorem e0E:(Tryz.prog.info? 23).map (fun i=>(i.zero,i.size,i.bytes))=some (some (.string ⟨#[]⟩),1,16):=by kernel_rfl
theorem k0t (l:List ByteArray):∀ u∈a0T l,u.oneCell'=true:=by
 intro u hu;obtain⟨x,_,rfl⟩:=List.mem_map.1 hu
 rfl
theorem p0B (w:World)(v:Value)(l:List ByteArray)(hv:Row w v (a0T l))(hl:l.length≤1000000):
 Calls Tryz.prog 15 #[v] w fun e w'=>(∃ u,e=.returned u∧w'.ownsRow w.heap.size 23 1 u l.length (a0T l))∧Below w.heap.size w w':=by
 obtain⟨i0,hi,hz0,hz1,hz2⟩:=info_parts e0E;obtain⟨a,c,rfl,q1,q2,q3⟩:=hv.ex;rw[strs_length]at *;have SRC:Hid (∀ j u,(a0T l)[j]?=some u→∃ ad,a=some ad∧(w.alloc (.cells #[] 23)).cell? (ad.add j)=some u):=fun j u hu=>by
  obtain⟨g,o,rfl,hg,hc⟩:=q3 j u hu;refine⟨_,rfl,?_⟩;rw[Addr.add_lit];exact (((Below.refl w.heap.size w).alloc (Nat.le_refl _) (.cells #[] 23)).cell (p:=⟨g,o+j,none⟩) hg).trans hc
 have HO:=hid (show (w.alloc (.cells #[] 23)).ownsRow w.heap.size 23 1 (.slice (some ⟨w.heap.size,0,none⟩) 0 0) 0 [] from World.ownsRow_made _ _ 0 (Nat.le_refl _) (by unfold maxLen;omega) rfl);have HB:=hid ((Below.refl w.heap.size w).alloc (Nat.le_refl _) (.cells #[] 23));obtain⟨n,hn⟩:∃ n,l.length=n:=⟨_,rfl⟩;have HN:=hid (show (a0T l).length=n*1 from by rw[strs_length,hn];omega);rw[hn]at hl q1 ⊢;clear hv q3 hn;go_enter Tryz.func15,Tryz.ntmps15;go_wp2_with (at_builtin;refine d0u rfl _ _ 22 rfl w.heap.size 23 i0 (.string ⟨#[]⟩) 1 16 Tryz.underlying22 hi hz0 hz1 hz2 rfl (by decide) (.slice (some ⟨w.heap.size,0,none⟩) 0 0) 0 [] rfl HO.out (by intro e;cases e) a n c (a0T l) rfl HN.out SRC.out (k0t l) (by unfold maxLen;omega) (by omega) (by simp) ?_;intro v1 w1 hown1 hg1 hne1;have O1:=hid hown1;have G1:=hid hg1;clear hown1 hg1 hne1)
 go_ret
 refine⟨⟨_,rfl,?_⟩,b0W HO.out HB.out G1.out⟩;have:=O1.out;simpa using this
end Go.Proofs.YtlimaehdmcnjaaaGreatDoor
