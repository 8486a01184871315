/- Texts that the proof rests on, merged: So16, So10, KsI, Slw, Scl. -/
import Derived.Test.YtlimaehdmcnjaaaGreatDoorMg13
set_option linter.unusedVariables false
set_option linter.unusedSimpArgs false
set_option linter.unusedSectionVars false
set_option maxRecDepth 100000
set_option maxHeartbeats 8000000
namespace Go.Proofs.YtlimaehdmcnjaaaGreatDoor
open Go.RowKit
open Go.Shelf
open Go.Lib (decDigits nDigits)
theorem p0c (w:World)(v:Value)(l:List ByteArray)(hv:Row w v (a0T l))(hs:∀ s∈l,s.size≤1000000)(hL:Lay w)(hve:a0O l≠0):
 Calls Tryz.prog 23 #[v] w fun e w'=>(∃ u,e=.returned (.tuple #[u,.int .i64 (rdE l)])∧Row w' u (zs (e0p l)))∧Below w.heap.size w w':=by
 have HB:=hid (g0v w v l hv hs hL);obtain⟨e1,e2⟩:=p0e hve;rw[e1,e2];have t2:(a0O l==0)=false:=by simpa using hve
 have t3:(a0O l != 0)=true:=by simpa using hve
 have HV:=hid hve;obtain⟨a,c,rfl,-,-,-⟩:=hv.openS;obtain⟨N,hN⟩:∃ n,l.length=n:=⟨_,rfl⟩;rw[hN]at HB ⊢;obtain⟨E,hE⟩:∃ x,a0O l=x:=⟨_,rfl⟩;rw[hE]at HB t2 t3 HV ⊢;clear hv hs hL hN hve hE e1 e2;go_enter Tryz.func23,Tryz.ntmps23;go_wp2_with fail;refine HB.out.mono ?_;rintro e w1 ⟨⟨u,rfl,-,hu⟩,hb1⟩;obtain rfl:=hu HV.out;have y1:=hid hb1;clear hb1 hu;go_wp2_with fail;go_ret2
 exact⟨⟨.slice none 0 0,rfl,Row.nil _⟩,y1.out⟩
theorem p0b (w:World)(v:Value)(l:List ByteArray)(hv:Row w v (a0T l))(hs:∀ s∈l,s.size≤1000000)(hL:Lay w)(hve:a0O l=0)(hbad:(rs (l.map vQ)).den≠1∨(l.map vQ).any (e0Y b0O)=true):
 Calls Tryz.prog 23 #[v] w fun e w'=>(∃ u,e=.returned (.tuple #[u,.int .i64 (if (rs (l.map vQ)).den=1 then 2 else 15)])∧Row w' u (zs []))∧Below w.heap.size w w':=by
 have HB:=hid (g0v w v l hv hs hL);rw[hve]at HB;obtain⟨g1,g2,hq0⟩:=c0e hve;obtain⟨N,hN⟩:∃ n,l.length=n:=⟨_,rfl⟩;have hdq:=e0O hve;have hlen:(l.map vQ).length=N:=by rw[List.length_map,hN]
 obtain⟨qs,hqs⟩:∃ qs,l.map vQ=qs:=⟨_,rfl⟩;rw[hqs]at HB hbad hdq hlen ⊢;have HSm:=fun V v h=>hid (o0N V w.heap.size v qs h (by omega) hdq)
 have HON:=fun V v h=>hid (h0P V v (rs qs).den h)
 have HSl:=fun V=>hid (e0m V 1000000000000 (by omega))
 have lB:Lim b0O:=Lim.of (K:=20) ⟨by unfold b0O;rw[Rat.num_natCast];decide,by unfold b0O;rw[Rat.den_natCast];decide⟩ (by omega);have HCF:=fun V v g hv hg=>hid (k0C V w.heap.size v qs b0O g hv (by omega) (fun q hq=>Lim.of (hdq q hq) (by omega)) hg lB)
 have HN:=hid hlen;have HBAD:=hid hbad;obtain⟨a,c,rfl,-,-,-⟩:=hv.openS;rw[hN]at HB ⊢;clear hv hs hL hN g1 g2 hdq hlen lB hve hq0 hqs hbad;go_enter Tryz.func23,Tryz.ntmps23;go_wp2_with fail;refine HB.out.mono ?_;rintro e w1 ⟨⟨u,rfl,hu,-⟩,hb1⟩;have hu1:=hu trivial;have y1:=hid hb1;have RV:=hid hu1;obtain⟨av,cv,rfl,-,-⟩:=hu1.slice;rw[HN.out]at RV ⊢;clear hb1 hu hu1;go_wp2_with fail;refine (HSm _ _ RV.out).out.mono ?_;rintro e w2 ⟨⟨u2,rfl,hu2⟩,hb2⟩;obtain⟨m2,a2,n2,c2,b2,d2,e2,rfl⟩:=hu2.qv;have Q2:=hid (hu2.call ((Below.refl w2.heap.size w2).alloc (Nat.le_refl _) (.cells #[.bool m2,.slice a2 n2 c2,.slice b2 d2 e2] 57)));have X2:=Blk.new w2 #[.bool m2,.slice a2 n2 c2,.slice b2 d2 e2] 57;have z2:=hid (a0a hb2 ((Below.refl w2.heap.size w2).alloc (Nat.le_refl _) (.cells #[.bool m2,.slice a2 n2 c2,.slice b2 d2 e2] 57)));obtain⟨g6,hg6⟩:∃ g,w2.heap.size=g:=⟨_,rfl⟩;obtain⟨W2,hW2⟩:∃ x,w2.alloc (.cells #[.bool m2,.slice a2 n2 c2,.slice b2 d2 e2] 57)=x:=⟨_,rfl⟩;rw[hW2]at Q2 z2 X2;rw[hg6]at X2;have r2:=X2.cell 2;simp at r2;clear hb2 hu2 X2;go_wp2_with fail;clear hW2 hg6 r2;refine (HON _ _ (d0G Q2.out).2).out.mono ?_;rintro e w3 ⟨rfl,rfl⟩;by_cases hden:(rs qs).den=1
 ·have hone:isO (rs qs).den=true:=by rw[h0S,hden];rfl
  have HDN:=hid hden;have hany:qs.any (e0Y b0O)=true:=HBAD.out.resolve_left fun h=>h hden
  rw[hany]at HCF;rw[hone];clear hone hany hden;go_wp2_with fail;refine (HSl _).out.mono ?_;rintro e w3 ⟨⟨u3,rfl,hu3⟩,hb3⟩;obtain⟨m3,a3,n3,c3,b3,d3,e3,rfl⟩:=hu3.qv;have A3:=(Below.refl w3.heap.size w3).alloc (Nat.le_refl _) (.cells #[.bool m3,.slice a3 n3 c3,.slice b3 d3 e3] 57);have z3:=hid (a0a z2.out (a0a hb3 A3));have FH:=hid (FB.new hu3);obtain⟨g7,hg7⟩:∃ g,w3.heap.size=g:=⟨_,rfl⟩;obtain⟨W3,hW3⟩:∃ x,w3.alloc (.cells #[.bool m3,.slice a3 n3 c3,.slice b3 d3 e3] 57)=x:=⟨_,rfl⟩;rw[hW3]at z3 FH;rw[hg7]at FH;clear hb3 hu3 A3 Q2 z2;go_wp2_with fail;clear hW3 hg7;refine (HCF _ _ _ (RV.out.call z3.out) FH.out).out.mono ?_;rintro e w4 ⟨rfl,hb4⟩;have z4:=hid (a0a y1.out (a0a z3.out hb4));clear hb4;go_wp2_with fail;go_ret2
  exact⟨⟨_,rfl,Row.nil _⟩,z4.out⟩
 ·have hone:isO (rs qs).den=false:=by rw[h0S];exact decide_eq_false hden
  have HDN:=hid hden;have z4:=hid (a0a y1.out z2.out);rw[hone];clear hone hden;go_wp2_with fail;go_ret2
  exact⟨⟨_,rfl,Row.nil _⟩,z4.out⟩
theorem k0B (w:World)(v:Value)(l:List ByteArray)(hv:Row w v (a0T l))(hs:∀ s∈l,s.size≤1000000)(hl:l.length≤12)(hL:Lay w):
 Calls Tryz.prog 23 #[v] w fun e w'=>(∃ u,e=.returned (.tuple #[u,.int .i64 (rdE l)])∧Row w' u (zs (e0p l)))∧Below w.heap.size w w':=by
 by_cases hve:a0O l=0
 ·by_cases hbad:(rs (l.map vQ)).den≠1∨(l.map vQ).any (e0Y b0O)=true
  ·have e0:rdE l=if (rs (l.map vQ)).den=1 then 2 else 15:=by
    unfold rdE;rw[if_pos hve];by_cases hd:(rs (l.map vQ)).den=1
    ·rw[if_pos hd,if_pos hd,if_pos];have h:=hbad.resolve_left fun h=>h hd
     rw[← h]
     congr 1
     funext q
     exact h0Y.symm
    ·rw[if_neg hd,if_neg hd]
   have e1:e0p l = []:=by
    unfold e0p;rw[if_neg];rw[e0]
    split<;>decide
   rw[e0,e1];exact p0b w v l hv hs hL hve hbad
  ·have hd:(rs (l.map vQ)).den=1:=Decidable.byContradiction fun h=>hbad (.inl h)
   have hf:∀ q∈l.map vQ,¬ (b0O<q∨q < -b0O):=fun q hq h=>hbad (.inr (List.any_eq_true.2 ⟨q,hq,by rw[h0Y];exact decide_eq_true h⟩))
   have e0:rdE l=0:=by
    unfold rdE;rw[if_pos hve,if_pos hd,if_neg];intro h;obtain⟨q,hq,h2⟩:=List.any_eq_true.1 h;exact hf q hq (by simpa using h2)
   have e1:e0p l=rdL (l.map vQ) (rdM (l.map vQ)):=by unfold e0p;rw[if_pos e0]
   rw[e0,e1];exact o0Y w v l hv hs hl hL hve hd hf
 ·exact p0c w v l hv hs hL hve
theorem n0F:(Tryz.prog.info? 73).map (fun i=>(i.zero,i.size,i.bytes))=some (some (.agg #[.bool false,.slice none 0 0,.slice none 0 0,.int .i64 0]),4,64):=by kernel_rfl
theorem p0s:NoKL .u64 (Value.cells (.agg #[.bool false,.slice none 0 0,.slice none 0 0,.int .i64 0])).toList:=by intro x hx;simp[Value.cells]at hx
theorem s0v (m:Bool)(a b:Option Addr)(n p n' p':Nat)(k:Int):NoKL .u64 [[Value.bool m,.slice a n p,.slice b n' p',.int .i64 k]].flatten:=by intro x hx;simp at hx
theorem s0u (m:Bool)(a b:Option Addr)(n p n' p':Nat)(k:Int):∀ u ∈ [[Value.bool m,.slice a n p,.slice b n' p',.int .i64 k]].flatten,u.oneCell'=true:=by intro u hu;simp at hu;rcases hu with rfl | rfl | rfl | rfl<;>rfl
theorem s0w (x y z t:Value):∀ d ∈ [[x,y,z,t]],d.length=4:=by intro d hd;simp at hd;subst hd;rfl
theorem r0X {W:World}{g:Nat}{x y z t:Value}{ty:TypeId}(h:Blk W g #[x,y,z,t] ty):∀ j u,[[x,y,z,t]].flatten[j]?=some u→W.cell? ((⟨g,0,none⟩:Addr).add j)=some u:=fun j u hj=>by
 rw[Addr.add_lit,Nat.zero_add,h.cell];simpa using hj
theorem BRow.app {B:Nat}{W W':World}{v':Value}{cs:List (List Value)}{bs:List (Rat×Nat)}{c:List Value}{b:Rat×Nat}(hl:cs.length=bs.length)(h:∀ (i:Nat) (b:Rat×Nat),bs[i]?=some b→∃ c,cs[i]?=some c∧BC W c b)(hk:KRow .u64 73 4 B W' v' (cs ++ [c]))(hkeep:KeepK .u64 W W')(hc:BC W c b):BRow B W' v' (bs ++ [b]):=by
 refine⟨cs ++ [c],hk,by simp[hl],fun i x hx=>?_⟩;by_cases hi:i<bs.length
 ·rw[List.getElem?_append_left hi]at hx;rw[List.getElem?_append_left (by omega)];obtain⟨d,h1,h2⟩:=h i x hx;exact⟨d,h1,h2.keep hkeep⟩
 ·have hl2:=(List.getElem?_eq_some_iff.1 hx).1;rw[List.length_append,List.length_singleton]at hl2;obtain rfl:i=bs.length:=by omega
  rw[List.getElem?_append_right (Nat.le_refl _),Nat.sub_self]at hx;rw[List.getElem?_append_right (by omega),hl,Nat.sub_self];obtain rfl:b=x:=by simpa using hx
  exact⟨c,rfl,hc.keep hkeep⟩
theorem QL.append {k:IntKind}{W:World}{cs cr:List (List Value)}{qs rs:List Rat}(h:QL k W cs qs)(h2:QL k W cr rs):QL k W (cs++cr) (qs++rs):=by
 refine⟨by simp[h.len,h2.len],fun i q hq=>?_⟩;by_cases hi:i<qs.length
 ·rw[List.getElem?_append_left hi]at hq;rw[List.getElem?_append_left (by rw[h.len];exact hi)];exact h.at_ i q hq
 ·rw[List.getElem?_append_right (by omega)]at hq;rw[List.getElem?_append_right (by rw[h.len];omega),h.len];exact h2.at_ _ q hq
def e0T (st:List (Rat×Nat)):List Rat:=st.flatMap fun b=>List.replicate b.2 (bm b)
theorem k0T {st:List (Rat×Nat)}{i:Nat}{b:Rat×Nat}(h:st[i]?=some b):e0T (st.take (i+1))=e0T (st.take i)++List.replicate b.2 (bm b):=by
 unfold e0T;rw[List.take_add_one,h,Option.toList_some,List.flatMap_append];simp
theorem s0b {qs:List Rat}{st:List (Rat×Nat)}(h:st.reverse=pv qs):mnL qs=e0T st:=by
 unfold mnL pvx e0T;rw[← h,List.reverse_reverse]
theorem p0m {qs:List Rat}{i:Nat}{x:Rat}(h:qs[i]?=some x):pv (qs.take (i+1))=pv1 (x,1) (pv (qs.take i)):=by
 unfold pv;rw[List.take_add_one,h,Option.toList_some,List.foldl_append];rfl
structure StI (st:List (Rat×Nat))(i:Nat):Prop where
 all:∀ b∈st,0<b.2∧Dig (4001*b.2-1) b.1
 sum:(st.map fun b=>b.2).sum=i
theorem StI.nil:StI [] 0:=⟨fun b hb=>(by cases hb),rfl⟩
theorem StI.push {st:List (Rat×Nat)}{i:Nat}{x:Rat}(h:StI st i)(hx:Dig 4000 x):StI (st ++ [(x,1)]) (i+1):=by
 refine⟨fun b hb=>?_,by rw[List.map_append,List.sum_append,h.sum];rfl⟩;rcases List.mem_append.1 hb with hb | hb
 ·exact h.all b hb
 ·obtain rfl:b=(x,1):=by simpa using hb
  exact⟨Nat.one_pos,hx.up (by omega)⟩
theorem StI.merge {s:List (Rat×Nat)}{a b:Rat×Nat}{i:Nat}(h:StI (s ++ [a] ++ [b]) i):StI (s ++ [(a.1+b.1,a.2+b.2)]) i:=by
 refine⟨fun c hc=>?_,?_⟩
 ·rcases List.mem_append.1 hc with hc | hc
  ·exact h.all c (by simp[hc])
  ·obtain rfl:c=(a.1+b.1,a.2+b.2):=by simpa using hc
   obtain⟨h1,h2⟩:=h.all a (by simp);obtain⟨h3,h4⟩:=h.all b (by simp);exact⟨by dsimp only;omega,(e0Q h2 h4).up (by dsimp only;omega)⟩
 ·have:=h.sum;simp only[List.map_append,List.sum_append,List.map_cons,List.map_nil,List.sum_cons,List.sum_nil]at this ⊢;omega
theorem k0r:∀ {l:List Nat} {x:Nat},x∈l→x≤l.sum
 | y::l,x,h=>by
  rw[List.sum_cons];rcases List.mem_cons.1 h with rfl | h
  ·omega
  ·have:=k0r h;omega
theorem StI.le {st:List (Rat×Nat)}{i:Nat}{b:Rat×Nat}(h:StI st i)(hb:b∈st):b.2≤i:=by
 rw[← h.sum];exact k0r (List.mem_map.2 ⟨b,hb,rfl⟩)
theorem StI.len {st:List (Rat×Nat)}{i:Nat}(h:StI st i):st.length≤i:=by
 rw[← h.sum];have h1:=h.all;clear h
 induction st with
 | nil=>simp
 | cons b st ih=>
  have:=ih fun c hc=>h1 c (by simp[hc])
  have:=(h1 b (by simp)).1;rw[List.map_cons,List.sum_cons,List.length_cons];omega
theorem StI.lim {st:List (Rat×Nat)}{i:Nat}{b:Rat×Nat}(h:StI st i)(hi:i≤64)(hb:b∈st):Lim b.1:=Lim.of (h.all b hb).2 (by have:=h.le hb;omega)
theorem m0w {st:List (Rat×Nat)}{i:Nat}{b:Rat×Nat}(h:StI st i)(hi:i≤64)(hb:b∈st):Dig 300000 (bm b):=by
 obtain⟨h1,h2⟩:=h.all b hb;have h3:=h.le hb;have dK:Dig 2 ((b.2:Nat):Rat):=⟨by rw[Rat.num_natCast];simp;omega,by rw[Rat.den_natCast];omega⟩;unfold bm;rw[Rat.div_def];exact (g0i h2 (e0P (b0N h1) dK)).up (by omega)
theorem n0o {st:List (Rat×Nat)}{i:Nat}(h:StI st i):(e0T st).length=i:=by
 rw[← h.sum];unfold e0T;clear h
 induction st with
 | nil=>rfl
 | cons b st ih=>simp[List.flatMap_cons,ih]
theorem f0g (w:World)(v:Value)(l:List ByteArray)(hv:Row w v (a0T l))(hs:∀ s∈l,s.size≤1000000)(hL:Lay w):
 Calls Tryz.prog 19 #[v] w fun e w'=>(∃ u,e=.returned (.tuple #[u,.int .i64 (mnE l)])∧Row w' u (a0T (mnR l)))∧Below w.heap.size w w':=by
 obtain⟨i0,hi,hz0,hz1,hz2⟩:=info_parts e0F;obtain⟨j0,hj0,hy0,hy1,hy2⟩:=info_parts n0F;have HR:=hid (g0v w v l hv hs hL);have HL:=hid hL;obtain⟨a,c,rfl,-,-,-⟩:=hv.openS;obtain⟨N,hN⟩:∃ n,l.length=n:=⟨_,rfl⟩;rw[hN]at HR ⊢;by_cases h0:a0O l=0
 case neg=>
  have e1:mnE l=a0O l:=by unfold mnE;rw[if_neg h0]
  have e2:mnR l = []:=by unfold mnR;rw[if_neg h0]
  have t2:(a0O l==0)=false:=by simpa using h0
  have t3:(a0O l != 0)=true:=by simpa using h0
  rw[e1,e2];obtain⟨E,hE⟩:∃ x,a0O l=x:=⟨_,rfl⟩;rw[hE]at HR t2 t3 ⊢;clear hv hs hL hN h0 hE e1 e2;go_enter Tryz.func19,Tryz.ntmps19;go_wp2_with fail;refine HR.out.mono ?_;rintro e w1 ⟨⟨u,rfl,-,-⟩,hb1⟩;have y1:=hid hb1;clear hb1;go_wp2_with fail;go_ret2
  exact⟨⟨.slice none 0 0,rfl,Row.nil _⟩,y1.out⟩
 case pos=>
  have e1:mnE l=wrE (mnL (l.map vQ)):=by unfold mnE;rw[if_pos h0]
  have e2:mnR l=wrL (mnL (l.map vQ)):=by unfold mnR;rw[if_pos h0]
  obtain⟨g1,g2,-⟩:=c0e h0;have hdq:=e0O h0;have hlen:(l.map vQ).length=N:=by rw[List.length_map,hN]
  rw[e1,e2];rw[h0]at HR;obtain⟨qs,hqs⟩:∃ qs,l.map vQ=qs:=⟨_,rfl⟩;rw[hqs]at HR hdq hlen ⊢;have HDQ:=hid hdq;have HN:=hid hlen;have HNN:=hid (show 0<N∧N≤64 by omega);clear hv hs hL hN h0 e1 e2 g1 g2 hdq hlen hqs;go_enter Tryz.func19,Tryz.ntmps19;go_wp2_with fail;refine HR.out.mono ?_;rintro e w1 ⟨⟨u,rfl,hu,-⟩,hb1⟩;have hu:=hu (by simp);obtain⟨av,cv,rfl,-,-⟩:=hu.slice;have RV:=hid hu;have y1:=hid hb1;rw[HN.out]at RV ⊢;clear hb1 hu;go_wp2_with fail
  go_loopw [6,8,9,23] (fun s6 s8 s9 s23 wr=>∃ (i:Nat) (st:List (Rat×Nat)),s23=.int .i64 (i:Nat)∧i≤N∧Hid (st.reverse=pv (qs.take i))∧Hid (StI st i)∧Hid (BRow w1.heap.size wr s6 st)∧Hid (Below w1.heap.size w1 wr)) (fun s6 s8 s9 s23 wr=>N-(intOf s23).toNat)
  case atStart=>exact⟨0,[],rfl,Nat.zero_le _,rfl,StI.nil,BRow.nil _ _,Below.refl _ _⟩
  case round=>
   obtain⟨i,st,rfl,hi',hP,hS,hO,hB⟩:=hrel;by_cases hlt:i<N
   ·obtain⟨x,hx⟩:∃ x,qs[i]?=some x:=⟨_,List.getElem?_eq_getElem (by rw[HN.out];exact hlt)⟩;obtain⟨gv,mx,ax,nx,cx,bx,dx,ex,rfl,-,-,k0,k1,k2,hQx⟩:=(RV.out.call hB.out).at hx;have HPX:=hid (p0m hx);have HSP:=hid (hS.out.push (HDQ.out x (List.mem_of_getElem? hx)));have A1:=hid ((Below.refl wr.heap.size wr).alloc (Nat.le_refl _) (.cells #[.bool mx,.slice ax nx cx,.slice bx dx ex] 57));have A2:=hid (A1.out.alloc A1.out.size (.cells #[.bool mx,.slice ax nx cx,.slice bx dx ex,.int .i64 1] 73));have Z2:=hid (show Blk ((wr.alloc (.cells #[.bool mx,.slice ax nx cx,.slice bx dx ex] 57)).alloc (.cells #[.bool mx,.slice ax nx cx,.slice bx dx ex,.int .i64 1] 73)) (wr.heap.size+1) #[.bool mx,.slice ax nx cx,.slice bx dx ex,.int .i64 1] 73 from Blk.made _ _ _ (by simp));have y2:=hid (show Below w1.heap.size w1 _ from hB.out.trans (A2.out.mono hB.out.size));obtain⟨cs,hk,hcl,hcb⟩:=(hO.out.call A2.out).ex;have HK:=hid hk;have HCB:=hid hcb;have HCL:=hid hcl;have HSL:=hid (show st.length≤64 by have:=hS.out.len;have:=HNN.out;omega);have BC2:=hid (show BC _ [.bool mx,.slice ax nx cx,.slice bx dx ex,.int .i64 1] (x,1) from⟨mx,ax,nx,cx,bx,dx,ex,rfl,hQx.call A2.out⟩);have BSZ:=hid (show w1.heap.size≤((wr.alloc (.cells #[.bool mx,.slice ax nx cx,.slice bx dx ex] 57)).alloc (.cells #[.bool mx,.slice ax nx cx,.slice bx dx ex,.int .i64 1] 73)).heap.size from y2.out.size);have f1:(0:Int)≤(i:Int):=by omega
    have f2:(i:Int)<(N:Int):=by omega
    have wi:IntKind.i64.wrap ((i:Int)+1)=((i+1:Nat):Int):=by have:=HNN.out;rw[IntWalk.i64_in _ ⟨by omega,by omega⟩];omega
    have HLT:=hid hlt;have LST:=hid (show (st ++ [(x,1)]).length=st.length+1 by simp);obtain⟨as6,c6,e6,-,-⟩:=hO.out.slice;subst e6;clear hx hQx hk hcl hcb hlt hi'
    go_wp2_with (at_builtin;refine a0s _ .u64 rfl _ _ 71 rfl w1.heap.size 73 j0 (.agg #[.bool false,.slice none 0 0,.slice none 0 0,.int .i64 0]) 4 64 Tryz.underlying71 hj0 hy0 hy1 hy2 rfl (by decide) p0s _ cs rfl HK.out ⟨wr.heap.size+1,0,none⟩ 1 1 [[.bool mx,.slice ax nx cx,.slice bx dx ex,.int .i64 1]] rfl rfl (s0w _ _ _ _) (r0X Z2.out) (s0u _ _ _ _ _ _ _ _) (s0v _ _ _ _ _ _ _ _) (by rw[HCL.out];have:=HSL.out;unfold maxLen;omega) (by rw[HCL.out];have:=HSL.out;omega) BSZ.out ?_
                 intro v' w3 hown hgrow hkeep hat;have O3:=hid (BRow.app HCL.out HCB.out hown hkeep BC2.out);have B3:=hid (b0l HK.out y2.out hgrow);obtain⟨g3,c3,rfl,-⟩:=O3.out.nz LST.out (by omega);clear hown hgrow hkeep hat)
    go_loopw [6,9] (fun s6 s9 wx=>∃ (s:List (Rat×Nat)) (b:Rat×Nat) (J g c:Nat),Hid (s.length+1=J)∧s6=.slice (some ⟨g,0,none⟩) J c∧s9=.int .i64 (J:Nat)∧Hid (pv1 b s.reverse=pv (qs.take (i+1)))∧Hid (StI (s ++ [b]) (i+1))∧Hid (BRow w1.heap.size wx (.slice (some ⟨g,0,none⟩) J c) (s ++ [b]))∧Hid (Below w1.heap.size w1 wx)) (fun s6 s9 wx=>(intOf s9).toNat)
    case atStart=>exact⟨st,(x,1),st.length+1,g3,c3,rfl,rfl,by rw[Int.natCast_add];rfl,by rw[hP.out];exact HPX.out.symm,HSP,O3,B3⟩
    case round=>
     obtain⟨s,b,J,g,c,hJ,rfl,rfl,hT,hSt,hBr,hBx⟩:=hrel;rcases List.eq_nil_or_concat s with rfl | ⟨s',a,rfl⟩
     ·obtain rfl:1=J:=hJ.out;have PN:=hid (show ([b]:List (Rat×Nat)).reverse=pv (qs.take (i+1)) from hT.out);have BD:=hid (hBr.out.call (Below.refl _ _).drew);have XD:=hid (hBx.out.drew);clear hT hJ;go_wp2_with fail;refine a0f [0,1,2,3,4,5,6,7,8,9,10,11,12,13,14,15,16,17] 0 (fun _=>True) (by kernel_rfl) (by kernel_rfl) (by kernel_rfl) (by kernel_rfl) trivial ?_
      iterate 18
       refine⟨_,rfl,?_⟩;apply Exists.intro
       first
        | (refine⟨.inl ⟨by rfl,?_⟩,?_⟩
           ·(intro W' hW';clear hW';go_simp;try (with_reducible rfl)))
        | refine⟨.inr ⟨by rfl,rfl⟩,?_⟩
       (dsimp only[Act.put];try simp only[List.setIfInBounds_toArray,List.set_cons_zero,List.set_cons_succ])
      refine wpAnyH_done (by kernel_rfl) ?_ _;simp only[a0o];go_wp2_with fail;go_roundw
      case rel=>exact⟨i+1,[b],by go_num,by have:=HLT.out;omega,PN,hSt,BD,XD⟩
      case measure=>simp[intOf]<;>(have:=HLT.out;omega)
     ·rw[List.concat_eq_append]at hJ hT hSt hBr;obtain⟨qa,ka⟩:=a;obtain⟨qb,kb⟩:=b;obtain⟨p,hp⟩:∃ p,s'.length=p:=⟨_,rfl⟩;have hJ2:p+2=J:=by have h:=hJ.out;simp at h;omega
      obtain⟨r,hr⟩:∃ r,p+1=r:=⟨_,rfl⟩;have hat:(s' ++ [(qa,ka)] ++ [(qb,kb)])[p]?=some (qa,ka):=by rw[List.append_assoc,List.getElem?_append_right (by omega),hp,Nat.sub_self];rfl
      have hbt:(s' ++ [(qa,ka)] ++ [(qb,kb)])[r]?=some (qb,kb):=by rw[List.append_assoc,List.getElem?_append_right (by omega),hp,show r-p=1 by omega];rfl
      obtain⟨ma,aa,na,ca,ba,da,ea,hg0,hg1,k0,k1,k2,k3,hQa⟩:=hBr.out.at hat;obtain⟨mb,ab,nb,cb,bb,db,eb,-,-,l0,l1,l2,l3,hQb⟩:=hBr.out.at hbt;dsimp only at k3 l3 hQa hQb;have ia:=hSt.out.all (qa,ka) (by simp);have ib:=hSt.out.all (qb,kb) (by simp);have i64:i+1≤64:=by have:=HLT.out;have:=HNN.out;omega
      have ja:=hSt.out.le (b:=(qa,ka)) (by simp);have jb:=hSt.out.le (b:=(qb,kb)) (by simp);have la:=hSt.out.lim i64 (b:=(qa,ka)) (by simp);have lb:=hSt.out.lim i64 (b:=(qb,kb)) (by simp);have da':=m0w hSt.out i64 (b:=(qa,ka)) (by simp);have db':=m0w hSt.out i64 (b:=(qb,kb)) (by simp);dsimp only at ia ib ja jb la lb;have lma:=Lim.of da' (by omega);have lmb:=Lim.of db' (by omega);have PMa:=fun V hq=>hid (k0z V ma aa na ca ba da ea qa ka hq ia.1 (by omega) la)
      have PMb:=fun V hq=>hid (k0z V mb ab nb cb bb db eb qb kb hq ib.1 (by omega) lb)
      have PCm:=fun V v u hv hu=>hid (l0O V v u (bm (qa,ka)) (bm (qb,kb)) hv hu lma.1 lma.2 lmb.1 lmb.2)
      have PMg:=fun V hr hq=>hid (o0O V w1.heap.size g J c p (s' ++ [(qa,ka)] ++ [(qb,kb)]) (qa,ka) hr hat mb ab nb cb bb db eb qb kb hq (by dsimp only;omega) la lb)
      have HT:=hid (show (if bm (qb,kb)<bm (qa,ka) then pv1 (qa+qb,ka+kb) s'.reverse else (qb,kb)::(qa,ka)::s'.reverse)=pv (qs.take (i+1)) by
       have h:=hT.out;rw[List.reverse_append]at h;exact h)
      have hcz:0<cmF (bm (qa,ka)) (bm (qb,kb))↔bm (qb,kb)<bm (qa,ka):=by
       have h1:=(g0k (bm (qa,ka)) (bm (qb,kb))).1;have h2:d0V (bm (qa,ka)) (bm (qb,kb))≤0↔bm (qa,ka)≤bm (qb,kb):=c0N;rw[h1]
       constructor
       ·intro h;exact Rat.not_le.1 fun e=>by have:=h2.2 e;omega
       ·intro h;have:=mt h2.1 (Rat.not_le.2 h);omega
      obtain⟨z,hz⟩:∃ z,cmF (bm (qa,ka)) (bm (qb,kb))=z:=⟨_,rfl⟩;rw[hz]at PCm hcz;have HCZ:=hid hcz;have t1:decide ((1:Int)<(J:Int))=true:=decide_eq_true (by omega);have t1':decide (1<J)=true:=decide_eq_true (by omega);have wp:IntKind.i64.wrap ((J:Int)-2)=(p:Int):=by rw[IntWalk.i64_in _ ⟨by omega,by have:=hSt.out.len;simp at this;omega⟩];omega
      have wr':IntKind.i64.wrap ((J:Int)-1)=(r:Int):=by rw[IntWalk.i64_in _ ⟨by omega,by have:=hSt.out.len;simp at this;omega⟩];omega
      have f3:(0:Int)≤(p:Int):=by omega
      have f4:(p:Int)<(J:Int):=by omega
      have f5:(0:Int)≤(r:Int):=by omega
      have f6:(r:Int)<(J:Int):=by omega
      have KK:Hid (∀ V,Below wr.heap.size wr V→V.cell? ⟨g,p*4,none⟩=some (.bool ma)∧V.cell? ⟨g,p*4+1,none⟩=some (.slice aa na ca)∧V.cell? ⟨g,p*4+2,none⟩=some (.slice ba da ea)∧V.cell? ⟨g,p*4+3,none⟩=some (.int .i64 (ka:Nat))∧V.cell? ⟨g,r*4,none⟩=some (.bool mb)∧V.cell? ⟨g,r*4+1,none⟩=some (.slice ab nb cb)∧V.cell? ⟨g,r*4+2,none⟩=some (.slice bb db eb)∧V.cell? ⟨g,r*4+3,none⟩=some (.int .i64 (kb:Nat))):=fun V hV=>
       ⟨(hV.cell (p:=⟨g,p*4,none⟩) hg1).trans k0,(hV.cell (p:=⟨g,p*4+1,none⟩) hg1).trans k1,(hV.cell (p:=⟨g,p*4+2,none⟩) hg1).trans k2,(hV.cell (p:=⟨g,p*4+3,none⟩) hg1).trans k3,(hV.cell (p:=⟨g,r*4,none⟩) hg1).trans l0,(hV.cell (p:=⟨g,r*4+1,none⟩) hg1).trans l1,(hV.cell (p:=⟨g,r*4+2,none⟩) hg1).trans l2,(hV.cell (p:=⟨g,r*4+3,none⟩) hg1).trans l3⟩
      obtain⟨aq,cq,e9,hJc,hc63⟩:=hBr.out.slice;have hJc:J≤c:=by
       injection e9 with e1 e2 e3
       rw[e3];rw[← e2]at hJc;exact hJc
      have hc9:c≤9223372036854775807:=by
       injection e9 with e1 e2 e3
       rw[e3];exact hc63
      have f7:(r:Int)≤(c:Int):=by omega
      have QA:=hid hQa;have QB:=hid hQb;have HP2:=hid hp;have HR2:=hid hr;have HJ2:=hid hJ2;have HG0:=hid hg0;clear hat hbt k0 k1 k2 k3 l0 l1 l2 l3 hQa hQb ia ib i64 ja jb la lb da' db' lma lmb hcz hz hp hr hJ2 hg0 hg1 e9 hJc hc63 hJ hT;go_wp2_with fail;refine a0f [0,1,2,3,4,5,6,7,9,10,11,12,13] 5 (fun V=>V.cell? ⟨g,p*4,none⟩=some (.bool ma)∧V.cell? ⟨g,p*4+1,none⟩=some (.slice aa na ca)∧V.cell? ⟨g,p*4+2,none⟩=some (.slice ba da ea)∧V.cell? ⟨g,p*4+3,none⟩=some (.int .i64 (ka:Nat))∧V.cell? ⟨g,r*4,none⟩=some (.bool mb)∧V.cell? ⟨g,r*4+1,none⟩=some (.slice ab nb cb)∧V.cell? ⟨g,r*4+2,none⟩=some (.slice bb db eb)∧V.cell? ⟨g,r*4+3,none⟩=some (.int .i64 (kb:Nat))) (by kernel_rfl) (by kernel_rfl) (by kernel_rfl) (by kernel_rfl) (KK.out _ (Below.refl _ _).drew) ?_
      iterate 13
       refine⟨_,rfl,?_⟩;apply Exists.intro
       refine⟨.inl ⟨by rfl,?_⟩,?_⟩
       ·(intro W' hW';obtain⟨z1,z2,z3,z4,z5,z6,z7,z8⟩:=hW';go_simp;try (with_reducible rfl))
       (dsimp only[Act.put];try simp only[List.setIfInBounds_toArray,List.set_cons_zero,List.set_cons_succ])
      refine b0r (i:=8) (by kernel_rfl) (by rfl) (by rfl) ?_;go_wp2_with fail;refine (PMa _ (QA.out.call (Below.refl _ _).drew)).out.mono ?_;rintro e w6 ⟨⟨v6,rfl,hv6⟩,hb6⟩;obtain⟨m6,a6,n6,c6',b6,d6,e6,rfl⟩:=hv6.qv;have y6:=hid (show Below wr.heap.size wr w6 from (Below.refl _ _).drew.trans hb6);have M6:=hid hv6;clear hb6 hv6;go_wp2_with fail;refine⟨KK.out _ y6.out,?_⟩;refine b0r (i:=14) (by kernel_rfl) (by rfl) (by rfl) ?_;go_wp2_with fail;refine (PMb _ (QB.out.call y6.out)).out.mono ?_;rintro e w7 ⟨⟨v7,rfl,hv7⟩,hb7⟩;obtain⟨m7,a7,n7,c7,b7,d7,e7,rfl⟩:=hv7.qv;have y7:=hid (a0a y6.out hb7);have M7:=hid (M6.out.call hb7);have N7:=hid hv7;clear hb7 hv7;go_wp2_with fail;refine⟨KK.out _ y7.out,?_⟩;refine b0r (i:=15) (by kernel_rfl) (by rfl) (by rfl) ?_;go_wp2_with fail;refine (PCm _ _ _ M7.out N7.out).out.mono ?_;rintro e w8 ⟨rfl,hb8⟩;have y8:=hid (a0a y7.out hb8);have BR8:=hid (hBr.out.call y8.out);have BX8:=hid (hBx.out.trans (y8.out.mono hBx.out.size));clear hb8;by_cases hlt2:bm (qb,kb)<bm (qa,ka)
      ·have t2:decide (0<z)=true:=decide_eq_true (HCZ.out.2 hlt2);have HT2:=hid (show pv1 (qa+qb,ka+kb) s'.reverse=pv (qs.take (i+1)) by have h:=HT.out;rw[if_pos hlt2]at h;exact h);have SM:=hid (hSt.out.merge);clear hlt2;go_wp2_with fail;refine⟨KK.out _ y8.out,?_⟩;refine a0d (is:=[16,17]) (g:=0) (by kernel_rfl) rfl (KK.out _ y8.out) (by kernel_rfl) ?_
       iterate 2
        refine⟨_,rfl,?_⟩;apply Exists.intro
        refine⟨.inl ⟨by rfl,?_⟩,?_⟩
        ·(intro W' hW';obtain⟨z1,z2,z3,z4,z5,z6,z7,z8⟩:=hW';go_simp;try (with_reducible rfl))
        (dsimp only[Act.put];try simp only[List.setIfInBounds_toArray,List.set_cons_zero,List.set_cons_succ])
       refine wpAnyH_done (by kernel_rfl) ?_ _;simp only[a0o];go_wp2_with fail;refine e0G 9 1 [] [(0,3),(2,3),(1,2),(7,8),(4,7),(6,7),(5,6)] [0,1,2,3,4,5,6,7,8] 0 (fun V=>V.cell? ⟨g,r*4,none⟩=some (.bool mb)∧V.cell? ⟨g,r*4+1,none⟩=some (.slice ab nb cb)∧V.cell? ⟨g,r*4+2,none⟩=some (.slice bb db eb)∧V.cell? ⟨g,r*4+3,none⟩=some (.int .i64 (kb:Nat))) (by kernel_rfl) (by kernel_rfl) (by kernel_rfl) (by kernel_rfl) (by kernel_rfl) (by kernel_rfl) (by kernel_rfl) (by kernel_rfl) (by kernel_rfl) (by kernel_rfl) (by kernel_rfl) (by kernel_rfl) (by obtain⟨-,-,-,-,h⟩:=KK.out _ y8.out.drew;exact h) ?_
       iterate 9
        refine⟨_,rfl,?_⟩;apply Exists.intro
        refine⟨.inl ⟨by rfl,?_⟩,?_⟩
        ·(intro W' hW';obtain⟨z5,z6,z7,z8⟩:=hW';go_simp;try (with_reducible rfl))
        (dsimp only[Act.put];try simp only[List.setIfInBounds_toArray,List.set_cons_zero,List.set_cons_succ])
       refine wpAnyH_done (by kernel_rfl) ?_ _;simp only[a0o,c0D,List.drop_succ_cons,List.drop_zero];go_wp2_with fail;refine (PMg _ (BR8.out.call (Below.refl _ _).drew) (QB.out.call y8.out.drew)).out.mono ?_;rintro e w9 ⟨rfl,hb9,hg9⟩;have BX9:=hid ((BX8.out.drew).grown hg9 (by show _≤_;exact BX8.out.size) (fun k e=>by injection e with e;have:=HG0.out;omega));have hset:(s' ++ [(qa,ka)] ++ [(qb,kb)]).set p (qa+qb,ka+kb)=s' ++ [(qa+qb,ka+kb)] ++ [(qb,kb)]:=by
        rw[List.append_assoc,List.set_append_right _ _ (by have:=HP2.out;omega),HP2.out,Nat.sub_self,List.append_assoc];rfl
       have h9:BRow w1.heap.size w9 (.slice (some ⟨g,0,none⟩) J c) (s' ++ [(qa+qb,ka+kb)] ++ [(qb,kb)]):=by rw[← hset];exact hb9
       have h10:=h9.cut (m:=r) (by simp;have:=HP2.out;have:=HR2.out;omega);rw[List.take_append_of_le_length (by simp;have:=HP2.out;have:=HR2.out;omega),List.take_of_length_le (by simp;have:=HP2.out;have:=HR2.out;omega)]at h10;have BR9:=hid h10;clear hb9 hg9 hset h9 h10;go_wp2_with fail
       try simp only[a0o]
       try go_wp2_with fail
       go_roundw
       case rel=>exact⟨s',(qa+qb,ka+kb),r,g,c,by have:=HP2.out;have:=HR2.out;show _=_;omega,rfl,rfl,HT2,SM,BR9,BX9⟩
       case measure=>simp[intOf]<;>(have:=HR2.out;have:=HJ2.out;omega)
      ·have t2:decide (0<z)=false:=decide_eq_false fun e=>hlt2 (HCZ.out.1 e)
       have PN:=hid (show (s' ++ [(qa,ka)] ++ [(qb,kb)]).reverse=pv (qs.take (i+1)) by
        have h:=HT.out;rw[if_neg hlt2]at h;rw[← h];simp)
       clear hlt2;go_wp2_with fail;refine⟨KK.out _ y8.out,?_⟩;refine a0d (is:=[16,17]) (g:=0) (by kernel_rfl) rfl (KK.out _ y8.out) (by kernel_rfl) ?_
       iterate 2
        refine⟨_,rfl,?_⟩;apply Exists.intro
        refine⟨.inl ⟨by rfl,?_⟩,?_⟩
        ·(intro W' hW';obtain⟨z1,z2,z3,z4,z5,z6,z7,z8⟩:=hW';go_simp;try (with_reducible rfl))
        (dsimp only[Act.put];try simp only[List.setIfInBounds_toArray,List.set_cons_zero,List.set_cons_succ])
       refine wpAnyH_done (by kernel_rfl) ?_ _;simp only[a0o];go_wp2_with fail;go_roundw
       case rel=>exact⟨i+1,s' ++ [(qa,ka)] ++ [(qb,kb)],by go_num,by have:=HLT.out;omega,PN,hSt,BR8,BX8⟩
       case measure=>simp[intOf]<;>(have:=HLT.out;omega)
   ·obtain rfl:i=N:=by omega
    have q9:decide ((i:Int)<(i:Int))=false:=by simp
    have HM:=hid (show mnL qs=e0T st from s0b (by rw[hP.out,List.take_of_length_le (by rw[HN.out];exact Nat.le_refl _)]))
    obtain⟨x0,hx0⟩:∃ b,st[0]?=some b:=⟨_,List.getElem?_eq_getElem (by
     rcases Nat.eq_zero_or_pos st.length with e | e
     ·have h:=hS.out.sum;rw[List.length_eq_zero_iff.1 e]at h;have:=HNN.out.1;simp at h;omega
     ·exact e)⟩
    obtain⟨K,hK⟩:∃ k,st.length=k:=⟨_,rfl⟩;have hK0:0<K:=by rw[← hK];exact (List.getElem?_eq_some_iff.1 hx0).1
    have HK:=hid hK;have HK64:=hid (show K≤64 by have:=hS.out.len;have:=HNN.out;omega);obtain⟨g,c6,rfl,hgB,hg,hKc,hc63,-⟩:=hO.out.nz hK hK0;have HOL:=hid (n0o hS.out)
    have HLim:=hid (fun (q:Rat) (hq:q∈e0T st)=>show Lim q by
     unfold e0T at hq;obtain⟨b,hb,hq⟩:=List.mem_flatMap.1 hq;rw[List.eq_of_mem_replicate hq];exact Lim.of (m0w hS.out HNN.out.2 hb) (by omega))
    have HWR:=fun V v h hV=>hid (h0q V wr.heap.size v (e0T st) h (by rw[HOL.out];exact HNN.out.2) HLim.out hV)
    have HBm:=hid (a0a y1.out hB.out);obtain⟨wp,hwp⟩:∃ q,q=wr:=⟨_,rfl⟩;subst hwp;clear hlt hi' hx0 hK hK0 hgB hP;go_wp2_with fail
    go_loopw [10,12,71] (fun s10 s12 s71 wx=>∃ p:Nat,s71=.int .i64 (p:Nat)∧p≤K∧Hid (VRow wp.heap.size wx s10 (e0T (st.take p)))∧Hid (Below wp.heap.size wp wx)) (fun s10 s12 s71 wx=>K-(intOf s71).toNat)
    case atStart=>exact⟨0,rfl,Nat.zero_le _,VRow.nil _ _,Below.refl _ _⟩
    case round=>
     obtain⟨p,e71,hp,hV,hX⟩:=hrel;obtain⟨s10,hs10⟩:∃ x,x=u10:=⟨_,rfl⟩;subst hs10;subst e71;by_cases hltp:p<K
     ·obtain⟨b,hb⟩:∃ b,st[p]?=some b:=⟨_,List.getElem?_eq_getElem (by rw[HK.out];exact hltp)⟩;obtain⟨mb,ab,nb,cb,bb,db,eb,-,-,l0,l1,l2,l3,hQb⟩:=(hO.out.call hX.out).at hb;have hbm:=List.mem_of_getElem? hb;have ib:=hS.out.all b hbm;have jb:=hS.out.le hbm;have lb:=hS.out.lim HNN.out.2 hbm;have HNX:=hid (k0T hb);obtain⟨qb,kb⟩:=b;dsimp only at l3 hQb ib jb lb HNX;have hkb64:kb≤64:=by have:=HNN.out;omega
      have PMb:=fun V hq=>hid (k0z V mb ab nb cb bb db eb qb kb hq ib.1 hkb64 lb)
      have A1:=hid ((Below.refl wr.heap.size wr).alloc (Nat.le_refl _) (.cells #[.bool mb,.slice ab nb cb,.slice bb db eb,.int .i64 (kb:Nat)] 73));have X1:=hid (Blk.new wr #[.bool mb,.slice ab nb cb,.slice bb db eb,.int .i64 (kb:Nat)] 73);have QB:=hid (hQb.call A1.out);have V1:=hid (hV.out.call A1.out);have B1:=hid (hX.out.trans (A1.out.mono hX.out.size));have KB:=hid (show 1≤kb∧kb≤64 from⟨ib.1,hkb64⟩);have HLTP:=hid hltp;have f1:(0:Int)≤(p:Int):=by omega
      have f2:(p:Int)<(K:Int):=by omega
      have wi:IntKind.i64.wrap ((p:Int)+1)=((p+1:Nat):Int):=by have:=HK64.out;rw[IntWalk.i64_in _ ⟨by omega,by omega⟩];omega
      obtain⟨W,hW⟩:∃ W,wr.alloc (.cells #[.bool mb,.slice ab nb cb,.slice bb db eb,.int .i64 (kb:Nat)] 73)=W:=⟨_,rfl⟩;rw[hW]at A1 X1 QB V1 B1
      have HVL:=hid (show (e0T (st.take p)).length≤64 by
       have h1:(e0T (st.take (p+1))).length≤(e0T st).length:=by
        have h2:e0T st=e0T (st.take (p+1))++e0T (st.drop (p+1)):=by unfold e0T;rw[← List.flatMap_append,List.take_append_drop]
        rw[h2,List.length_append];omega
       rw[HNX.out,List.length_append,HOL.out]at h1;have:=HNN.out;omega)
      have KK:Hid (∀ V,Below W.heap.size W V→V.cell? ⟨wr.heap.size,0,none⟩=some (.bool mb)∧V.cell? ⟨wr.heap.size,1,none⟩=some (.slice ab nb cb)∧V.cell? ⟨wr.heap.size,2,none⟩=some (.slice bb db eb)∧V.cell? ⟨wr.heap.size,3,none⟩=some (.int .i64 (kb:Nat))):=fun V hV=>⟨(X1.out.call hV).cell 0,(X1.out.call hV).cell 1,(X1.out.call hV).cell 2,(X1.out.call hV).cell 3⟩
      have GW:=hid (show wr.heap.size<W.heap.size from X1.out.lt)
      have OWN:=hid (show ∀ go,s10.ownBlock=some go→go<wr.heap.size from fun go hgo=>by
       obtain⟨cs,hk,-⟩:=hV.out.ex;exact (hk.own.lt go hgo).2)
      clear hb hbm ib jb lb hkb64 hQb hltp hp;go_wp2_with fail
      try rw[hW]
      clear hW l0 l1 l2 l3;refine a0f [0,1,4,5] 5 (fun V=>V.cell? ⟨wr.heap.size,0,none⟩=some (.bool mb)∧V.cell? ⟨wr.heap.size,1,none⟩=some (.slice ab nb cb)∧V.cell? ⟨wr.heap.size,2,none⟩=some (.slice bb db eb)∧V.cell? ⟨wr.heap.size,3,none⟩=some (.int .i64 (kb:Nat))) (by kernel_rfl) (by kernel_rfl) (by kernel_rfl) (by kernel_rfl) (KK.out _ (Below.refl _ _).drew) ?_
      iterate 4
       refine⟨_,rfl,?_⟩;apply Exists.intro
       refine⟨.inl ⟨by rfl,?_⟩,?_⟩
       ·(intro W' hW';obtain⟨z1,z2,z3,z4⟩:=hW';go_simp;try (with_reducible rfl))
       (dsimp only[Act.put];try simp only[List.setIfInBounds_toArray,List.set_cons_zero,List.set_cons_succ])
      refine a0b (i:=2) (by kernel_rfl) (by rfl) (by rfl) ?_;go_wp2_with fail;refine (PMb _ (QB.out.call (Below.refl _ _).drew)).out.mono ?_;rintro e w6 ⟨⟨v6,rfl,hv6⟩,hb6⟩;obtain⟨m6,a6,n6,c6',b6,d6,e6,rfl⟩:=hv6.qv;have y6:=hid (show Below W.heap.size W w6 from (Below.refl _ _).drew.trans hb6);have M6:=hid hv6;clear hb6 hv6;go_wp2_with fail;refine⟨KK.out _ y6.out,?_⟩;refine a0b (i:=3) (by kernel_rfl) (by rfl) (by rfl) ?_;go_wp2_with fail;have A7:=hid ((Below.refl w6.heap.size w6).alloc (Nat.le_refl _) (.cells #[.bool m6,.slice a6 n6 c6',.slice b6 d6 e6] 57));have Z7:=hid (Blk.new w6 #[.bool m6,.slice a6 n6 c6',.slice b6 d6 e6] 57);have M7:=hid (M6.out.call A7.out);have y7:=hid (a0a y6.out A7.out);refine⟨KK.out _ y7.out,?_⟩;refine a0b (i:=6) (by kernel_rfl) (by rfl) (by rfl) ?_;go_wp2_with fail;refine (q0O _ _ kb _ _ _ KB.out.1 (by have:=KB.out;omega) Z7.out rfl rfl rfl).mono ?_;rintro e w8 ⟨rfl,hb8,hy8⟩;have y8:=hid (a0a y7.out hy8);obtain⟨cr,hcr,hkr,hqr⟩:=q0P (B:=w6.heap.size) hb8 (by simp) (by have:=KB.out;omega) (M7.out.call hy8);have HKR:=hid hkr;have HQR:=hid hqr;have LCR:=hid (show cr.length=kb by rw[hcr,List.length_replicate]);obtain⟨cs,hk,hQL⟩:=(V1.out.call y8.out).ex;have HKV:=hid hk;have HQV:=hid hQL;have LCS:=hid (show cs.length=(e0T (st.take p)).length from hQL.len);have B8:=hid (B1.out.trans (y8.out.mono B1.out.size));have HC8:=hid hqr.cells
      have SRC:=hid (show ∀ j u,cr.flatten[j]?=some u→w8.cell? ((⟨w6.heap.size+1,0,none⟩:Addr).add j)=some u from fun j u hu=>by
       have h:=hkr.own.cells (g:=_) rfl j u hu;simpa using h)
      clear hb8 hy8 hcr hkr hqr hk hQL;go_wp2_with fail;refine⟨KK.out _ y8.out,?_⟩;refine a0b (i:=7) (by kernel_rfl) (by rfl) (by rfl) ?_;refine a0s _ .u64 rfl (.tmp 75) (.tmp 81) 53 rfl wp.heap.size 57 i0 (.agg #[.bool false,.slice none 0 0,.slice none 0 0]) 3 56 Tryz.underlying53 hi hz0 hz1 hz2 rfl (by decide) i0C _ cs rfl HKV.out ⟨w6.heap.size+1,0,none⟩ kb kb cr rfl LCR.out HKR.out.all SRC.out HC8.out.1 HC8.out.2 (by rw[LCS.out];have:=HVL.out;have:=KB.out;unfold maxLen;omega) (by rw[LCS.out];have:=HVL.out;have:=KB.out;omega) B8.out.size ?_;intro v' w9 hown hgrow hkeep hat;have V9:=hid (show VRow wp.heap.size w9 v' (e0T (st.take (p+1))) by rw[HNX.out];exact⟨cs++cr,hown,(HQV.out.append HQR.out).keep hkeep⟩);have B9:=hid (b0l HKV.out B8.out hgrow);have hblk:=hgrow.block wr.heap.size (by have:=GW.out;have:=y8.out.size;omega) (fun e=>by have:=OWN.out _ e.symm;omega);have KS:Hid (w9.cell? ⟨wr.heap.size,0,none⟩=some (.bool mb)∧w9.cell? ⟨wr.heap.size,1,none⟩=some (.slice ab nb cb)∧w9.cell? ⟨wr.heap.size,2,none⟩=some (.slice bb db eb)∧w9.cell? ⟨wr.heap.size,3,none⟩=some (.int .i64 (kb:Nat))):=by
       obtain⟨x1,x2,x3,x4⟩:=KK.out _ y8.out;exact⟨(World.cell?_of_block hblk).trans x1,(World.cell?_of_block hblk).trans x2,(World.cell?_of_block hblk).trans x3,(World.cell?_of_block hblk).trans x4⟩
      clear hown hgrow hkeep hat hblk;go_wp2_with fail;refine⟨KS.out,?_⟩;refine a0d (is:=[8]) (g:=0) (by kernel_rfl) rfl KS.out (by kernel_rfl) ?_
      iterate 1
       refine⟨_,rfl,?_⟩;apply Exists.intro
       refine⟨.inl ⟨by rfl,?_⟩,?_⟩
       ·(intro W' hW';obtain⟨z1,z2,z3,z4⟩:=hW';go_simp;try (with_reducible rfl))
       (dsimp only[Act.put];try simp only[List.setIfInBounds_toArray,List.set_cons_zero,List.set_cons_succ])
      refine wpAnyH_done (by kernel_rfl) ?_ _;simp only[a0o];go_wp2_with fail;go_roundw
      case rel=>exact⟨p+1,by go_num,by have:=HLTP.out;omega,V9,B9⟩
      case measure=>simp[intOf]<;>(have:=HLTP.out;omega)
     ·obtain rfl:p=K:=by omega
      have q8:decide ((p:Int)<(p:Int))=false:=by simp
      have RE:=hid (show VRow wp.heap.size wr s10 (e0T st) by have h:=hV.out;rw[List.take_of_length_le (by rw[HK.out];exact Nat.le_refl _)]at h;exact h);have BM:=hid (a0a HBm.out hX.out);clear hltp hp hV;go_wp2_with fail;refine (HWR _ _ RE.out (HL.out.call BM.out)).out.mono ?_;rintro e w8 ⟨⟨u,rfl,hu⟩,hb8⟩;have y8:=hid (a0a BM.out hb8);have U8:=hid hu;clear hb8 hu;go_wp2_with fail;go_ret2
      exact⟨⟨_,by rw[HM.out];rfl,by rw[HM.out];exact U8.out⟩,y8.out⟩
theorem l0t (w:World)(v u:Value)(L M:List Int)(hv:Row w v (zs L))(hu:Row w u (zs M)):
 Calls Tryz.prog 30 #[v,u] w fun e w'=>e=.returned (.bool (decide (L=M)))∧Below w.heap.size w w':=by
 obtain⟨a,c,rfl,h1,h2,h3⟩:=hv.openZ;obtain⟨a',c',rfl,h1',h2',h3'⟩:=hu.openZ;obtain⟨n,hn⟩:∃ n,L.length=n:=⟨_,rfl⟩;obtain⟨m,hm⟩:∃ n,M.length=n:=⟨_,rfl⟩;rw[hn]at h1 ⊢;rw[hm]at h1' ⊢;have H3:=hid h3;have H3':=hid h3';have HN:=hid hn;have HM:=hid hm;clear hv hu h3 h3';by_cases hnm:n=m
 ·subst hnm;have q0:((n:Int) != (n:Int))=false:=by simp
  clear hn hm;go_enter Tryz.func30,Tryz.ntmps30;go_wp2_with fail
  go_loopw [5] (fun ii wr=>∃ i:Nat,ii=.int .i64 (i:Nat)∧i≤n∧Hid (∀ j,j<i→L[j]?=M[j]?)∧Hid (Below w.heap.size w wr)) (fun ii wr=>n-(intOf ii).toNat)
  case atStart=>exact⟨0,rfl,Nat.zero_le _,fun j hj=>absurd hj (by omega),Below.refl _ _⟩
  case round=>
   obtain⟨i,rfl,hi,hI,hB⟩:=hrel;by_cases hlt:i<n
   ·obtain⟨x,hx⟩:∃ x,L[i]?=some x:=⟨_,List.getElem?_eq_getElem (by rw[HN.out];exact hlt)⟩;obtain⟨y,hy⟩:∃ x,M[i]?=some x:=⟨_,List.getElem?_eq_getElem (by rw[HM.out];exact hlt)⟩;obtain⟨g,o,rfl,hg,k1⟩:=H3.out i x hx;obtain⟨g',o',rfl,hg',k1'⟩:=H3'.out i y hy;have HX:=hid hx;have HY:=hid hy;have m1:=(hB.out.cell (p:=⟨g,o+i,none⟩) hg).trans k1;have m3:=(hB.out.cell (p:=⟨g',o'+i,none⟩) hg').trans k1';have b1:(0:Int)≤(i:Int):=by omega
    have b2:(i:Int)<(n:Int):=by omega
    have wi:IntKind.i64.wrap ((i:Int)+1)=(i:Int)+1:=by rw[IntWalk.i64_in _ ⟨by omega,by omega⟩]
    clear k1 k1' hx hy hg hg';by_cases he1:x=y
    ·subst he1;have n1:(x != x)=false:=by simp
     go_wp2_with fail;refine a0f [0,1,2,3,4,5,6,7,8] 0 (fun w'=>w'.cell? ⟨g,o+i,none⟩=some (.int .i64 x)∧w'.cell? ⟨g',o'+i,none⟩=some (.int .i64 x)) (by kernel_rfl) (by kernel_rfl) (by kernel_rfl) (by kernel_rfl) ⟨m1,m3⟩ ?_
     iterate 9
      refine⟨_,rfl,?_⟩;apply Exists.intro
      refine⟨.inl ⟨by rfl,?_⟩,?_⟩
      ·(intro W' hW';obtain⟨q1,q2⟩:=hW';go_simp;try (with_reducible rfl))
      (dsimp only[Act.put];try simp only[List.setIfInBounds_toArray,List.set_cons_zero,List.set_cons_succ])
     refine wpAnyH_done (by kernel_rfl) ?_ _;simp only[a0o];go_wp2_with fail;go_roundw
     case rel=>exact⟨i+1,rfl,by omega,fun j hj=>by
      rcases Nat.lt_or_ge j i with h | h
      ·exact hI.out j h
      ·obtain rfl:j=i:=by omega
       rw[HX.out,HY.out],hB.out.drew⟩
     case measure=>simp[intOf]<;>omega
    ·have n1:(x != y)=true:=by simpa using he1
     have hne:decide (L=M)=false:=by
      rw[decide_eq_false_iff_not];rintro rfl;have:=HX.out.symm.trans HY.out;simp only[Option.some.injEq]at this;exact he1 this
     have HNE:=hid hne;clear hne he1;go_wp2_with fail;refine a0f [0,1,2,3,4,5,6,7,8] 0 (fun w'=>w'.cell? ⟨g,o+i,none⟩=some (.int .i64 x)∧w'.cell? ⟨g',o'+i,none⟩=some (.int .i64 y)) (by kernel_rfl) (by kernel_rfl) (by kernel_rfl) (by kernel_rfl) ⟨m1,m3⟩ ?_
     iterate 9
      refine⟨_,rfl,?_⟩;apply Exists.intro
      refine⟨.inl ⟨by rfl,?_⟩,?_⟩
      ·(intro W' hW';obtain⟨q1,q2⟩:=hW';go_simp;try (with_reducible rfl))
      (dsimp only[Act.put];try simp only[List.setIfInBounds_toArray,List.set_cons_zero,List.set_cons_succ])
     refine wpAnyH_done (by kernel_rfl) ?_ _;simp only[a0o];go_wp2_with fail;go_ret
     exact⟨by rw[HNE.out];rfl,hB.out.drew⟩
   ·obtain rfl:i=n:=by omega
    have hE:L=M:=by
     apply List.ext_getElem?
     intro j;by_cases hj:j<i
     ·exact hI.out j hj
     ·rw[List.getElem?_eq_none (by rw[HN.out];omega),List.getElem?_eq_none (by rw[HM.out];omega)]
    have HE:=hid hE;have q1:decide ((i:Int)<(i:Int))=false:=by simp
    clear hE;go_wp2_with fail;go_ret
    exact⟨by rw[decide_eq_true HE.out];rfl,hB.out⟩
 ·have hE:decide (L=M)=false:=by rw[decide_eq_false_iff_not];rintro rfl;exact hnm (hn.symm.trans hm)
  have HE:=hid hE;have q0:((n:Int) != (m:Int))=true:=by simp;omega
  clear hn hm hE;go_enter Tryz.func30,Tryz.ntmps30;go_wp2_with fail;go_ret
  exact⟨by rw[HE.out];rfl,Below.refl _ _⟩
theorem c0Z (w:World)(L:List ByteArray)(cs:Array Value)(n b:Nat)(hc:cs=(a0T L).toArray)(hb:w.heap.size=b)(hn:L.length=n)(hL:n≤1000):Row (w.alloc (.cells cs 23)) (.slice (some ⟨b,0,none⟩) n n) (a0T L):=by
 subst hc hb;exact Row.of_blk (Blk.new w _ _) (by rw[strs_length];exact hn) (by unfold maxLen;omega) (fun i x h=>by rw[List.getElem?_toArray];exact h) (Nat.le_refl _) (by unfold maxLen;omega)
theorem m0U (w:World)(L:List Int)(cs:Array Value)(n b:Nat)(hc:cs=(zs L).toArray)(hb:w.heap.size=b)(hn:L.length=n)(hL:n≤1000):Row (w.alloc (.cells cs 3)) (.slice (some ⟨b,0,none⟩) n n) (zs L):=by
 subst hc hb;exact Row.of_blk (Blk.new w _ _) (by rw[zs_length];exact hn) (by unfold maxLen;omega) (fun i x h=>by rw[List.getElem?_toArray];exact h) (Nat.le_refl _) (by unfold maxLen;omega)
theorem g0n (w:World)(hL:Lay w):
 Calls Tryz.prog 9 #[] w fun e w'=>e=.returned (.bool true)∧Below w.heap.size w w':=by
 have HL:=hid hL;have PX:=fun V v hv hV=>hid (g0w V v [⟨#[51]⟩,⟨#[45,49]⟩,⟨#[49]⟩] ⟨#[51]⟩ hv (by intro s hs;simp at hs;rcases hs with rfl | rfl | rfl<;>decide) (by decide) hV (by decide))
 rw[s0d,r0i]at PX;have A1:=hid ((Below.refl w.heap.size w).alloc (Nat.le_refl _) (.cells #[.string ⟨#[51]⟩,.string ⟨#[45,49]⟩,.string ⟨#[49]⟩] 23));have R1:=hid (c0Z w [⟨#[51]⟩,⟨#[45,49]⟩,⟨#[49]⟩] _ 3 w.heap.size rfl rfl rfl (by omega));have PM:=fun V v hv hV=>hid (f0g V v [⟨#[49]⟩,⟨#[51]⟩,⟨#[50]⟩,⟨#[50]⟩,⟨#[53]⟩] hv (by intro s hs;simp at hs;rcases hs with rfl | rfl | rfl | rfl<;>decide) hV)
 rw[s0f,r0k]at PM;have PR:=fun V v hv hV=>hid (k0B V v [⟨#[52,47,51]⟩,⟨#[52,47,51]⟩,⟨#[52,47,51]⟩] hv (by intro s hs;simp at hs;rcases hs with rfl<;>decide) (by decide) hV)
 rw[s0e,r0j]at PR;have PI:=fun V u v hu hv=>hid (l0t V u v [2,1,1] [2,1,1] hu hv)
 have PS1:=fun V u v hu hv=>hid (h0R V u v [⟨#[53,47,50]⟩,⟨#[48]⟩,⟨#[49,47,50]⟩] [⟨#[53,47,50]⟩,⟨#[48]⟩,⟨#[49,47,50]⟩] hu hv)
 have PS2:=fun V u v hu hv=>hid (h0R V u v [⟨#[49]⟩,⟨#[55,47,51]⟩,⟨#[55,47,51]⟩,⟨#[55,47,51]⟩,⟨#[53]⟩] [⟨#[49]⟩,⟨#[55,47,51]⟩,⟨#[55,47,51]⟩,⟨#[55,47,51]⟩,⟨#[53]⟩] hu hv)
 rw[decide_eq_true rfl]at PI PS1 PS2;clear hL;go_enter Tryz.func9,Tryz.ntmps9;go_wp2_with fail;refine (PX _ _ R1.out (HL.out.call A1.out)).out.mono ?_;rintro e w1 ⟨⟨u1,rfl,hu1⟩,hb1⟩;have y1:=hid (a0a A1.out hb1);have U1:=hid hu1;obtain⟨a1,k1,rfl,-,-,-⟩:=hu1.openS;clear hb1 hu1;have A2:=hid ((Below.refl w1.heap.size w1).alloc (Nat.le_refl _) (.cells #[.string ⟨#[49]⟩,.string ⟨#[51]⟩,.string ⟨#[50]⟩,.string ⟨#[50]⟩,.string ⟨#[53]⟩] 23));have R2:=hid (c0Z w1 [⟨#[49]⟩,⟨#[51]⟩,⟨#[50]⟩,⟨#[50]⟩,⟨#[53]⟩] _ 5 w1.heap.size rfl rfl rfl (by omega));go_wp2_with fail;refine (PM _ _ R2.out (HL.out.call (a0a y1.out A2.out))).out.mono ?_;rintro e w2 ⟨⟨u2,rfl,hu2⟩,hb2⟩;have b2:=hid (a0a A2.out hb2);have y2:=hid (a0a y1.out b2.out);have U1b:=hid (U1.out.call b2.out);have U2:=hid hu2;obtain⟨a2,k2,rfl,-,-,-⟩:=hu2.openS;clear hb2 hu2;have A3:=hid ((Below.refl w2.heap.size w2).alloc (Nat.le_refl _) (.cells #[.string ⟨#[52,47,51]⟩,.string ⟨#[52,47,51]⟩,.string ⟨#[52,47,51]⟩] 23));have R3:=hid (c0Z w2 [⟨#[52,47,51]⟩,⟨#[52,47,51]⟩,⟨#[52,47,51]⟩] _ 3 w2.heap.size rfl rfl rfl (by omega));go_wp2_with fail;refine (PR _ _ R3.out (HL.out.call (a0a y2.out A3.out))).out.mono ?_;rintro e w3 ⟨⟨u3,rfl,hu3⟩,hb3⟩;have b3:=hid (a0a A3.out hb3);have y3:=hid (a0a y2.out b3.out);have U1c:=hid (U1b.out.call b3.out);have U2c:=hid (U2.out.call b3.out);have U3:=hid hu3;obtain⟨a3,k3,rfl,-,-,-⟩:=hu3.openZ;clear hb3 hu3;have A4:=hid ((Below.refl w3.heap.size w3).alloc (Nat.le_refl _) (.cells #[.string ⟨#[53,47,50]⟩,.string ⟨#[48]⟩,.string ⟨#[49,47,50]⟩] 23));have R4:=hid (c0Z w3 [⟨#[53,47,50]⟩,⟨#[48]⟩,⟨#[49,47,50]⟩] _ 3 w3.heap.size rfl rfl rfl (by omega));go_wp2_with fail;refine (PS1 _ _ _ (U1c.out.call A4.out) R4.out).out.mono ?_;rintro e w4 ⟨rfl,hb4⟩;have b4:=hid (a0a A4.out hb4);have y4:=hid (a0a y3.out b4.out);have U2d:=hid (U2c.out.call b4.out);have U3d:=hid (U3.out.call b4.out);clear hb4;have A5:=hid ((Below.refl w4.heap.size w4).alloc (Nat.le_refl _) (.cells #[.string ⟨#[49]⟩,.string ⟨#[55,47,51]⟩,.string ⟨#[55,47,51]⟩,.string ⟨#[55,47,51]⟩,.string ⟨#[53]⟩] 23));have R5:=hid (c0Z w4 [⟨#[49]⟩,⟨#[55,47,51]⟩,⟨#[55,47,51]⟩,⟨#[55,47,51]⟩,⟨#[53]⟩] _ 5 w4.heap.size rfl rfl rfl (by omega));go_wp2_with fail;refine (PS2 _ _ _ (U2d.out.call A5.out) R5.out).out.mono ?_;rintro e w5 ⟨rfl,hb5⟩;have b5:=hid (a0a A5.out hb5);have y5:=hid (a0a y4.out b5.out);have U3e:=hid (U3d.out.call b5.out);clear hb5;have A6:=hid ((Below.refl w5.heap.size w5).alloc (Nat.le_refl _) (.cells #[.int .i64 2,.int .i64 1,.int .i64 1] 3));have R6:=hid (m0U w5 [2,1,1] _ 3 w5.heap.size rfl rfl rfl (by omega));go_wp2_with fail;refine (PI _ _ _ (U3e.out.call A6.out) R6.out).out.mono ?_;rintro e w6 ⟨rfl,hb6⟩;go_wp2_with fail;go_ret
 exact⟨rfl,a0a y5.out (a0a A6.out hb6)⟩
theorem n0U (w:World)(v:Value)(l:List ByteArray)(t:ByteArray)(hv:Row w v (a0T l))(hs:∀ s∈l,s.size≤20)(hl:l.length≤12)(ht:t.size≤20)(h1:e0A l=true)(hL:Lay w):
 Calls Tryz.prog 7 #[v,.string t] w fun e w'=>e=.returned (.bool true)∧Below w.heap.size w w':=by
 have z1:∀ s∈l,s.size≤1000000:=fun s hs'=>by have:=hs s hs';omega
 have PL:=hid (g0n w hL);have PG:=fun V x hx=>hid (k0f V x l hx)
 rw[h1]at PG;have PX:=fun V x hx=>hid (p0B V x l hx (by omega))
 have C1:=fun V x hx hV=>hid (g0x V x l t hx z1 (by omega) hV)
 have C2:=fun V x hx=>hid (e0V V x l t hx hs hl ht)
 have D1:=fun V x hx hV=>hid (g0w V x l t hx z1 (by omega) hV hl)
 have D2:=fun V x hx=>hid (h0u V x l t hx hs hl ht)
 have M1:=fun V x hx hV=>hid (f0g V x l hx z1 hV)
 have M2:=fun V x hx=>hid (g0A V x l hx hs hl)
 have N1:=fun V x hx hV=>hid (k0B V x l hx z1 hl hV)
 have N2:=fun V x hx=>hid (k0K V x l hx hs hl)
 have SS:=hid (fun V a b L ha hb=>(show Hid (Calls Tryz.prog 16 #[a,b] V fun e w'=>e=.returned (.bool true)∧Below V.heap.size V w') from hid (by have:=h0R V a b L L ha hb;rwa[decide_eq_true rfl]at this)));have SI:=hid (fun V a b L ha hb=>(show Hid (Calls Tryz.prog 30 #[a,b] V fun e w'=>e=.returned (.bool true)∧Below V.heap.size V w') from hid (by have:=l0t V a b L L ha hb;rwa[decide_eq_true rfl]at this)));have HV:=hid hv;have HL:=hid hL;obtain⟨a1,c1,rfl,q1,q2,-⟩:=hv.openS;obtain⟨n,hn⟩:∃ n,l.length=n:=⟨_,rfl⟩;have t1:decide ((20:Int)<(t.size:Int))=false:=decide_eq_false (by omega);obtain⟨E1,hE1⟩:∃ E,cnE l t=E:=⟨_,rfl⟩;obtain⟨R1,hR1⟩:∃ E,cnR l t=E:=⟨_,rfl⟩;obtain⟨E2,hE2⟩:∃ E,smE l t=E:=⟨_,rfl⟩;obtain⟨R2,hR2⟩:∃ E,smR l t=E:=⟨_,rfl⟩;obtain⟨E3,hE3⟩:∃ E,mnE l=E:=⟨_,rfl⟩;obtain⟨R3,hR3⟩:∃ E,mnR l=E:=⟨_,rfl⟩;obtain⟨E4,hE4⟩:∃ E,rdE l=E:=⟨_,rfl⟩;obtain⟨R4,hR4⟩:∃ E,e0p l=E:=⟨_,rfl⟩;rw[hE1,hR1]at C1 C2;rw[hE2,hR2]at D1 D2;rw[hE3,hR3]at M1 M2;rw[hE4,hR4]at N1 N2;rw[hn]at HV q1 hl ⊢;clear hv hs z1 ht h1 hL hn hE1 hR1 hE2 hR2 hE3 hR3 hE4 hR4;go_enter Tryz.func7,Tryz.ntmps7;go_wp2_with fail;refine PL.out.mono ?_;rintro e w1 ⟨rfl,hb⟩;have y1:=hid hb;clear hb;go_wp2_with fail;refine (PG _ _ (HV.out.call y1.out)).out.mono ?_;rintro e w2 ⟨rfl,hb⟩;have y2:=hid (a0a y1.out hb);clear hb;go_wp2_with fail;refine (PX _ _ (HV.out.call y2.out)).out.mono ?_;rintro e w3 ⟨⟨x,rfl,ho⟩,hb⟩;have y3:=hid (a0a y2.out hb);have X3:=hid (Row.of_owns ho);obtain⟨ax,nx,cx,rfl⟩:∃ a n c,x=.slice a n c:=by obtain⟨a,c,e,-⟩:=X3.out.openS;exact⟨_,_,_,e⟩
 clear hb ho;go_wp2_with fail;refine (C1 _ _ X3.out (HL.out.call y3.out)).out.mono ?_;rintro e w4 ⟨⟨u,rfl,hu⟩,hb⟩;have y4:=hid (a0a y3.out hb);have X4:=hid (X3.out.call hb);obtain⟨aC1,nC1,cC1,rfl⟩:∃ a n c,u=.slice a n c:=by obtain⟨a,c,e,-⟩:=hu.openS;exact⟨_,_,_,e⟩
 have C1r_4:=hid hu;clear hb hu X3;go_wp2_with fail;refine (C2 _ _ (HV.out.call y4.out)).out.mono ?_;rintro e w5 ⟨⟨u,rfl,hu⟩,hb⟩;have y5:=hid (a0a y4.out hb);have X5:=hid (X4.out.call hb);have C1r_5:=hid (C1r_4.out.call hb);obtain⟨aC2,nC2,cC2,rfl⟩:∃ a n c,u=.slice a n c:=by obtain⟨a,c,e,-⟩:=hu.openS;exact⟨_,_,_,e⟩
 have C2r_5:=hid hu;clear hb hu X4 C1r_4;go_wp2_with fail;refine (D1 _ _ X5.out (HL.out.call y5.out)).out.mono ?_;rintro e w6 ⟨⟨u,rfl,hu⟩,hb⟩;have y6:=hid (a0a y5.out hb);have X6:=hid (X5.out.call hb);have C1r_6:=hid (C1r_5.out.call hb);have C2r_6:=hid (C2r_5.out.call hb);obtain⟨aD1,nD1,cD1,rfl⟩:∃ a n c,u=.slice a n c:=by obtain⟨a,c,e,-⟩:=hu.openS;exact⟨_,_,_,e⟩
 have D1r_6:=hid hu;clear hb hu X5 C1r_5 C2r_5;go_wp2_with fail;refine (D2 _ _ (HV.out.call y6.out)).out.mono ?_;rintro e w7 ⟨⟨u,rfl,hu⟩,hb⟩;have y7:=hid (a0a y6.out hb);have X7:=hid (X6.out.call hb);have C1r_7:=hid (C1r_6.out.call hb);have C2r_7:=hid (C2r_6.out.call hb);have D1r_7:=hid (D1r_6.out.call hb);obtain⟨aD2,nD2,cD2,rfl⟩:∃ a n c,u=.slice a n c:=by obtain⟨a,c,e,-⟩:=hu.openS;exact⟨_,_,_,e⟩
 have D2r_7:=hid hu;clear hb hu X6 C1r_6 C2r_6 D1r_6;go_wp2_with fail;refine (M1 _ _ X7.out (HL.out.call y7.out)).out.mono ?_;rintro e w8 ⟨⟨u,rfl,hu⟩,hb⟩;have y8:=hid (a0a y7.out hb);have X8:=hid (X7.out.call hb);have C1r_8:=hid (C1r_7.out.call hb);have C2r_8:=hid (C2r_7.out.call hb);have D1r_8:=hid (D1r_7.out.call hb);have D2r_8:=hid (D2r_7.out.call hb);obtain⟨aM1,nM1,cM1,rfl⟩:∃ a n c,u=.slice a n c:=by obtain⟨a,c,e,-⟩:=hu.openS;exact⟨_,_,_,e⟩
 have M1r_8:=hid hu;clear hb hu X7 C1r_7 C2r_7 D1r_7 D2r_7;go_wp2_with fail;refine (M2 _ _ (HV.out.call y8.out)).out.mono ?_;rintro e w9 ⟨⟨u,rfl,hu⟩,hb⟩;have y9:=hid (a0a y8.out hb);have X9:=hid (X8.out.call hb);have C1r_9:=hid (C1r_8.out.call hb);have C2r_9:=hid (C2r_8.out.call hb);have D1r_9:=hid (D1r_8.out.call hb);have D2r_9:=hid (D2r_8.out.call hb);have M1r_9:=hid (M1r_8.out.call hb);obtain⟨aM2,nM2,cM2,rfl⟩:∃ a n c,u=.slice a n c:=by obtain⟨a,c,e,-⟩:=hu.openS;exact⟨_,_,_,e⟩
 have M2r_9:=hid hu;clear hb hu X8 C1r_8 C2r_8 D1r_8 D2r_8 M1r_8;go_wp2_with fail;refine (N1 _ _ X9.out (HL.out.call y9.out)).out.mono ?_;rintro e w10 ⟨⟨u,rfl,hu⟩,hb⟩;have y10:=hid (a0a y9.out hb);have X10:=hid (X9.out.call hb);have C1r_10:=hid (C1r_9.out.call hb);have C2r_10:=hid (C2r_9.out.call hb);have D1r_10:=hid (D1r_9.out.call hb);have D2r_10:=hid (D2r_9.out.call hb);have M1r_10:=hid (M1r_9.out.call hb);have M2r_10:=hid (M2r_9.out.call hb);obtain⟨aN1,nN1,cN1,rfl⟩:∃ a n c,u=.slice a n c:=by obtain⟨a,c,e,-⟩:=hu.openZ;exact⟨_,_,_,e⟩
 have N1r_10:=hid hu;clear hb hu X9 C1r_9 C2r_9 D1r_9 D2r_9 M1r_9 M2r_9;go_wp2_with fail;refine (N2 _ _ (HV.out.call y10.out)).out.mono ?_;rintro e w11 ⟨⟨u,rfl,hu⟩,hb⟩;have y11:=hid (a0a y10.out hb);have X11:=hid (X10.out.call hb);have C1r_11:=hid (C1r_10.out.call hb);have C2r_11:=hid (C2r_10.out.call hb);have D1r_11:=hid (D1r_10.out.call hb);have D2r_11:=hid (D2r_10.out.call hb);have M1r_11:=hid (M1r_10.out.call hb);have M2r_11:=hid (M2r_10.out.call hb);have N1r_11:=hid (N1r_10.out.call hb);obtain⟨aN2,nN2,cN2,rfl⟩:∃ a n c,u=.slice a n c:=by obtain⟨a,c,e,-⟩:=hu.openZ;exact⟨_,_,_,e⟩
 have N2r_11:=hid hu;clear hb hu X10 C1r_10 C2r_10 D1r_10 D2r_10 M1r_10 M2r_10 N1r_10;go_wp2_with fail;refine (SS.out _ _ _ _ C1r_11.out C2r_11.out).out.mono ?_;rintro e w12 ⟨rfl,hb⟩;have y12:=hid (a0a y11.out hb);have X12:=hid (X11.out.call hb);have C1r_12:=hid (C1r_11.out.call hb);have C2r_12:=hid (C2r_11.out.call hb);have D1r_12:=hid (D1r_11.out.call hb);have D2r_12:=hid (D2r_11.out.call hb);have M1r_12:=hid (M1r_11.out.call hb);have M2r_12:=hid (M2r_11.out.call hb);have N1r_12:=hid (N1r_11.out.call hb);have N2r_12:=hid (N2r_11.out.call hb);clear hb X11 C1r_11 C2r_11 D1r_11 D2r_11 M1r_11 M2r_11 N1r_11 N2r_11;go_wp2_with fail;refine (SS.out _ _ _ _ D1r_12.out D2r_12.out).out.mono ?_;rintro e w13 ⟨rfl,hb⟩;have y13:=hid (a0a y12.out hb);have X13:=hid (X12.out.call hb);have C1r_13:=hid (C1r_12.out.call hb);have C2r_13:=hid (C2r_12.out.call hb);have D1r_13:=hid (D1r_12.out.call hb);have D2r_13:=hid (D2r_12.out.call hb);have M1r_13:=hid (M1r_12.out.call hb);have M2r_13:=hid (M2r_12.out.call hb);have N1r_13:=hid (N1r_12.out.call hb);have N2r_13:=hid (N2r_12.out.call hb);clear hb X12 C1r_12 C2r_12 D1r_12 D2r_12 M1r_12 M2r_12 N1r_12 N2r_12;go_wp2_with fail;refine (SS.out _ _ _ _ M1r_13.out M2r_13.out).out.mono ?_;rintro e w14 ⟨rfl,hb⟩;have y14:=hid (a0a y13.out hb);have X14:=hid (X13.out.call hb);have C1r_14:=hid (C1r_13.out.call hb);have C2r_14:=hid (C2r_13.out.call hb);have D1r_14:=hid (D1r_13.out.call hb);have D2r_14:=hid (D2r_13.out.call hb);have M1r_14:=hid (M1r_13.out.call hb);have M2r_14:=hid (M2r_13.out.call hb);have N1r_14:=hid (N1r_13.out.call hb);have N2r_14:=hid (N2r_13.out.call hb);clear hb X13 C1r_13 C2r_13 D1r_13 D2r_13 M1r_13 M2r_13 N1r_13 N2r_13;go_wp2_with fail;refine (SI.out _ _ _ _ N1r_14.out N2r_14.out).out.mono ?_;rintro e w15 ⟨rfl,hb⟩;have y15:=hid (a0a y14.out hb);have X15:=hid (X14.out.call hb);have C1r_15:=hid (C1r_14.out.call hb);have C2r_15:=hid (C2r_14.out.call hb);have D1r_15:=hid (D1r_14.out.call hb);have D2r_15:=hid (D2r_14.out.call hb);have M1r_15:=hid (M1r_14.out.call hb);have M2r_15:=hid (M2r_14.out.call hb);have N1r_15:=hid (N1r_14.out.call hb);have N2r_15:=hid (N2r_14.out.call hb);clear hb X14 C1r_14 C2r_14 D1r_14 D2r_14 M1r_14 M2r_14 N1r_14 N2r_14;go_wp2_with fail;refine (SS.out _ _ _ _ X15.out (HV.out.call y15.out)).out.mono ?_;rintro e w16 ⟨rfl,hb⟩;have y16:=hid (a0a y15.out hb);have X16:=hid (X15.out.call hb);have C1r_16:=hid (C1r_15.out.call hb);have C2r_16:=hid (C2r_15.out.call hb);have D1r_16:=hid (D1r_15.out.call hb);have D2r_16:=hid (D2r_15.out.call hb);have M1r_16:=hid (M1r_15.out.call hb);have M2r_16:=hid (M2r_15.out.call hb);have N1r_16:=hid (N1r_15.out.call hb);have N2r_16:=hid (N2r_15.out.call hb);clear hb X15 C1r_15 C2r_15 D1r_15 D2r_15 M1r_15 M2r_15 N1r_15 N2r_15;go_wp2_with fail;go_ret
 exact⟨rfl,y16.out⟩
theorem f0B (w:World)(v:Value)(l:List ByteArray)(t:ByteArray)(hv:Row w v (a0T l))(z1:∀ s∈l,s.size≤9223372036854775807)(zt:t.size≤9223372036854775807)(hL:Lay w):
 Calls Tryz.prog 7 #[v,.string t] w fun e w'=>e=.returned (.bool true)∧Below w.heap.size w w':=by
 by_cases hall:e0A l=true∧t.size≤20
 ·obtain⟨h1,h2⟩:=hall;have h3:=h1;unfold e0A at h3;rw[Bool.and_eq_true,List.all_eq_true]at h3;exact n0U w v l t hv (fun s hs=>of_decide_eq_true (h3.1 s hs)) (of_decide_eq_true h3.2) h2 h1 hL
 ·have PL:=hid (g0n w hL);have PG:=fun V x hx=>hid (k0f V x l hx)
  have HV:=hid hv;obtain⟨a1,c1,rfl,q1,q2,-⟩:=hv.openS;obtain⟨n,hn⟩:∃ n,l.length=n:=⟨_,rfl⟩;obtain⟨G,hG⟩:∃ G,e0A l=G:=⟨_,rfl⟩;rw[hG]at PG hall;rw[hn]at HV q1 ⊢;have HALL:=hid hall;clear hv z1 hL hn hG hall;cases G with
  | false=>
   clear HALL;go_enter Tryz.func7,Tryz.ntmps7;go_wp2_with fail;refine PL.out.mono ?_;rintro e w1 ⟨rfl,hb⟩;have y1:=hid hb;clear hb;go_wp2_with fail;refine (PG _ _ (HV.out.call y1.out)).out.mono ?_;rintro e w2 ⟨rfl,hb⟩;have y2:=hid (a0a y1.out hb);clear hb;go_wp2_with fail;go_ret
   exact⟨rfl,y2.out⟩
  | true=>
   have t1:decide ((20:Int)<(t.size:Int))=true:=decide_eq_true (by have h:=HALL.out;have:¬ t.size≤20:=fun e=>h ⟨rfl,e⟩;omega);clear HALL;go_enter Tryz.func7,Tryz.ntmps7;go_wp2_with fail;refine PL.out.mono ?_;rintro e w1 ⟨rfl,hb⟩;have y1:=hid hb;clear hb;go_wp2_with fail;refine (PG _ _ (HV.out.call y1.out)).out.mono ?_;rintro e w2 ⟨rfl,hb⟩;have y2:=hid (a0a y1.out hb);clear hb;go_wp2_with fail;go_ret
   exact⟨rfl,y2.out⟩
end Go.Proofs.YtlimaehdmcnjaaaGreatDoor
