/- Texts that the proof rests on, merged: So8, Sh3, So9, So14. -/
import Derived.Test.YtlimaehdmcnjaaaGreatDoorMg11
import Derived.Shelf.Bits.Mul64
import Derived.Ground.NamesProg
import Derived.Test.YtlimaehdmcnjaaaGreatDoorProg
import Derived.Laws.CopyOwn
set_option linter.unusedVariables false
set_option linter.unusedSimpArgs false
set_option linter.unusedSectionVars false
set_option maxRecDepth 100000
set_option maxHeartbeats 8000000
namespace Go.Proofs.YtlimaehdmcnjaaaGreatDoor
open Go.RowKit
open Go.Shelf
open Go.Lib (decDigits nDigits)
structure BC (W:World)(c:List Value)(b:Rat×Nat):Prop where
 ex:∃ (m:Bool) (a:Option Addr) (n p:Nat) (a':Option Addr) (n' p':Nat),c = [.bool m,.slice a n p,.slice a' n' p',.int .i64 (b.2:Nat)]∧IsQ .u64 W (.agg #[.bool m,.slice a n p,.slice a' n' p']) b.1
theorem BC.keep {W W':World}{c:List Value}{b:Rat×Nat}(h:BC W c b)(hk:KeepK .u64 W W'):BC W' c b:=by
 obtain⟨m,a,n,p,a',n',p',rfl,h1⟩:=h.ex;exact⟨m,a,n,p,a',n',p',rfl,hk.isQ h1⟩
structure BRow (B:Nat)(W:World)(v:Value)(bs:List (Rat×Nat)):Prop where
 ex:∃ cs,KRow .u64 73 4 B W v cs∧cs.length=bs.length∧∀ (i:Nat) (b:Rat×Nat),bs[i]?=some b→∃ c,cs[i]?=some c∧BC W c b
theorem BRow.nil (B:Nat)(W:World):BRow B W (.slice none 0 0) []:=⟨[],KRow.nil _ _ _ _ _,rfl,fun i b h=>by simp at h⟩
theorem BRow.call {B:Nat}{W W':World}{v:Value}{bs:List (Rat×Nat)}(h:BRow B W v bs)(hb:Below W.heap.size W W'):BRow B W' v bs:=by
 obtain⟨cs,h1,h2,h3⟩:=h.ex;refine⟨cs,h1.call hb,h2,fun i b hi=>?_⟩;obtain⟨c,h4,h5⟩:=h3 i b hi;exact⟨c,h4,h5.keep (KeepK.below hb)⟩
theorem BRow.slice {B:Nat}{W:World}{v:Value}{bs:List (Rat×Nat)}(h:BRow B W v bs):∃ a c,v=.slice a bs.length c∧bs.length≤c∧c≤9223372036854775807:=by
 obtain⟨cs,h1,h2,h3⟩:=h.ex;rw[← h2];exact h1.ex
theorem BRow.nz {B n:Nat}{W:World}{v:Value}{bs:List (Rat×Nat)}(h:BRow B W v bs)(hn:bs.length=n)(h0:0<n):∃ g c,v=.slice (some ⟨g,0,none⟩) n c∧B≤g∧g<W.heap.size∧n≤c∧c≤9223372036854775807∧∀ j,W.frozen? ⟨g,j,none⟩=false:=by
 obtain⟨cs,h1,h2,h3⟩:=h.ex;obtain⟨c,hc⟩:∃ c,cs[0]?=Option.some c:=⟨_,List.getElem?_eq_getElem (show 0<cs.length by omega)⟩;obtain⟨g,cap,e,q1,q2,q3,q4,q5⟩:=h1.block hc (by omega);rw[h2,hn]at e;exact⟨g,cap,e,q3,q4,by rw[h2,hn]at q1;exact q1,q2,q5⟩
theorem BRow.at {B g n c:Nat}{W:World}{bs:List (Rat×Nat)}(h:BRow B W (.slice (Option.some ⟨g,0,none⟩) n c) bs){i:Nat}{b:Rat×Nat}(hb:bs[i]?=Option.some b):
 ∃ (m:Bool) (a1:Option Addr) (n1 c1:Nat) (a2:Option Addr) (n2 c2:Nat),B≤g∧g<W.heap.size∧W.cell? ⟨g,i*4,none⟩=Option.some (.bool m)∧W.cell? ⟨g,i*4+1,none⟩=Option.some (.slice a1 n1 c1)∧W.cell? ⟨g,i*4+2,none⟩=Option.some (.slice a2 n2 c2)∧W.cell? ⟨g,i*4+3,none⟩=Option.some (.int .i64 (b.2:Nat))∧IsQ .u64 W (.agg #[.bool m,.slice a1 n1 c1,.slice a2 n2 c2]) b.1:=by
 obtain⟨cs,h1,h2,h3⟩:=h.ex;obtain⟨d,hd,hc⟩:=h3 i b hb;obtain⟨m,a1,n1,c1,a2,n2,c2,rfl,hQ⟩:=hc.ex;obtain⟨g',cap,e,-,-,hB,hg,-⟩:=h1.block hd (by omega);injection e with e1 e2 e3
 injection e1 with e1
 injection e1 with e1
 subst e1;exact⟨m,a1,n1,c1,a2,n2,c2,hB,hg,h1.cell hd (j:=0) rfl,h1.cell hd (j:=1) rfl,h1.cell hd (j:=2) rfl,h1.cell hd (j:=3) rfl,hQ⟩
theorem BRow.free {B g n c:Nat}{W:World}{bs:List (Rat×Nat)}(h:BRow B W (.slice (Option.some ⟨g,0,none⟩) n c) bs)(j:Nat):W.frozen? ⟨g,j,none⟩=false:=by
 obtain⟨cs,h1,-⟩:=h.ex;exact h1.free j
theorem BRow.blk {B g n c:Nat}{W:World}{bs:List (Rat×Nat)}(h:BRow B W (.slice (Option.some ⟨g,0,none⟩) n c) bs):∃ cur,Blk W g cur 73:=by
 obtain⟨cs,h1,-⟩:=h.ex;obtain⟨cur,h2,-⟩:=h1.nok g rfl;exact⟨cur,h2⟩
theorem m0o {W:World}{g:Nat}{cs:Array Value}{t:TypeId}(hB:Blk W g cs t)(o:Nat)(x y z:Value)(h j:Nat)(hh:h≠g∨(j≠o∧j≠o+1∧j≠o+2)):(((W.setCell ⟨g,o,none⟩ x).setCell ⟨g,o+1,none⟩ y).setCell ⟨g,o+2,none⟩ z).cell? ⟨h,j,none⟩=W.cell? ⟨h,j,none⟩:=by
 by_cases e:h=g
 ·subst e;obtain⟨h1,h2,h3⟩:=hh.resolve_left (fun h=>h rfl);have b1:=hB.set o x;have b2:=b1.set (o+1) y;have b3:=b2.set (o+2) z;rw[b3.cell,hB.cell,Array.getElem?_setIfInBounds_ne (by omega),Array.getElem?_setIfInBounds_ne (by omega),Array.getElem?_setIfInBounds_ne (by omega)]
 ·unfold World.cell?;rw[Below.heap_setCell _ _ _ _ e,Below.heap_setCell _ _ _ _ e,Below.heap_setCell _ _ _ _ e]
theorem l0E (W:World)(g j:Nat)(u:Value):W.grownBy (W.setCell ⟨g,j,none⟩ u) (Option.some g):=⟨rfl,rfl,rfl,by simp[World.setCell],fun k hk hne=>Below.heap_setCell _ _ _ _ (fun e=>hne (by rw[e]))⟩
theorem BRow.put {B g n c:Nat}{W:World}{bs:List (Rat×Nat)}(h:BRow B W (.slice (Option.some ⟨g,0,none⟩) n c) bs){i:Nat}(hi:i<bs.length){m:Bool}{a1 a2:Option Addr}{n1 c1 n2 c2 k:Nat}{q:Rat}(hq:IsQ .u64 W (.agg #[.bool m,.slice a1 n1 c1,.slice a2 n2 c2]) q):
 BRow B ((((W.setCell ⟨g,i*4,none⟩ (.bool m)).setCell ⟨g,i*4+1,none⟩ (.slice a1 n1 c1)).setCell ⟨g,i*4+2,none⟩ (.slice a2 n2 c2)).setCell ⟨g,i*4+3,none⟩ (.int .i64 (k:Nat))) (.slice (Option.some ⟨g,0,none⟩) n c) (bs.set i (q,k)) ∧
 KeepK .u64 W ((((W.setCell ⟨g,i*4,none⟩ (.bool m)).setCell ⟨g,i*4+1,none⟩ (.slice a1 n1 c1)).setCell ⟨g,i*4+2,none⟩ (.slice a2 n2 c2)).setCell ⟨g,i*4+3,none⟩ (.int .i64 (k:Nat))):=by
 obtain⟨cs,h1,h2,h3⟩:=h.ex;have hl:i<cs.length:=by rw[h2];exact hi
 obtain⟨d,hd⟩:∃ d,cs[i]?=Option.some d:=⟨_,List.getElem?_eq_getElem hl⟩;have hd4:=h1.all d (List.mem_of_getElem? hd);obtain⟨x,y,z,t,rfl⟩:∃ x y z t,d = [x,y,z,t]:=by
  match d,hd4 with
  | [x,y,z,t],_=>exact⟨x,y,z,t,rfl⟩
 have s1:=h1.set hd (j:=0) (by omega) (u:=.bool m) (fun x e=>by cases e);have e1:(cs.set i ([x,y,z,t].set 0 (.bool m)))[i]?=Option.some [.bool m,y,z,t]:=by rw[List.getElem?_set_self hl];rfl
 have s2:=s1.set e1 (j:=1) (by omega) (u:=.slice a1 n1 c1) (fun x e=>by cases e);rw[List.set_set]at s2;have e2:(cs.set i ([.bool m,y,z,t].set 1 (.slice a1 n1 c1)))[i]?=Option.some [.bool m,.slice a1 n1 c1,z,t]:=by rw[List.getElem?_set_self hl];rfl
 have s3:=s2.set e2 (j:=2) (by omega) (u:=.slice a2 n2 c2) (fun x e=>by cases e);rw[List.set_set]at s3;have e3:(cs.set i ([.bool m,.slice a1 n1 c1,z,t].set 2 (.slice a2 n2 c2)))[i]?=Option.some [.bool m,.slice a1 n1 c1,.slice a2 n2 c2,t]:=by rw[List.getElem?_set_self hl];rfl
 have s4:=s3.set e3 (j:=3) (by omega) (u:=.int .i64 (k:Nat)) (fun x e=>by cases e);rw[List.set_set]at s4;have kk:=(((h1.keepSet (i*4) (.bool m)).trans (s1.keepSet (i*4+1) (.slice a1 n1 c1))).trans (s2.keepSet (i*4+2) (.slice a2 n2 c2))).trans (s3.keepSet (i*4+3) (.int .i64 (k:Nat)));refine⟨⟨_,s4,by simp[h2],fun j b hj=>?_⟩,kk⟩;by_cases e:i=j
 ·subst e;rw[List.getElem?_set_self hi]at hj;obtain rfl:=Option.some.inj hj;exact⟨_,List.getElem?_set_self hl,⟨m,a1,n1,c1,a2,n2,c2,rfl,kk.isQ hq⟩⟩
 ·rw[List.getElem?_set_ne e]at hj ⊢;obtain⟨c',h4,h5⟩:=h3 j b hj;exact⟨c',h4,h5.keep kk⟩
theorem BRow.cut {B g n c:Nat}{W:World}{bs:List (Rat×Nat)}(h:BRow B W (.slice (Option.some ⟨g,0,none⟩) n c) bs){m:Nat}(hm:m≤bs.length):BRow B W (.slice (Option.some ⟨g,0,none⟩) m c) (bs.take m):=by
 obtain⟨cs,h1,h2,h3⟩:=h.ex;have hlen:(cs.take m).length=m:=by rw[List.length_take];omega
 have hfl:∀ (l:List (List Value)) (k:Nat),(∀ d∈l,d.length=4)→(l.take k).flatten=l.flatten.take (k*4):=by
  intro l
  induction l with
  | nil=>intro k _;simp
  | cons d l ih=>
   intro k hd;have h4:d.length=4:=hd d (by simp);cases k with
   | zero=>simp
   | succ k=>
    rw[List.take_succ_cons,List.flatten_cons,List.flatten_cons,ih k fun x hx=>hd x (by simp[hx]),List.take_append,show d.take ((k+1)*4)=d from List.take_of_length_le (by omega),show (k+1)*4-d.length=k*4 by omega]
 refine⟨cs.take m,⟨⟨?_,?_⟩,fun d hd=>h1.all d (List.mem_of_mem_take hd),h1.nok⟩,by rw[List.length_take,List.length_take,h2],fun i b hi=>?_⟩
 ·rw[hfl cs m h1.all,List.length_take,h1.own.1,hlen];omega
 ·rcases h1.own.2 with ⟨e1,_⟩ | ⟨g',cap,cur,e1,hb,hg,q1,q2,q3,q4⟩
  ·simp at e1
  ·simp at e1;obtain⟨rfl,e2,rfl⟩:=e1;refine .inr ⟨g,c,cur,by rw[hlen],hb,hg,by omega,q2,q3,?_⟩;rw[hlen,hfl cs m h1.all,← q4,List.take_take,Nat.min_eq_left (by omega)]
 ·rw[List.getElem?_take]at hi ⊢
  split at hi
  ·rename_i hlt
   rw[if_pos hlt];exact h3 i b hi
  ·cases hi
theorem k0z (w:World)(m:Bool)(a1:Option Addr)(n1 c1:Nat)(a2:Option Addr)(n2 c2:Nat)(q:Rat)(k:Nat)(hq:IsQ .u64 w (.agg #[.bool m,.slice a1 n1 c1,.slice a2 n2 c2]) q)(hk:0<k)(hk2:k≤64)(hl:Lim q):
 Calls Tryz.prog 52 #[.agg #[.bool m,.slice a1 n1 c1,.slice a2 n2 c2,.int .i64 (k:Nat)]] w fun e w'=>d0Q .u64 (bm (q,k)) e w'∧Below w.heap.size w w':=by
 have P1:=fun V=>hid (e0m V k (by omega))
 have LK:Lim ((k:Nat):Rat):=Lim.of (K:=2) ⟨by rw[Rat.num_natCast];simp;omega,by rw[Rat.den_natCast];omega⟩ (by omega);have P2:=fun V v u hv hu=>hid (p0S V v u q ((k:Nat):Rat) hv hu (b0N hk) hl.1 hl.2 LK.1 LK.2)
 rw[show q / ((k:Nat):Rat)=bm (q,k) from rfl]at P2;have A1:=hid ((Below.refl w.heap.size w).alloc (Nat.le_refl _) (.cells #[.bool m,.slice a1 n1 c1,.slice a2 n2 c2,.int .i64 (k:Nat)] 73));have A2:=hid (A1.out.alloc A1.out.size (.cells #[.bool false,.slice none 0 0,.slice none 0 0] 57));have X1:=hid ((Blk.new w #[.bool m,.slice a1 n1 c1,.slice a2 n2 c2,.int .i64 (k:Nat)] 73).alloc (.cells #[.bool false,.slice none 0 0,.slice none 0 0] 57));have X2:=hid (show Blk ((w.alloc (.cells #[.bool m,.slice a1 n1 c1,.slice a2 n2 c2,.int .i64 (k:Nat)] 73)).alloc (.cells #[.bool false,.slice none 0 0,.slice none 0 0] 57)) (w.heap.size+1) #[.bool false,.slice none 0 0,.slice none 0 0] 57 from Blk.made _ _ _ (by simp));have Q2:=hid (hq.call A2.out);obtain⟨W,hW⟩:∃ W,(w.alloc (.cells #[.bool m,.slice a1 n1 c1,.slice a2 n2 c2,.int .i64 (k:Nat)] 73)).alloc (.cells #[.bool false,.slice none 0 0,.slice none 0 0] 57)=W:=⟨_,rfl⟩;rw[hW]at A2 X1 X2 Q2;have KK:Hid (∀ V,Below W.heap.size W V→V.cell? ⟨w.heap.size,0,none⟩=some (.bool m)∧V.cell? ⟨w.heap.size,1,none⟩=some (.slice a1 n1 c1)∧V.cell? ⟨w.heap.size,2,none⟩=some (.slice a2 n2 c2)∧V.cell? ⟨w.heap.size,3,none⟩=some (.int .i64 (k:Nat))):=fun V hV=>
  ⟨(X1.out.call hV).cell 0,(X1.out.call hV).cell 1,(X1.out.call hV).cell 2,(X1.out.call hV).cell 3⟩
 clear hq hk hk2 hl LK A1;go_enter Tryz.func52,Tryz.ntmps52;go_wp2_with fail
 try rw[hW]
 clear hW;refine a0f [0,1,2,3] 3 (fun V=>V.cell? ⟨w.heap.size,0,none⟩=some (.bool m)∧V.cell? ⟨w.heap.size,1,none⟩=some (.slice a1 n1 c1)∧V.cell? ⟨w.heap.size,2,none⟩=some (.slice a2 n2 c2)∧V.cell? ⟨w.heap.size,3,none⟩=some (.int .i64 (k:Nat))) (by kernel_rfl) (by kernel_rfl) (by kernel_rfl) (by kernel_rfl) (KK.out _ (Below.refl _ _).drew) ?_
 iterate 4
  refine⟨_,rfl,?_⟩;apply Exists.intro
  refine⟨.inl ⟨by rfl,?_⟩,?_⟩
  ·(intro W' hW';obtain⟨z1,z2,z3,z4⟩:=hW';go_simp;try (with_reducible rfl))
  (dsimp only[Act.put];try simp only[List.setIfInBounds_toArray,List.set_cons_zero,List.set_cons_succ])
 refine a0b (i:=4) (by kernel_rfl) (by rfl) (by rfl) ?_;go_wp2_with fail;refine (P1 _).out.mono ?_;rintro e w1 ⟨⟨v1,rfl,hv1⟩,hb1⟩;obtain⟨m3,a3,n3,c3,b3,d3,e3,rfl⟩:=hv1.qv;have y1:=hid (show Below W.heap.size W w1 from (Below.refl _ _).drew.trans hb1);have N1:=hid hv1;clear hb1 hv1;go_wp2_with fail;refine⟨KK.out _ y1.out,?_⟩;refine a0b (i:=5) (by kernel_rfl) (by rfl) (by rfl) ?_;go_wp2_with fail;refine (P2 _ _ _ (Q2.out.call y1.out) N1.out).out.mono ?_;rintro e w2 ⟨⟨v2,rfl,hv2⟩,hb2⟩;obtain⟨m4,a4,n4,c4,b4,d4,e4,rfl⟩:=hv2.qv;have y2:=hid (a0a y1.out hb2);have X3:=hid (X2.out.call y2.out);have Q3:=hid hv2;clear hb2 hv2;go_wp2_with fail;refine⟨KK.out _ y2.out,?_⟩;refine a0b (i:=6) (by kernel_rfl) (by rfl) (by rfl) ?_;have d0:=X3.out.cell 0;have d1:=X3.out.cell 1;have d2:=X3.out.cell 2;have e0:=X3.out.free 0;have e1:=X3.out.free 1;have e2:=X3.out.free 2;simp at d0 d1 d2;have BN:=hid ((((A2.out.trans (y2.out.mono A2.out.size)).setCell (p:=⟨w.heap.size+1,0,none⟩) (by simp) (.bool m4)).setCell (p:=⟨w.heap.size+1,1,none⟩) (by simp) (.slice a4 n4 c4)).setCell (p:=⟨w.heap.size+1,2,none⟩) (by simp) (.slice b4 d4 e4));have KL:=hid (KK.out _ y2.out);obtain⟨s1,s2⟩:=b0d X3.out m4 a4 b4 n4 c4 d4 e4;have S1:=hid s1;have S2:=hid s2;have KS:=hid (show (((w2.setCell ⟨w.heap.size+1,0,none⟩ (.bool m4)).setCell ⟨w.heap.size+1,1,none⟩ (.slice a4 n4 c4)).setCell ⟨w.heap.size+1,2,none⟩ (.slice b4 d4 e4)).heap[w.heap.size]?=w2.heap[w.heap.size]? from a0g _ _ _ _ _ (by omega));clear s1 s2;go_wp2_with fail;have hS:∀ j,(((w2.setCell ⟨w.heap.size+1,0,none⟩ (.bool m4)).setCell ⟨w.heap.size+1,1,none⟩ (.slice a4 n4 c4)).setCell ⟨w.heap.size+1,2,none⟩ (.slice b4 d4 e4)).cell? ⟨w.heap.size,j,none⟩=w2.cell? ⟨w.heap.size,j,none⟩:=fun j=>by unfold World.cell?;rw[KS.out]
 refine⟨by obtain⟨x1,x2,x3,x4⟩:=KL.out;exact⟨(hS 0).trans x1,(hS 1).trans x2,(hS 2).trans x3,(hS 3).trans x4⟩,?_⟩;refine wpAnyH_done (by kernel_rfl) ?_ _;simp only[a0o];have f0:=S2.out.cell 0;have f1:=S2.out.cell 1;have f2:=S2.out.cell 2;simp at f0 f1 f2;go_wp2_with fail;refine bodyPost_ret (v:=.agg #[.bool m4,.slice a4 n4 c4,.slice b4 d4 e4]) (by simp[results,Tryz.results52,go_sem,f0,f1,f2]) rfl ⟨⟨_,rfl,b0Z X3.out m4 a4 b4 n4 c4 d4 e4 Q3.out⟩,BN.out⟩
theorem o0O (w:World)(B g n c i:Nat)(bs:List (Rat×Nat))(b:Rat×Nat)(hr:BRow B w (.slice (some ⟨g,0,none⟩) n c) bs)(hi:bs[i]?=some b)(m:Bool)(a1:Option Addr)(n1 c1:Nat)(a2:Option Addr)(n2 c2:Nat)(q:Rat)(k:Nat)(hq:IsQ .u64 w (.agg #[.bool m,.slice a1 n1 c1,.slice a2 n2 c2]) q)(hk:b.2+k≤1000)(hl:Lim b.1)(hl2:Lim q):
 Calls Tryz.prog 53 #[.pointer (some ⟨g,i*4,none⟩),.agg #[.bool m,.slice a1 n1 c1,.slice a2 n2 c2,.int .i64 (k:Nat)]] w fun e w'=>e=.returned (.tuple #[])∧BRow B w' (.slice (some ⟨g,0,none⟩) n c) (bs.set i (b.1+q,b.2+k))∧w.grownBy w' (some g):=by
 obtain⟨mb,ab1,nb1,cb1,ab2,nb2,cb2,hB,hg,k0,k1,k2,k3,hQb⟩:=hr.at hi;have hil:=(List.getElem?_eq_some_iff.1 hi).1;obtain⟨p,kb⟩:=b;dsimp only at *;have PA:=fun V v u hv hu=>hid (l0P V v u p q hv hu hl.1 hl.2 hl2.1 hl2.2)
 have A1:=hid ((Below.refl w.heap.size w).alloc (Nat.le_refl _) (.cells #[.bool m,.slice a1 n1 c1,.slice a2 n2 c2,.int .i64 (k:Nat)] 73));have X1:=hid (Blk.new w #[.bool m,.slice a1 n1 c1,.slice a2 n2 c2,.int .i64 (k:Nat)] 73);have QN:=hid (hq.call A1.out);have QB:=hid (hQb.call A1.out);have R1:=hid (hr.call A1.out);obtain⟨W,hW⟩:∃ W,w.alloc (.cells #[.bool m,.slice a1 n1 c1,.slice a2 n2 c2,.int .i64 (k:Nat)] 73)=W:=⟨_,rfl⟩;have GW:=hid (show w.grownBy W (some g) by rw[← hW];exact b0c A1.out);rw[hW]at A1 X1 QN QB R1;have wk:IntKind.i64.wrap ((kb:Int)+(k:Int))=((kb+k:Nat):Int):=by rw[IntWalk.i64_in _ ⟨by omega,by omega⟩];omega
 have d0:=(A1.out.cell (p:=⟨g,i*4,none⟩) hg).trans k0;have d1:=(A1.out.cell (p:=⟨g,i*4+1,none⟩) hg).trans k1;have d2:=(A1.out.cell (p:=⟨g,i*4+2,none⟩) hg).trans k2;have d3:=(A1.out.cell (p:=⟨g,i*4+3,none⟩) hg).trans k3;have D0:=hid d0;have D1:=hid d1;have D2:=hid d2;have D3:=hid d3;have HG:=hid (show g≠w.heap.size by omega);have HI:=hid hil;have KX:Hid (∀ V,Below W.heap.size W V→V.cell? ⟨w.heap.size,0,none⟩=some (.bool m)∧V.cell? ⟨w.heap.size,1,none⟩=some (.slice a1 n1 c1)∧V.cell? ⟨w.heap.size,2,none⟩=some (.slice a2 n2 c2)∧V.cell? ⟨w.heap.size,3,none⟩=some (.int .i64 (k:Nat))∧V.cell? ⟨g,i*4+3,none⟩=some (.int .i64 (kb:Nat))):=fun V hV=>
  ⟨(X1.out.call hV).cell 0,(X1.out.call hV).cell 1,(X1.out.call hV).cell 2,(X1.out.call hV).cell 3,(hV.cell (p:=⟨g,i*4+3,none⟩) (a0z D3.out)).trans D3.out⟩
 clear hr hi hq hk hl hl2 hB hg k0 k1 k2 k3 hQb hil d0 d1 d2 d3;go_enter Tryz.func53,Tryz.ntmps53;go_wp2_with fail
 try rw[hW]
 clear hW;refine e0G 19 3 [] [(19,20)] [0,1,2,3,4,6,7,9,10,11,12,13,14,15] 5 (fun V=>V.cell? ⟨w.heap.size,0,none⟩=some (.bool m)∧V.cell? ⟨w.heap.size,1,none⟩=some (.slice a1 n1 c1)∧V.cell? ⟨w.heap.size,2,none⟩=some (.slice a2 n2 c2)∧V.cell? ⟨w.heap.size,3,none⟩=some (.int .i64 (k:Nat))∧V.cell? ⟨g,i*4+3,none⟩=some (.int .i64 (kb:Nat))) (by kernel_rfl) (by kernel_rfl) (by kernel_rfl) (by kernel_rfl) (by kernel_rfl) (by kernel_rfl) (by kernel_rfl) (by kernel_rfl) (by kernel_rfl) (by kernel_rfl) (by kernel_rfl) (by kernel_rfl) (KX.out _ (Below.refl _ _).drew) ?_
 iterate 14
  refine⟨_,rfl,?_⟩;apply Exists.intro
  refine⟨.inl ⟨by rfl,?_⟩,?_⟩
  ·(intro W' hW';obtain⟨z1,z2,z3,z4,z5⟩:=hW';go_simp;try (with_reducible rfl))
  (dsimp only[Act.put];try simp only[List.setIfInBounds_toArray,List.set_cons_zero,List.set_cons_succ])
 refine a0b (i:=5) (by kernel_rfl) (by rfl) (by rfl) ?_;have d0:=D0.out;have d1:=D1.out;have d2:=D2.out;go_wp2_with fail;refine⟨KX.out _ (Below.refl _ _).drew,?_⟩;refine a0b (i:=8) (by kernel_rfl) (by rfl) (by rfl) ?_;go_wp2_with fail;refine (PA _ _ _ (QB.out.call (Below.refl _ _).drew) (QN.out.call (Below.refl _ _).drew)).out.mono ?_;rintro e w6 ⟨⟨v6,rfl,hv6⟩,hb6⟩;obtain⟨m7,a7,n7,c7,a8,n8,c8,rfl⟩:=hv6.qv;have y6:=hid (show Below W.heap.size W w6 from (Below.refl _ _).drew.trans hb6);have V6:=hid hv6;clear hb6 hv6 d0 d1 d2;go_wp2_with fail;refine⟨KX.out _ y6.out,?_⟩;refine a0b (i:=16) (by kernel_rfl) (by rfl) (by rfl) ?_;go_wp2_with fail;refine⟨KX.out _ y6.out,?_⟩;refine a0b (i:=17) (by kernel_rfl) (by rfl) (by rfl) ?_;go_wp2_with fail;refine⟨KX.out _ y6.out,?_⟩;refine a0b (i:=18) (by kernel_rfl) (by rfl) (by rfl) ?_;have R6:=hid (R1.out.call y6.out);have r0:=(y6.out.cell (p:=⟨g,i*4,none⟩) (a0z D0.out)).trans D0.out;have r1:=(y6.out.cell (p:=⟨g,i*4+1,none⟩) (a0z D1.out)).trans D1.out;have r2:=(y6.out.cell (p:=⟨g,i*4+2,none⟩) (a0z D2.out)).trans D2.out;have r3:=(y6.out.cell (p:=⟨g,i*4+3,none⟩) (a0z D3.out)).trans D3.out;have f0:=R6.out.free (i*4);have f1:=R6.out.free (i*4+1);have f2:=R6.out.free (i*4+2);have f3:=R6.out.free (i*4+3);have KY:=hid (KX.out _ y6.out);obtain⟨cur,hcur⟩:=R6.out.blk;have hS:∀ (h j:Nat),(h≠g∨j=i*4+3)→(((w6.setCell ⟨g,i*4,none⟩ (.bool m7)).setCell ⟨g,i*4+1,none⟩ (.slice a7 n7 c7)).setCell ⟨g,i*4+2,none⟩ (.slice a8 n8 c8)).cell? ⟨h,j,none⟩=w6.cell? ⟨h,j,none⟩:=fun h j hh=>m0o hcur _ _ _ _ _ _ (hh.imp_right fun e=>⟨by omega,by omega,by omega⟩)
 have HS:=hid hS;clear hS hcur;go_wp2_with fail
 refine⟨by
  obtain⟨x1,x2,x3,x4,x5⟩:=KY.out;exact⟨(HS.out _ _ (.inl HG.out.symm)).trans x1,(HS.out _ _ (.inl HG.out.symm)).trans x2,(HS.out _ _ (.inl HG.out.symm)).trans x3,(HS.out _ _ (.inl HG.out.symm)).trans x4,(HS.out _ _ (.inr rfl)).trans x5⟩,?_⟩
 refine wpAnyH_done (by kernel_rfl) ?_ _;simp only[a0o,c0D,List.drop_succ_cons,List.drop_zero];have s3:=(HS.out g (i*4+3) (.inr rfl)).trans r3;obtain⟨P1,P2⟩:=R6.out.put (i:=i) HI.out (k:=kb+k) V6.out;have P3:=hid P1
 have G6:=hid (show w.grownBy ((((w6.setCell ⟨g,i*4,none⟩ (.bool m7)).setCell ⟨g,i*4+1,none⟩ (.slice a7 n7 c7)).setCell ⟨g,i*4+2,none⟩ (.slice a8 n8 c8)).setCell ⟨g,i*4+3,none⟩ (.int .i64 ((kb+k:Nat):Int))) (some g) from
  ((GW.out.trans (b0c (r:=some g) y6.out)).trans (d0I (g:=g) (j:=i*4) (.bool m7) (.slice a7 n7 c7) (.slice a8 n8 c8))).trans (l0E _ g (i*4+3) (.int .i64 ((kb+k:Nat):Int))))
 clear P1 P2;go_wp2_with fail
 try simp only[a0o]
 try go_wp2_with fail
 rw[Int.natCast_add]at P3 G6
 go_end0
 exact⟨rfl,P3.out,G6.out⟩
end Go.Proofs.YtlimaehdmcnjaaaGreatDoor
namespace Go.Proofs
open Go.Shelf
def Tryz.lays212_ren:Go.Shelf.Ren:=⟨fun | 212=>108 | 263=>149 | 264=>150 | n=>n,fun | 46=>118 | 51=>161 | 146=>167 | 53=>122 | 148=>169 | n=>n,fun | n=>n⟩
theorem Tryz.lays212:Go.Proofs.Lays.n212 Tryz.prog Tryz.lays212_ren:={
 mixed:=by kernel_rfl
 f212:=Tryz.func108.trans (congrArg some (by kernel_rfl))
 f263:=Tryz.func149.trans (congrArg some (by kernel_rfl))
 f264:=Tryz.func150.trans (congrArg some (by kernel_rfl))
 t46:=Tryz.underlying118
 a46:=Tryz.isAgg118
 z46:=Tryz.sizeOf118
 v46:=Tryz.zeroValue118
 t51:=Tryz.underlying161
 a51:=Tryz.isAgg161
 z51:=Tryz.sizeOf161
 v51:=Tryz.zeroValue161
 t53:=Tryz.underlying122
 a53:=Tryz.isAgg122
 z53:=Tryz.sizeOf122
 v53:=Tryz.zeroValue122
 t146:=Tryz.underlying167
 a146:=Tryz.isAgg167
 z146:=Tryz.sizeOf167
 v146:=Tryz.zeroValue167
 t148:=Tryz.underlying169
 a148:=Tryz.isAgg169
 z148:=Tryz.sizeOf169
 v148:=Tryz.zeroValue169 }
open Go.RowKit Go.Lib in
theorem Tryz.bits_Mul (x y:Nat)(hx:x<18446744073709551616)(hy:y<18446744073709551616)(w:World):
 Calls Tryz.prog 108 #[.int .u64 x,.int .u64 y] w fun e w'=>e=.returned (.tuple #[.int .u64 ((x*y / 18446744073709551616:Nat):Int),.int .u64 ((x*y%18446744073709551616:Nat):Int)])∧w'=w:=Any.bits_Mul Tryz.lays212 x y hx hy w
end Go.Proofs
namespace Go.Proofs.YtlimaehdmcnjaaaGreatDoor
open Go.RowKit
open Go.Shelf
open Go.Lib (decDigits nDigits)
theorem f0I {P:Program}(w:World)(dT sT ty elem:TypeId)(g o dLen dCap:Nat)(a:Addr)(sLen sCap:Nat)(cur:Array Value)(t:TypeId)(cs:List Value)(sz m:Nat)
 (hu:P.underlying dT=some (.slice elem)) (hs:(P.info? elem).map (·.size)=some sz)
 (hg:w.heap[g]?=some (.cells cur t (0,0))) (hm:m=Nat.min sLen dLen) (hn:cs.length=m*sz)
 (hsrc:∀ j v,cs[j]?=some v→w.cell? (a.add j)=some v) (hfit:o+cs.length≤cur.size) (h1:∀ v∈cs,v.oneCell'=true):
 (Builtin.copy_ #[dT,sT] ty #[.slice (some ⟨g,o,none⟩) dLen dCap,.slice (some a) sLen sCap]).run P w =
  .ok (goInt m) (w.setRow g (cur.toList.take o++cs++cur.toList.drop (o+cs.length)).toArray):=by
 have hl:=run_loadCells_list (P:=P) w a cs hsrc;rw[hn]at hl;have hst:=run_storeCells_at P g o t cs 0 cur w hg (by simpa using hfit) h1;cases hq:P.info? elem with
 | none=>simp[hq]at hs
 | some i=>
  have hi:i.size=sz:=by simpa[hq]using hs
  simp[Builtin.copy_,run_underlying hu,Builtin.lenOf,Builtin.firstCells,sizeOf,typeInfo,hq,hi,← hm,hl,hst]
theorem d0M {P:Program}{w:World}{ops:Array Oper}{rest:List Oper}{o:Oper}{a:Act}{Q:Exit→Act→World→Prop}(hgd:o.guard=none)(d s:Operand)(dT sT:TypeId)
 (ho:o.op=.call { callee:=.builtin .copy,args:=#[d,s],argTypes:=#[dT,sT] }) (elem:TypeId) (sz m:Nat) (hu:P.underlying dT=some (.slice elem)) (hsz:(P.info? elem).map (·.size)=some sz)
 (ad:Addr) (dLen dCap sLen sCap g off:Nat) (hd:a.eval d=.slice (some ⟨g,off,none⟩) dLen dCap) (hs:a.eval s=.slice (some ad) sLen sCap)
 (cur:List Value) (t:TypeId) (hg:w.heap[g]?=some (.cells cur.toArray t (0,0))) (cs:List Value) (hm:m=Nat.min sLen dLen) (hn:cs.length=m*sz)
 (hsrc:∀ j v,cs[j]?=some v→w.cell? (ad.add j)=some v) (hfit:off+cs.length≤cur.length) (h1:∀ v∈cs,v.oneCell'=true) (B:Nat) (w0:World) (hb:Below B w0 w) (hBg:B≤g)
 (h:∀ w',Hid (w'.heap[g]?=some (.cells (splice cur off cs).toArray t (0,0)))→Below B w0 w'→wpList P ops Q rest (a.put o.dst (goInt m)) w'):
 wpList P ops Q (o::rest) a w:=by
 refine wpList_plain hgd fun K hK=>?_
 have hrun:=f0I (P:=P) w dT sT o.type elem g off dLen dCap ad sLen sCap cur.toArray t cs sz m hu hsz hg hm hn hsrc (by simpa using hfit) h1;unfold Oper.wp;simp[execOp,ho,resolve,invoke,builtin,hd,hs,hrun,Result.andThen];exact hK _ _ (h _ (show _=_ by simpa[splice]using setRow_heap w g _ _ t _ hg) (below_setRow hb hBg _))
def rp3 (x y z:Value)(k:Nat):List Value:=(List.replicate k [x,y,z]).flatten
theorem a0J (x y z:Value)(k:Nat):(rp3 x y z k).length=k*3:=by
 unfold rp3
 induction k with
 | zero=>rfl
 | succ k ih=>rw[List.replicate_succ,List.flatten_cons,List.length_append,ih];show 3+k*3=_;omega
theorem h0s (x y z:Value)(k m:Nat):rp3 x y z (k+m)=rp3 x y z k++rp3 x y z m:=by
 unfold rp3;rw[← List.flatten_append,List.replicate_append_replicate]
theorem h0r {x y z u:Value}{k:Nat}(h:u∈rp3 x y z k):u=x∨u=y∨u=z:=by
 unfold rp3 at h;rw[List.mem_flatten]at h;obtain⟨c,h1,h2⟩:=h;rw[List.eq_of_mem_replicate h1]at h2;simpa using h2
def zz:Value:=.slice none 0 0
def rpS (x y z:Value)(n k:Nat):List Value:=rp3 x y z k++rp3 (.bool false) zz zz (n-k)
theorem l0b {W:World}{g:Nat}{x y z:Value}{t:TypeId}(h:Blk W g #[x,y,z] t):∀ j v,(rp3 x y z 1)[j]?=some v→W.cell? ((⟨g,0,none⟩:Addr).add j)=some v:=fun j v hj=>by
 rw[Addr.add_lit,Nat.zero_add,h.cell];simpa[rp3]using hj
theorem k0D {x y z:Value}{n k:Nat}(h:k≤n):(rpS x y z n k).length=n*3:=by
 unfold rpS;rw[List.length_append,a0J,a0J,← Nat.add_mul]
 congr 1;omega
theorem f0h {x y z:Value}{n k m:Nat}(h:k+m≤n):splice (rpS x y z n k) (k*3) (rp3 x y z m)=rpS x y z n (k+m):=by
 unfold splice rpS
 rw[h0s x y z k m,a0J,List.take_append,a0J,Nat.sub_self,List.take_zero,List.append_nil,List.take_of_length_le (by rw[a0J];exact Nat.le_refl _),List.drop_append,a0J,List.drop_of_length_le (by rw[a0J];omega),List.nil_append,
  show k*3+m*3-k*3=m*3 by omega,show n-k=m+(n-(k+m)) by omega,h0s _ _ _ m,List.drop_append,a0J,List.drop_of_length_le (by rw[a0J];exact Nat.le_refl _),Nat.sub_self,List.drop_zero,List.nil_append,List.append_assoc]
theorem o0V {x y z:Value}{k j:Nat}{u:Value}(h:(rp3 x y z k)[j]?=some u):[x,y,z][j%3]?=some u:=by
 induction k generalizing j with
 | zero=>simp[rp3]at h
 | succ k ih=>
  unfold rp3 at h;rw[List.replicate_succ,List.flatten_cons]at h;by_cases hj:j<3
  ·rw[List.getElem?_append_left (by simpa using hj)]at h;rw[Nat.mod_eq_of_lt hj];exact h
  ·rw[List.getElem?_append_right (by simpa using hj)]at h;have:=ih (j:=j-3) h;rwa[show (j-3)%3=j%3 by omega]at this
theorem p0x (n:Nat):madeCells #[.bool false,.slice none 0 0,.slice none 0 0] (n*3)=(rp3 (.bool false) zz zz n).toArray:=by
 apply Array.ext_getElem?
 intro i;unfold madeCells;by_cases hi:i<n*3
 ·have h1:∃ u,(rp3 (.bool false) zz zz n)[i]?=some u:=⟨_,List.getElem?_eq_getElem (by rw[a0J];exact hi)⟩;obtain⟨u,hu⟩:=h1;have h2:=o0V hu;rw[List.getElem?_toArray (xs:=rp3 (.bool false) zz zz n),hu,← h2];have h4:i%3<3:=Nat.mod_lt _ (by omega);rw[Array.getElem?_map,Array.getElem?_range,if_pos hi];show some _=_
  rw[show (#[Value.bool false,.slice none 0 0,.slice none 0 0]:Array Value).size=3 from rfl];dsimp only;clear hu h2;generalize i%3=r at h4 ⊢
  match r,h4 with
  | 0,_=>rfl
  | 1,_=>rfl
  | 2,_=>rfl
 ·rw[List.getElem?_toArray (xs:=rp3 (.bool false) zz zz n),List.getElem?_eq_none (l:=rp3 (.bool false) zz zz n) (by rw[a0J];omega),Array.getElem?_map,Array.getElem?_range,if_neg hi]
  rfl
theorem l0i (n:Nat)(h:n≤1000000)(W:World):(Instr.makeSlice 53 (.int .i64 (n:Int)) (.int .i64 (n:Int))).run Tryz.prog W=.ok (.slice (some ⟨W.heap.size,0,none⟩) n n) (W.alloc (.cells (rp3 (.bool false) zz zz n).toArray 57)):=by
 obtain⟨i0,hi,hz0,hz1,hz2⟩:=info_parts e0F;have hr:=run_make (P:=Tryz.prog) W 53 57 i0 (.agg #[.bool false,.slice none 0 0,.slice none 0 0]) Tryz.underlying53 hi hz0 .i64 .i64 n n (by omega) (Int.le_refl _) (by rw[hz2];omega) (by omega);simp only[Int.toNat_natCast,hz1]at hr;rw[hr,show Value.cells (.agg #[.bool false,.slice none 0 0,.slice none 0 0]) = #[.bool false,.slice none 0 0,.slice none 0 0] from rfl,p0x]
theorem o0U {x y z:Value}{k:Nat}(hx:x.oneCell'=true)(hy:y.oneCell'=true)(hz:z.oneCell'=true):∀ v∈rp3 x y z k,v.oneCell'=true:=fun v hv=>by
 rcases h0r hv with rfl | rfl | rfl<;>assumption
theorem q0O (w:World)(g0 n:Nat)(x y z:Value)(h1:1≤n)(h2:n≤100000)(hB:Blk w g0 #[x,y,z] 57)(hx:x.oneCell'=true)(hy:y.oneCell'=true)(hz:z.oneCell'=true):
 Calls Tryz.prog 54 #[.slice (some ⟨g0,0,none⟩) 1 1,.int .i64 n] w fun e w'=>
  e=.returned (.slice (some ⟨w.heap.size,0,none⟩) n n)∧Blk w' w.heap.size (rp3 x y z n).toArray 57∧Below w.heap.size w w':=by
 have HM:=fun W=>hid (l0i n (by omega) W)
 have HB:=fun W=>hid (Tryz.bits_Mul 1 n (by omega) (by omega) W)
 have e1:(((1*n / 18446744073709551616:Nat)):Int)=0:=by
  rw[Nat.one_mul,Nat.div_eq_of_lt (by omega)];rfl
 have e2:(((1*n%18446744073709551616:Nat)):Int)=(n:Int):=by
  rw[Nat.one_mul,Nat.mod_eq_of_lt (by omega)]
 rw[e1,e2]at HB;have hn0:(0:Int)≤(n:Int):=by omega
 have hn1:(n:Int)≤100000:=by omega
 have q0:decide ((n:Int)<0)=false:=by simp
 have HSRC:=hid (show ∀ j v,(rp3 x y z 1)[j]?=some v→w.cell? ((⟨g0,0,none⟩:Addr).add j)=some v from l0b hB);have H1:=hid h1;have H2:=hid h2;have HONE:=fun k=>hid (o0U (k:=k) hx hy hz)
 clear e1 e2 hB h1 h2 hx hy hz;go_enter Tryz.func54,Tryz.ntmps54;go_wp2_with fail;refine (HB _).out.mono ?_;rintro e w1 ⟨rfl,rfl⟩;clear HB;have HM1:=(HM w1).out
 have C1:=hid (show (w1.alloc (.cells (rp3 (.bool false) zz zz n).toArray 57)).heap[w1.heap.size]?=some (.cells (rpS x y z n 0).toArray 57 (0,0)) by
  have:=Blk.new w1 (rp3 (.bool false) zz zz n).toArray 57;simpa[rpS,Blk,rp3]using this)
 have C3:=hid (show ∀ j v,(rp3 x y z 1)[j]?=some v→(w1.alloc (.cells (rp3 (.bool false) zz zz n).toArray 57)).cell? ((⟨g0,0,none⟩:Addr).add j)=some v from fun j v h=>
  have h2:=HSRC.out j v h
  (((Below.refl w1.heap.size w1).alloc (Nat.le_refl _) _).cell (a0z h2)).trans h2)
 have C5:=hid ((Below.refl w1.heap.size w1).alloc (Nat.le_refl _) (.cells (rp3 (.bool false) zz zz n).toArray 57))
 have HSP:=hid (show splice (rpS x y z n 0) 0 (rp3 x y z 1)=rpS x y z n 1 from by
  have:=f0h (x:=x) (y:=y) (z:=z) (n:=n) (k:=0) (m:=1) (by have:=H1.out;omega);simpa using this)
 clear HM;go_wp2_with (refine d0M rfl (.tmp 31) (.tmp 32) 53 53 rfl 57 3 1 Tryz.underlying53 (by kernel_rfl) ⟨g0,0,none⟩ n n 1 1 w1.heap.size 0 rfl rfl (rpS x y z n 0) 57 C1.out (rp3 x y z 1) (Nat.min_eq_left H1.out).symm (a0J _ _ _ _) C3.out (by rw[a0J,k0D (Nat.zero_le _)];have:=H1.out;omega) (HONE 1).out w1.heap.size w1 C5.out (Nat.le_refl _) ?_;intro w2 hg2 hb2)
 rw[HSP.out]at hg2;have G2:=hid (show Blk w2 w1.heap.size (rpS x y z n 1).toArray 57 from hg2.out);have B2:=hid hb2;obtain⟨H,hH⟩:∃ H,w1.heap.size=H:=⟨_,rfl⟩;rw[hH]at G2 B2 ⊢;clear hg2 hb2 HM1 C1 C3 C5 HSP HSRC;have HH:=hid hH;clear hH
 go_loopw [8] (fun i wr=>∃ k:Nat,i=.int .i64 (k:Nat)∧1≤k∧k≤n∧Hid (Blk wr H (rpS x y z n k).toArray 57)∧Hid (Below H w1 wr)) (fun i wr=>n-(intOf i).toNat)
 case atStart=>exact⟨1,rfl,Nat.le_refl _,H1.out,G2.out,B2.out⟩
 case round=>
  obtain⟨k,rfl,hk1,hk2,hG,hB⟩:=hrel;by_cases hlt:k<n
  ·have f0:(0:Int)≤(k:Int):=by omega
   have f1:(k:Int)<(n:Int):=by omega
   have f2:(k:Int)≤(n:Int):=by omega
   have K1:=hid hk1;have K2:=hid hlt;clear hk1 hk2;go_wp2_with fail;refine a0f [0,1,2,3,4,5,6] 3 (fun _=>True) (by kernel_rfl) (by kernel_rfl) (by kernel_rfl) (by kernel_rfl) trivial ?_
   iterate 7
    refine⟨_,rfl,?_⟩;apply Exists.intro
    refine⟨.inl ⟨by rfl,?_⟩,?_⟩
    ·(intro W' hW';clear hW';go_simp;try (with_reducible rfl))
    (dsimp only[Act.put];try simp only[List.setIfInBounds_toArray,List.set_cons_zero,List.set_cons_succ])
   refine a0b (i:=7) (by kernel_rfl) (by rfl) (by rfl) ?_;obtain⟨m,hm⟩:∃ m,Nat.min k (n-k)=m:=⟨_,rfl⟩;have hm1:m≤k:=hm ▸ Nat.min_le_left _ _;have hm2:m≤n-k:=hm ▸ Nat.min_le_right _ _;have hm3:1≤m:=by rw[← hm];exact Nat.le_min.2 ⟨K1.out,by omega⟩
   have hsrc:∀ j v,(rp3 x y z m)[j]?=some v→wr.drew.cell? ((⟨H,0,none⟩:Addr).add j)=some v:=fun j v hj=>by
    rw[Addr.add_lit,Nat.zero_add];have hjm:j<m*3:=by
     have:=(List.getElem?_eq_some_iff.1 hj).1;rwa[a0J]at this
    refine (Blk.cell (Blk.drew hG.out) j).trans ?_;rw[List.getElem?_toArray];unfold rpS;rw[List.getElem?_append_left (by rw[a0J];omega),show k=m+(k-m) by omega,h0s,List.getElem?_append_left (by rw[a0J];omega)];exact hj
   rw[if_neg (show ¬ n=k by have:=K2.out;omega)];refine d0M rfl (.tmp 41) (.tmp 44) 53 53 rfl 57 3 m Tryz.underlying53 (by kernel_rfl) ⟨H,0,none⟩ (n-k) (n-k) k n H (k*3) rfl rfl (rpS x y z n k) 57 hG.out (rp3 x y z m) hm.symm (a0J _ _ _ _) hsrc (by rw[a0J,k0D (Nat.le_of_lt K2.out)];have:=K2.out;omega) (HONE m).out H w1 (hB.out.drew) (Nat.le_refl _) ?_;intro w4 hg4 hb4;rw[f0h (by have:=K2.out;omega)]at hg4;have G4:=hid (show Blk w4 H (rpS x y z n (k+m)).toArray 57 from hg4.out);have B4:=hid hb4;have M2:=hid hm2;have M3:=hid hm3;have f5:(0:Int)≤(m:Int):=by omega
   have f6:(m:Int)≤100000:=by omega
   have ew:IntKind.i64.wrap ((k:Int)+(m:Int))=(k:Int)+(m:Int):=by rw[IntWalk.i64_in _ ⟨by omega,by omega⟩]
   clear hm hm1 hm2 hm3 hsrc hg4 hb4;go_wp2_with fail;refine⟨trivial,?_⟩;refine a0d (is:=[8,9]) (g:=0) (by kernel_rfl) rfl trivial (by kernel_rfl) ?_
   iterate 2
    refine⟨_,rfl,?_⟩;apply Exists.intro
    refine⟨.inl ⟨by rfl,?_⟩,?_⟩
    ·(intro W' hW';clear hW';go_simp;try (with_reducible rfl))
    (dsimp only[Act.put];try simp only[List.setIfInBounds_toArray,List.set_cons_zero,List.set_cons_succ])
   refine wpAnyH_done (by kernel_rfl) ?_ _;simp only[a0o];go_wp2_with fail;go_roundw
   case rel=>exact⟨k+m,by rw[Int.natCast_add],by have:=M3.out;omega,by have:=M2.out;have:=K2.out;omega,G4,B4⟩
   case measure=>simp[intOf]<;>(have:=M3.out;have:=K2.out;omega)
  ·have e1:k=n:=by omega
   subst e1;go_wp2_with fail;go_ret
   have hh:=HH.out;subst hh;refine⟨rfl,?_,hB.out⟩;have:=hG.out;simpa[rpS,rp3]using this
theorem q0P {w':World}{B g n:Nat}{m:Bool}{a1 a2:Option Addr}{n1 c1 n2 c2:Nat}{q:Rat}(hB:Blk w' g (rp3 (.bool m) (.slice a1 n1 c1) (.slice a2 n2 c2) n).toArray 57)(hg:B≤g)(hn:n≤100000)(hq:IsQ .u64 w' (.agg #[.bool m,.slice a1 n1 c1,.slice a2 n2 c2]) q):
 ∃ cs,cs=List.replicate n [.bool m,.slice a1 n1 c1,.slice a2 n2 c2]∧KRow .u64 57 3 B w' (.slice (some ⟨g,0,none⟩) n n) cs∧QL .u64 w' cs (List.replicate n q):=by
 refine⟨_,rfl,⟨⟨by rw[List.length_replicate];exact a0J _ _ _ _,.inr ⟨g,n,_,by rw[List.length_replicate],hg,hB,by rw[List.length_replicate];exact Nat.le_refl _,by unfold maxLen;omega,by rw[List.size_toArray,a0J],?_⟩⟩,fun c hc=>by rw[List.eq_of_mem_replicate hc];rfl,fun g' hg'=>?_⟩,by simp,fun i x hx=>?_⟩
 ·rw[List.length_replicate];show (rp3 _ _ _ n).take (n*3)=_
  rw[List.take_of_length_le (by rw[a0J];exact Nat.le_refl _)]
  rfl
 ·obtain rfl:g=g':=by simpa[Value.ownBlock]using hg'
  refine⟨_,hB,NoK.of fun v hv=>?_⟩;rcases h0r hv with e | e | e<;>cases e
 ·have hi:i<n:=by have:=(List.getElem?_eq_some_iff.1 hx).1;simpa using this
  rw[List.getElem?_replicate,if_pos hi]at hx ⊢;obtain rfl:=Option.some.inj hx;exact⟨_,rfl,QC.of hq⟩
theorem j0F (n:Nat)(hn:n≤3000000)(W:World):(Instr.makeSlice 41 (.int .i64 (n:Int)) (.int .i64 (n:Int))).run Tryz.prog W=.ok (.slice (some ⟨W.heap.size,0,none⟩) n n) (W.alloc (.cells (madeCells #[.int .i64 0] n) 3)):=
 run_make_row' (P:=Tryz.prog) 41 3 (.int .i64 0) 8 Tryz.underlying41 (by kernel_rfl) rfl .i64 .i64 n (by omega) (by omega) W
theorem o0A (l:List Int)(i:Nat)(x:Int):(zs l).set i (.int .i64 x)=zs (l.set i x):=by simp[zs,List.map_set]
theorem k0a (l:List Nat):zs (l.map fun (x:Nat)=>(x:Int))=ints .i64 l:=by simp[zs,ints]
def ZRow (B:Nat)(W:World)(g N:Nat)(zl:List Int):Prop:=W.ownsRow B 3 1 (.slice (some ⟨g,0,none⟩) N N) N (zs zl)
theorem ZRow.call {B:Nat}{W W':World}{g N:Nat}{zl:List Int}(h:ZRow B W g N zl)(hb:Below W.heap.size W W'):ZRow B W' g N zl:=b0q h hb
theorem ZRow.lt {B:Nat}{W:World}{g N:Nat}{zl:List Int}(h:ZRow B W g N zl):B≤g∧g<W.heap.size:=World.ownsRow.lt h g rfl
theorem ZRow.blk {B:Nat}{W:World}{g N:Nat}{zl:List Int}(h:ZRow B W g N zl):Blk W g (zs zl).toArray 3∧zl.length=N:=by
 have h1:=h.1;rcases h.2 with ⟨h0,-⟩ | ⟨g',cap,cur,e,hb,h2,h3,h4,h5,h6⟩
 ·cases h0
 ·injection e with e1 e2 e3
  have eg:g=g':=by simpa using e1
  subst eg e3;have hl:cur.toList=zs zl:=by rw[← h6,List.take_of_length_le (by rw[Array.length_toList,h5];omega)]
  refine⟨?_,by simpa using h1⟩;have:cur=(zs zl).toArray:=by rw[← hl]
  rw[← this];exact h2
theorem ZRow.new {B:Nat}{W:World}{g N:Nat}{zl:List Int}(h:Blk W g (zs zl).toArray 3)(hl:zl.length=N)(hB:B≤g)(hN:N≤1000000):ZRow B W g N zl:=
 ⟨by rw[zs_length,hl];omega,.inr ⟨g,N,_,rfl,hB,h,Nat.le_refl _,by unfold maxLen;omega,by simp[hl],by rw[List.take_of_length_le (by simp[hl])]⟩⟩
theorem r0e (zl:List Int):NoK .u64 (zs zl).toArray:=NoK.of fun x hx=>by
 simp only[zs]at hx;obtain⟨y,-,hy⟩:=List.mem_map.1 hx;cases hy
theorem ZRow.at_ {B:Nat}{W:World}{g N:Nat}{zl:List Int}(h:ZRow B W g N zl){i:Nat}{x:Int}(hx:zl[i]?=some x):W.cell? ⟨g,i,none⟩=some (.int .i64 x):=by
 rw[h.blk.1.cell,List.getElem?_toArray];exact k0b hx
theorem ZRow.free {B:Nat}{W:World}{g N:Nat}{zl:List Int}(h:ZRow B W g N zl)(j:Nat):W.frozen? ⟨g,j,none⟩=false:=Blk.free h.blk.1 j
theorem ZRow.put {B:Nat}{W:World}{g N:Nat}{zl:List Int}(h:ZRow B W g N zl)(i:Nat)(x:Int):ZRow B (W.setCell ⟨g,i,none⟩ (.int .i64 x)) g N (zl.set i x)∧KeepK .u64 W (W.setCell ⟨g,i,none⟩ (.int .i64 x)):=by
 refine⟨?_,KeepK.set h.blk.1 (r0e zl) i _⟩;have:=h0B h i (.int .i64 x);rw[o0A]at this;exact this
theorem ZRow.keep {B:Nat}{W W':World}{g N:Nat}{zl:List Int}(h:ZRow B W g N zl)(hg:W'.heap[g]?=W.heap[g]?):ZRow B W' g N zl:=b0I h fun g' hg'=>by
 obtain rfl:g=g':=by simpa[Value.ownBlock]using hg'
 exact hg
theorem ZRow.ints {B:Nat}{W:World}{g N:Nat}{ns:List Nat}(h:ZRow B W g N (ns.map fun (x:Nat)=>(x:Int))):IRow B W g N N ns:=by
 unfold ZRow at h;rw[k0a]at h;exact h
theorem IRow.zs_ {B:Nat}{W:World}{g N:Nat}{ns:List Nat}(h:IRow B W g N N ns):ZRow B W g N (ns.map fun (x:Nat)=>(x:Int)):=by
 unfold ZRow;rw[k0a];exact h
structure PRow (B:Nat)(W:World)(g N:Nat)(ps:List Rat):Prop where
 ex:∃ cs,KRow .u64 57 3 B W (.slice (some ⟨g,0,none⟩) N N) cs∧cs.length=N∧ps.length≤N∧QL .u64 W (cs.take ps.length) ps
theorem m0T (x y z:Value)(N:Nat):rp3 x y z N=(List.replicate N [x,y,z]).flatten:=rfl
theorem PRow.new {B:Nat}{W:World}{g N:Nat}(h:Blk W g (rp3 (.bool false) zz zz N).toArray 57)(hB:B≤g)(hN:N≤1000000):PRow B W g N []:=by
 refine⟨List.replicate N [.bool false,zz,zz],⟨?_,?_,?_⟩,by simp,by simp,?_⟩
 ·rw[← m0T,List.length_replicate];exact⟨by rw[a0J],.inr ⟨g,N,_,rfl,hB,h,Nat.le_refl _,by unfold maxLen;omega,by simp[a0J],by rw[List.take_of_length_le (by simp[a0J])]⟩⟩
 ·intro c hc;rw[List.eq_of_mem_replicate hc];rfl
 ·intro g' hg';obtain rfl:g=g':=by simpa[Value.ownBlock]using hg'
  refine⟨_,h,NoK.of fun x hx=>?_⟩;rcases h0r (List.mem_toArray.1 (Array.mem_toList_iff.1 hx)) with e | e | e<;>cases e
 ·rw[List.length_nil,List.take_zero];exact QL.nil _ _
theorem PRow.call {B:Nat}{W W':World}{g N:Nat}{ps:List Rat}(h:PRow B W g N ps)(hb:Below W.heap.size W W'):PRow B W' g N ps:=by
 obtain⟨cs,h1,h2,h3,h4⟩:=h.ex;exact⟨cs,h1.call hb,h2,h3,h4.call hb⟩
theorem PRow.keep {B:Nat}{W W':World}{g N:Nat}{ps:List Rat}(h:PRow B W g N ps)(hk:KeepK .u64 W W')(hg:W'.heap[g]?=W.heap[g]?):PRow B W' g N ps:=by
 obtain⟨cs,h1,h2,h3,h4⟩:=h.ex
 exact⟨cs,h1.keep fun g' hg'=>by
  obtain rfl:g=g':=by simpa[Value.ownBlock]using hg'
  exact hg,h2,h3,h4.keep hk⟩
theorem PRow.lt {B:Nat}{W:World}{g N:Nat}{ps:List Rat}(h:PRow B W g N ps):B≤g∧g<W.heap.size:=by
 obtain⟨cs,h1,-⟩:=h.ex;exact World.ownsRow.lt h1.own g rfl
theorem PRow.free {B:Nat}{W:World}{g N:Nat}{ps:List Rat}(h:PRow B W g N ps)(j:Nat):W.frozen? ⟨g,j,none⟩=false:=by
 obtain⟨cs,h1,-⟩:=h.ex;exact h1.free j
theorem PRow.full {B:Nat}{W:World}{g N:Nat}{ps:List Rat}(h:PRow B W g N ps)(hl:ps.length=N):VRow B W (.slice (some ⟨g,0,none⟩) N N) ps:=by
 obtain⟨cs,h1,h2,h3,h4⟩:=h.ex;rw[List.take_of_length_le (by omega)]at h4;exact⟨cs,h1,h4⟩
theorem PRow.put {B:Nat}{W:World}{g N:Nat}{ps:List Rat}(h:PRow B W g N ps){i:Nat}(hi:ps.length=i)(hN:i<N){m:Bool}{a1 a2:Option Addr}{n1 c1 n2 c2:Nat}{q:Rat}(hq:IsQ .u64 W (.agg #[.bool m,.slice a1 n1 c1,.slice a2 n2 c2]) q):
 PRow B (((W.setCell ⟨g,i*3,none⟩ (.bool m)).setCell ⟨g,i*3+1,none⟩ (.slice a1 n1 c1)).setCell ⟨g,i*3+2,none⟩ (.slice a2 n2 c2)) g N (ps ++ [q]) ∧
 KeepK .u64 W (((W.setCell ⟨g,i*3,none⟩ (.bool m)).setCell ⟨g,i*3+1,none⟩ (.slice a1 n1 c1)).setCell ⟨g,i*3+2,none⟩ (.slice a2 n2 c2)):=by
 subst hi;obtain⟨cs,h1,h2,h3,h4⟩:=h.ex;obtain⟨i,hi⟩:∃ i,ps.length=i:=⟨_,rfl⟩;rw[hi]at hN h3 h4 ⊢;have hl:i<cs.length:=by omega
 obtain⟨d,hd⟩:∃ d,cs[i]?=some d:=⟨_,List.getElem?_eq_getElem hl⟩;have hd3:=h1.all d (List.mem_of_getElem? hd);obtain⟨x,y,z,rfl⟩:∃ x y z,d = [x,y,z]:=by
  match d,hd3 with
  | [x,y,z],_=>exact⟨x,y,z,rfl⟩
 have s1:=h1.set hd (j:=0) (by omega) (u:=.bool m) (fun x e=>by cases e);have e1:(cs.set i ([x,y,z].set 0 (.bool m)))[i]?=some [.bool m,y,z]:=by rw[List.getElem?_set_self hl];rfl
 have s2:=s1.set e1 (j:=1) (by omega) (u:=.slice a1 n1 c1) (fun x e=>by cases e);rw[List.set_set]at s2;have e2:(cs.set i ([.bool m,y,z].set 1 (.slice a1 n1 c1)))[i]?=some [.bool m,.slice a1 n1 c1,z]:=by rw[List.getElem?_set_self hl];rfl
 have s3:=s2.set e2 (j:=2) (by omega) (u:=.slice a2 n2 c2) (fun x e=>by cases e);rw[List.set_set]at s3;have k:=((h1.keepSet (i*3) (.bool m)).trans (s1.keepSet (i*3+1) (.slice a1 n1 c1))).trans (s2.keepSet (i*3+2) (.slice a2 n2 c2));refine⟨⟨_,s3,by rw[List.length_set];exact h2,by rw[List.length_append,List.length_singleton];omega,?_⟩,k⟩;rw[List.length_append,List.length_singleton,hi,List.take_add_one,List.getElem?_set_self hl,Option.toList_some,List.take_set_of_le (Nat.le_refl _)];exact (h4.keep k).snoc ((QC.of hq).keep k)
structure RdS (B:Nat)(W:World)(N g8 gp g9 g10:Nat)(zl:List Int)(ps:List Rat)(ns:List Nat):Prop where
 z:ZRow B W g8 N zl
 p:Blk W gp #[.slice (some ⟨g9,0,none⟩) N N] 53
 r:PRow B W g9 N ps
 o:ZRow B W g10 N (ns.map fun (x:Nat)=>(x:Int))
 bp:B≤gp
 n1:g8≠gp
 n2:g8≠g9
 n3:g8≠g10
 n4:gp≠g9
 n5:gp≠g10
 n6:g9≠g10
theorem RdS.call {B:Nat}{W W':World}{N g8 gp g9 g10:Nat}{zl:List Int}{ps:List Rat}{ns:List Nat}(h:RdS B W N g8 gp g9 g10 zl ps ns)(hb:Below W.heap.size W W'):RdS B W' N g8 gp g9 g10 zl ps ns:=
 ⟨h.z.call hb,h.p.call hb,h.r.call hb,h.o.call hb,h.bp,h.n1,h.n2,h.n3,h.n4,h.n5,h.n6⟩
theorem RdS.keep {B:Nat}{W W':World}{N g8 gp g9 g10:Nat}{zl:List Int}{ps:List Rat}{ns:List Nat}(h:RdS B W N g8 gp g9 g10 zl ps ns)(hk:KeepK .u64 W W'){b:Nat}(hb:∀ g,g≠b→W'.heap[g]?=W.heap[g]?)(h1:g8≠b)(h2:gp≠b)(h3:g9≠b)(h4:g10≠b):RdS B W' N g8 gp g9 g10 zl ps ns:=
 ⟨h.z.keep (hb _ h1),(hb _ h2).trans h.p,h.r.keep hk (hb _ h3),h.o.keep (hb _ h4),h.bp,h.n1,h.n2,h.n3,h.n4,h.n5,h.n6⟩
theorem a0c (W:World)(b j:Nat)(x:Value){g:Nat}(hg:g≠b):(W.setCell ⟨b,j,none⟩ x).heap[g]?=W.heap[g]? := Below.heap_setCell _ _ _ _ hg
theorem c0z (W:World)(b j k m:Nat)(x y z:Value){g:Nat}(hg:g≠b):(((W.setCell ⟨b,j,none⟩ x).setCell ⟨b,k,none⟩ y).setCell ⟨b,m,none⟩ z).heap[g]?=W.heap[g]? := by
 rw[Below.heap_setCell _ _ _ _ hg,Below.heap_setCell _ _ _ _ hg,Below.heap_setCell _ _ _ _ hg]
theorem RdS.putZ {B:Nat}{W:World}{N g8 gp g9 g10:Nat}{zl:List Int}{ps:List Rat}{ns:List Nat}(h:RdS B W N g8 gp g9 g10 zl ps ns)(i:Nat)(x:Int):RdS B (W.setCell ⟨g8,i,none⟩ (.int .i64 x)) N g8 gp g9 g10 (zl.set i x) ps ns∧KeepK .u64 W (W.setCell ⟨g8,i,none⟩ (.int .i64 x)):=by
 obtain⟨h1,h2⟩:=h.z.put i x;exact⟨⟨h1,(a0c W _ _ _ h.n1.symm).trans h.p,h.r.keep h2 (a0c W _ _ _ h.n2.symm),h.o.keep (a0c W _ _ _ h.n3.symm),h.bp,h.n1,h.n2,h.n3,h.n4,h.n5,h.n6⟩,h2⟩
theorem RdS.putO {B:Nat}{W:World}{N g8 gp g9 g10:Nat}{zl:List Int}{ps:List Rat}{ns:List Nat}(h:RdS B W N g8 gp g9 g10 zl ps ns)(i x:Nat):RdS B (W.setCell ⟨g10,i,none⟩ (.int .i64 (x:Nat))) N g8 gp g9 g10 zl ps (ns.set i x)∧KeepK .u64 W (W.setCell ⟨g10,i,none⟩ (.int .i64 (x:Nat))):=by
 obtain⟨h1,h2⟩:=h.o.put i (x:Int);exact⟨⟨h.z.keep (a0c W _ _ _ h.n3),(a0c W _ _ _ h.n5).trans h.p,h.r.keep h2 (a0c W _ _ _ h.n6),by rw[List.map_set];exact h1,h.bp,h.n1,h.n2,h.n3,h.n4,h.n5,h.n6⟩,h2⟩
theorem RdS.putP {B:Nat}{W:World}{N g8 gp g9 g10:Nat}{zl:List Int}{ps:List Rat}{ns:List Nat}(h:RdS B W N g8 gp g9 g10 zl ps ns){i:Nat}(hi:ps.length=i)(hN:i<N){m:Bool}{a1 a2:Option Addr}{n1 c1 n2 c2:Nat}{q:Rat}(hq:IsQ .u64 W (.agg #[.bool m,.slice a1 n1 c1,.slice a2 n2 c2]) q):
 RdS B (((W.setCell ⟨g9,i*3,none⟩ (.bool m)).setCell ⟨g9,i*3+1,none⟩ (.slice a1 n1 c1)).setCell ⟨g9,i*3+2,none⟩ (.slice a2 n2 c2)) N g8 gp g9 g10 zl (ps ++ [q]) ns ∧
 KeepK .u64 W (((W.setCell ⟨g9,i*3,none⟩ (.bool m)).setCell ⟨g9,i*3+1,none⟩ (.slice a1 n1 c1)).setCell ⟨g9,i*3+2,none⟩ (.slice a2 n2 c2)):=by
 obtain⟨h1,h2⟩:=h.r.put hi hN hq;exact⟨⟨h.z.keep (c0z W _ _ _ _ _ _ _ h.n2),(c0z W _ _ _ _ _ _ _ h.n4).trans h.p,h1,h.o.keep (c0z W _ _ _ _ _ _ _ h.n6.symm),h.bp,h.n1,h.n2,h.n3,h.n4,h.n5,h.n6⟩,h2⟩
end Go.Proofs.YtlimaehdmcnjaaaGreatDoor
