/- Texts that the proof rests on, merged: E3, E4, E5, Sh3, Rep, Sd, Tt, NpG, Gt0, Cf, Fw, Sq2, Sw0, Ol, Fr1b, LtP, RtW, Rt2, Rt3, Fr2, Fr4, Rt4. -/
import Derived.Test.YtlmnpocifldpmaaGreatDoorKc7
import Derived.RangeFuncBox
import Derived.Scope
import Derived.Shelf.Bits.Mul64
import Derived.Ground.NamesProg
import Derived.Test.YtlmnpocifldpmaaGreatDoorProg
import Derived.Laws.CopyOwn
import Derived.Deep.DeepCutAuto
import Derived.RegionTactic
import Derived.Deep.LoopGhost
import Derived.WalkLawsBesides
set_option linter.unusedVariables false
set_option linter.unusedSimpArgs false
set_option linter.unusedSectionVars false
set_option maxRecDepth 100000
set_option maxHeartbeats 8000000
namespace Go.Proofs.YtlmnpocifldpmaaGreatDoor
open Go.RowKit
open Go.Shelf
open Go.Lib (decDigits nDigits)
attribute [local go_sem] Oper.semAt_some
structure KpS (n0 b1 b2:Nat)(W W':World):Prop where
 size:W.heap.size≤W'.heap.size
 rest:n0≤W.heap.size→b1<W.heap.size→b2<W.heap.size→Below n0 W W'∧W'.heap[b1]?=W.heap[b1]? ∧ W'.heap[b2]?=W.heap[b2]?
theorem KpS.refl (n0 b1 b2:Nat)(W:World):KpS n0 b1 b2 W W:=⟨Nat.le_refl _,fun _ _ _=>⟨Below.refl _ _,rfl,rfl⟩⟩
theorem KpS.trans {n0 b1 b2:Nat}{A B C:World}(h:KpS n0 b1 b2 A B)(k:KpS n0 b1 b2 B C):KpS n0 b1 b2 A C:=
 ⟨Nat.le_trans h.size k.size,fun h1 h2 h3=>by
  obtain⟨x,y,z⟩:=h.rest h1 h2 h3;obtain⟨x',y',z'⟩:=k.rest (Nat.le_trans h1 h.size) (Nat.lt_of_lt_of_le h2 h.size) (Nat.lt_of_lt_of_le h3 h.size);exact⟨x.trans x',y'.trans y,z'.trans z⟩⟩
theorem KpS.of_below {n0 b1 b2:Nat}{W W':World}(h:Below W.heap.size W W'):KpS n0 b1 b2 W W':=⟨h.size,fun h1 h2 h3=>⟨h.mono h1,h.block _ h2,h.block _ h3⟩⟩
theorem KpS.put {n0 b1 b2:Nat}{w:World}(h1:n0≤w.heap.size)(h2:b1<w.heap.size)(h3:b2<w.heap.size)(W:World)(l:Nat)(o o':Obj)(hl:w.heap.size≤l)(h:W.heap[l]?=some o)(hc:o.isCells=false)(hw:o.isWalk=false):KpS n0 b1 b2 W (W.putObj l o'):=by
 have hs:W.heap.size≤(W.putObj l o').heap.size:=by simp[World.putObj]
 refine⟨hs,fun _ _ _=>⟨?_,?_,?_⟩⟩
 ·exact⟨rfl,rfl,rfl,hs,fun k hk=>World.putObj_heap_other (by omega)⟩
 ·exact World.putObj_heap_other (by omega)
 ·exact World.putObj_heap_other (by omega)
def SerI (B many N D:Nat)(l:List UInt8)(pre:List (Nat×Nat))(W:World):Prop:=∃ m vs n v,1≤m∧vs.length+m=many∧sr N D l many 0 [] 0=sr N D l m (d0U pre) vs n∧d0U pre≤l.length ∧
 pre.length+(l.length-d0U pre+m)≤l.length+many∧n≤pre.length∧Boxed W (B+1) 24 v∧W.ownsRow B 3 1 v (vs.length+1) (b0c .i64 (vs ++ [n]))
theorem SerI.own {B C many N D:Nat}{l:List UInt8}:OwnFrom C (SerI B many N D l):=by
 rintro s X Y row ⟨m,vs,n,v,h1,h2,h3,h4,h5,h6,hv,hr⟩ hg hrow;refine⟨m,vs,n,v,h1,h2,h3,h4,h5,h6,hv.kept hg (fun e'=>?_),hr.kept hg ?_⟩
 ·obtain⟨-,o,ho,hc⟩:=hrow _ e'.symm;rw[show X.heap[B+1]? = _ from hv]at ho;cases ho;cases hc
 ·rcases hr.2 with ⟨rfl,_⟩ | ⟨g,cap,cur,rfl,_,hgb,_⟩
  ·exact .inl rfl
  ·refine .inr fun e'=>?_
   obtain⟨-,o,ho,hc⟩:=hrow g (by simpa[Value.ownBlock]using e'.symm);rw[hgb]at ho;cases ho;cases hc
def SerX (A B many N D:Nat)(l:List UInt8)(W:World):Prop:=∃ vs x v,sr N D l many 0 [] 0=some (vs,x)∧vs.length=many∧Blk W (A+1) #[v] 24∧Blk W (A+1+1) #[.int .i64 (x:Nat)] 3∧Blk W (A+1+1+1) #[.bool true] 4∧W.ownsRow B 3 1 v vs.length (b0c .i64 vs)
theorem SerX.keptX {A B many N D:Nat}{l:List UInt8}{X Y:World}{row:Option Nat}(h:SerX A B many N D l X)(hg:X.grownBy Y row)(hrow:∀ r,row=some r→∃ o:Obj,X.heap[r]?=some o∧o.isCells=false):SerX A B many N D l Y:=by
 obtain⟨vs,x,v,h1,h2,h3,h4,h5,hr⟩:=h;refine⟨vs,x,v,h1,h2,h3.kept hg hrow,h4.kept hg hrow,h5.kept hg hrow,hr.kept hg ?_⟩;rcases hr.2 with ⟨rfl,_⟩ | ⟨g,cap,cur,rfl,_,hgb,_⟩
 ·exact .inl rfl
 ·refine .inr fun e'=>?_
  obtain⟨o,ho,hc⟩:=hrow g (by simpa[Value.ownBlock]using e'.symm);rw[hgb]at ho;cases ho;cases hc
def m0k (r:Option (List Nat×Nat))(e:Ending)(w':World):Prop:=match r with
 | none=>e=.returned (.tuple #[.slice none 0 0,.int .i64 0,.bool false])
 | some (vs,x)=>∃ v,e=.returned (.tuple #[v,.int .i64 (x:Nat),.bool true])∧Row w' v (b0c .i64 vs)
theorem i0b (w:World)(a b:ByteArray)(many:Nat)(h1:1≤many)(h2:many≤1000)(ha:a.size≤100000)(hc:d0l b=0)(he:cPE a=0)(hND:bN (cW a)<bN (qD a))(hL:Lay w):
 Calls Tryz.prog 175 #[.string a,.string b,.int .i64 (many:Nat)] w fun e w'=>m0k (sr (bN (cW a)) (bN (qD a)) b.data.toList many 0 [] 0) e w'∧Below w.heap.size w w':=by
 have HL:=hid hL;have HC:=hid hc;have HE:=hid he;have HND:=hid hND;have H1:=hid h1;have H2:=hid h2;have HA:=hid ha;have hbs:b.size≤256:=by
  have h5:=(b0Y hc 0).2.1;have h6:=a0r (b.extract 0 b.size);have h7:=(b0Y hc 0).2.2;rw[h5,List.drop_zero,a0r]at h6;omega
 have HBS:=hid hbs;clear hL hc he hND ha hbs;obtain⟨N,hN⟩:∃ N,bN (cW a)=N:=⟨_,rfl⟩;obtain⟨D,hD⟩:∃ N,bN (qD a)=N:=⟨_,rfl⟩;have HN:=hid hN;have HD:=hid hD;rw[hN,hD]at HND ⊢;clear hN hD;obtain⟨L,hL⟩:∃ L,b.data.toList=L:=⟨_,rfl⟩;have HLL:=hid (show L.length=b.size from by rw[← hL];exact a0r b);have HLQ:=hid hL;rw[hL];clear hL;refine (callsIn_wide (n:=9)).1 ?_;refine callsIn_of_wp_marks Tryz.func175 rfl trivial ?_ rfl;simp only[Tryz.ntmps175,List.size_toArray,List.length_cons,List.length_nil,Nat.reduceAdd,Nat.reduceSub,Array.replicate_succ,Array.replicate_zero,List.push_toArray,List.append_toArray,List.nil_append,List.cons_append]
 gi_wp2_with fail
 refine m0l ?_
 gi_wp2_with fail
 refine wpIn_label ?_
 gi_wp2_with (refine⟨trivial,?_⟩;gi_at_call 242;refine (callsIn_wide.2 (u0A _ _ _)).mono ?_;rintro e w' ⟨rfl,rfl⟩)
 obtain⟨i0,hi,hz0,hz1,hz2⟩:=info_parts r0M;obtain⟨W0,hW0⟩:∃ W0,(((((((w.alloc (.cells #[.int .i64 (many:Nat)] 3)).alloc (.cells #[.slice none 0 0] 24)).alloc (.cells #[.int .i64 0] 3)).alloc (.cells #[.bool false] 4)).alloc (.cells #[.int .i64 0] 3)).alloc
  (.cells #[.slice (some ⟨w.heap.size+1+1+1+1,0,none⟩) 1 1] 24)).alloc (.cells #[.string a] 22)).alloc (.cells #[.string b] 33)=W0:=⟨_,rfl⟩
 have y0:Blk W0 w.heap.size #[.int .i64 (many:Nat)] 3:=by rw[← hW0];exact (((((((Blk.new w _ _).alloc _).alloc _).alloc _).alloc _).alloc _).alloc _).alloc _
 have y1:Blk W0 (w.heap.size+1) #[.slice none 0 0] 24:=by rw[← hW0];exact ((((((Blk.made _ _ _ (by simp)).alloc _).alloc _).alloc _).alloc _).alloc _).alloc _
 have y2:Blk W0 (w.heap.size+1+1) #[.int .i64 0] 3:=by rw[← hW0];exact (((((Blk.made _ _ _ (by simp)).alloc _).alloc _).alloc _).alloc _).alloc _
 have y3:Blk W0 (w.heap.size+1+1+1) #[.bool false] 4:=by rw[← hW0];exact ((((Blk.made _ _ _ (by simp)).alloc _).alloc _).alloc _).alloc _
 have y4:Blk W0 (w.heap.size+1+1+1+1) #[.int .i64 0] 3:=by rw[← hW0];exact (((Blk.made _ _ _ (by simp)).alloc _).alloc _).alloc _
 have y5:Blk W0 (w.heap.size+1+1+1+1+1) #[.slice (some ⟨w.heap.size+1+1+1+1,0,none⟩) 1 1] 24:=by rw[← hW0];exact ((Blk.made _ _ _ (by simp)).alloc _).alloc _
 have y6:Blk W0 (w.heap.size+1+1+1+1+1+1) #[.string a] 22:=by rw[← hW0];exact (Blk.made _ _ _ (by simp)).alloc _
 have y7:Blk W0 (w.heap.size+1+1+1+1+1+1+1) #[.string b] 33:=by rw[← hW0];exact Blk.made _ _ _ (by simp)
 have b0:Below w.heap.size w W0:=by
  rw[← hW0];exact ((((((((Below.refl _ _).alloc (Nat.le_refl _) _).alloc (by simp) _).alloc (by simp<;>omega) _).alloc (by simp<;>omega) _).alloc (by simp<;>omega) _).alloc (by simp<;>omega) _).alloc (by simp<;>omega) _).alloc (by simp<;>omega) _
 have z0:W0.heap.size=w.heap.size+1+1+1+1+1+1+1+1:=by rw[← hW0];simp
 rw[hW0];have Y0:=hid y0;have Y1:=hid y1;have Y2:=hid y2;have Y3:=hid y3;have Y4:=hid y4;have Y5:=hid y5;have Y6:=hid y6;have Y7:=hid y7;have HB0:=hid b0;have Z0:=hid z0;clear y0 y1 y2 y3 y4 y5 y6 y7 b0 z0 hW0;obtain⟨B,hB⟩:∃ B,w.heap.size+1+1+1+1=B:=⟨_,rfl⟩;rw[hB]at Y4 Y5 Y6 Y7 Z0 ⊢;have HBB:=hid hB;clear hB;have hread:∀ W1 W2,Below W0.heap.size W0 W1→KpS B (B+1+1) (B+1+1+1) W1 W2→W2.cell? ⟨B+1+1,0,none⟩=some (.string a)∧W2.cell? ⟨B+1+1+1,0,none⟩=some (.string b)∧Lay W2:=fun W1 W2 b1 b2=>by
  have hs:=b1.size;have hz:=Z0.out;obtain⟨r1,r2,r3⟩:=b2.rest (by omega) (by omega) (by omega);have g1:Blk W2 (B+1+1) #[.string a] 22:=r2.trans (Y6.out.call b1);have g2:Blk W2 (B+1+1+1) #[.string b] 33:=r3.trans (Y7.out.call b1);refine⟨g1.cell 0,g2.cell 0,HL.out.call ?_⟩;have hb:=HBB.out;exact (HB0.out.trans (b1.mono (by omega))).trans (r1.mono (by omega))
 refine o0m (by omega) (gf:=284) (lb:=#[.pointer (some ⟨B+1+1,0,none⟩),.pointer (some ⟨B+1+1+1,0,none⟩)]) rfl (enters_of Tryz.func284 (by kernel_rfl) rfl)
  (k0L (Kp:=KpS B (B+1+1) (B+1+1+1)) (L.length+many) 8 (by omega) W0 _ _ a b (KpS.refl _ _ _) KpS.trans HA.out HC.out HE.out hread (fun _ _=>KpS.of_below)) KpS.trans (KpS.put (by have:=Z0.out;omega) (by have:=Z0.out;omega) (by have:=Z0.out;omega)) (Below.refl _ _) (fun _=>rfl)
  (fun pre W=>(SerI B many N D L pre W∧Blk W (B+1+1) #[.string a] 22∧Blk W (B+1+1+1) #[.string b] 33)∧Below B W0 W)
  (fun c pre W=>(c=.ret∧SerX w.heap.size B many N D L W)∧Below w.heap.size w W)
  (OwnFrom.and (fun s X Y row hs hg hr=>⟨SerI.own s X Y row hs.1 hg hr,hs.2.1.kept hg (fun r e=>(hr r e).2),hs.2.2.kept hg (fun r e=>(hr r e).2)⟩) (ownFrom_below (by have:=Z0.out;omega) (by have:=Z0.out;omega)))
  (fun c=>OwnFrom.and (fun s X Y row hs hg hr=>⟨hs.1,hs.2.keptX hg (fun r e=>(hr r e).2)⟩) (ownFrom_below (Nat.le_refl _) (by have:=Z0.out;have:=HBB.out;omega)))
  ⟨⟨⟨many,[],0,_,H1.out,by simp,rfl,Nat.zero_le _,by simp[o0w],Nat.zero_le _,Y5.out,r0n Y4.out⟩,Y6.out,Y7.out⟩,Below.refl _ _⟩
  (fun pre W h=>by obtain⟨m,vs,n,v,_,_,_,_,h5,_⟩:=h.1.1;omega) ?act ?assign ?body ?done ?stop
 case assign=>
  intro l x W K hK
  gi_wp2
  exact hK
 case body=>
  rintro l pre ⟨q,val⟩ W ⟨hd,hx⟩ ⟨⟨⟨m,vs,n,v,i1,i2,i3,i4,i5,i6,hv,hr⟩,ha6,hb7⟩,hB⟩;rw[HN.out,HD.out,HLQ.out]at hd hx;obtain⟨p,hp⟩:∃ p,d0U pre=p:=⟨_,rfl⟩;rw[hp]at hd hx i3 i4 i5;have hle:=a0R (N:=N) (D:=D) i4;have hval:(a0y N D L p).2.1≤1:=by rw[f0u];exact l0d _ _ _ _ _
  simp only[Prod.mk.injEq]at hx;obtain⟨hq,hvv⟩:=hx;obtain⟨g,cap,rfl⟩:=ownsRow_succ hr;obtain⟨k,hk⟩:∃ k,vs.length=k:=⟨_,rfl⟩;rw[hk]at hr i2 hv;obtain⟨o1,o2,o3,o4,o5,o6,o7⟩:=h0J hr;have c0:W.cell? ⟨g,k,none⟩=some (.int .i64 (n:Nat)):=o4 k _ (by rw[d0Z,List.getElem?_append_right (by rw[ints_length];omega),ints_length,hk,Nat.sub_self];rfl);have c1:W.cell? ⟨B+1,0,none⟩=some (.slice (some ⟨g,0,none⟩) (k+1) cap):=Blk.cell hv 0;have c2:W.frozen? ⟨B+1,0,none⟩=false:=Blk.free hv 0;have c3:W.cell? ⟨w.heap.size,0,none⟩=some (.int .i64 (many:Nat)):=(Y0.out.below hB (by have:=HBB.out;omega)).cell 0;have r1:=Y1.out.below hB (by have:=HBB.out;omega);have r2:=Y2.out.below hB (by have:=HBB.out;omega);have r3:=Y3.out.below hB (by have:=HBB.out;omega);have c4:=r1.cell 0;have c5:=r2.cell 0;have c6:=r3.cell 0;have c7:=r1.free 0;have c8:=r2.free 0;have c9:=r3.free 0;have d0:=o3 k;simp at c4 c5 c6;have hkm:k<1000:=by have:=H2.out;omega
  have hn:n<3000:=by have h2:=H2.out;have h3:=HBS.out;have h4:=HLL.out;omega
  have w1:IntKind.i64.wrap (((k+1:Nat):Int)-1)=(k:Int):=by rw[IntWalk.i64_in _ ⟨by omega,by omega⟩];omega
  have w2:IntKind.i64.wrap ((n:Int)+1)=(n:Int)+1:=by rw[IntWalk.i64_in _ ⟨by omega,by omega⟩]
  have I1:=hid i1;have I2:=hid i2;have I3:=hid i3;have I4:=hid i4;have I5:=hid i5;have I6:=hid i6;have HV:=hid hv;have HR:=hid hr;have HBW:=hid hB;have HP:=hid hp;have HD1:=hid hd;have HLE:=hid hle;have HVAL:=hid hval;have HQ:=hid hq;have HVV:=hid hvv;have HKK:=hid hk;have A6:=hid ha6;have A7:=hid hb7;have N6:=hid (o7 _ _ _ (by decide) ha6);have N7:=hid (o7 _ _ _ (by decide) hb7);have N5:=hid (o7 _ _ _ (by decide) hv);clear ha6 hb7;have R1:=hid r1;have R2:=hid r2;have R3:=hid r3;have HC0:=hid o1;have HC1:=hid o2;have HO7:=hid o7;clear i1 i2 i3 i4 i5 i6 hv hr hB hp hd hle hval hq hvv hk r1 r2 r3 o1 o2 o3 o4 o7;by_cases h1:val=1
  ·have q0:((val:Int)==1)=true:=by rw[h1];rfl
   have HV1:=hid h1;clear h1
   gi_wp2_with fail
   have e1:((n:Int)+1)=((n+1:Nat):Int):=rfl;have hu:=a0X HND.out HD1.out (HVV.out.symm.trans HV1.out);have hser:=e0r (vs:=vs) (n:=n) HND.out I1.out I4.out HD1.out (HVV.out.symm.trans HV1.out);have hq:=HQ.out;have h5:=I5.out;have h6:=I6.out;have hle:=HLE.out;refine⟨(KeepsOthers.setCell _ _ _).from _,⟨by simp[World.setCell],fun _ _ _=>⟨(Below.refl _ _).setCell HC0.out _,Below.heap_setCell _ _ _ _ (fun e=>N6.out e),Below.heap_setCell _ _ _ _ (fun e=>N7.out e)⟩⟩,⟨⟨m,vs,n+1,_,I1.out,by rw[HKK.out];exact I2.out,?_,?_,?_,?_,Blk.other HV.out (fun e=>N5.out e.symm) _,?_⟩,Blk.other A6.out (fun e=>N6.out e.symm) _,Blk.other A7.out (fun e=>N7.out e.symm) _⟩,HBW.out.setCell HC0.out _⟩
   ·rw[b0a,I3.out,hser,hq]
   ·rw[b0a];show q≤_;omega
   ·rw[b0a,List.length_append,List.length_singleton];show pre.length+1+(L.length-q+m)≤_;omega
   ·rw[List.length_append,List.length_singleton];omega
   ·rw[HKK.out];have h7:=o0z HR.out k (.int .i64 ((n+1:Nat):Int));rw[e0F,List.set_append_right _ _ (Nat.le_of_eq HKK.out),HKK.out,Nat.sub_self]at h7;exact h7
  ·have q0:((val:Int)==1)=false:=by rw[beq_eq_false_iff_ne];omega
   have HV0:=hid h1;have hnv:=hid (show ¬ (a0y N D L p).2.1=1 from by rw[← HVV.out];exact h1);clear h1;by_cases h2:k+1=many
   ·have q1:(((k:Int)+1)==(many:Int))=true:=by rw[beq_iff_eq];omega
    have HM:=hid h2;clear h2
    gi_wp2_with fail
    have hm1:m=1:=by have:=I2.out;have:=HM.out;omega
    have h8:=HBB.out;have h9:=HC0.out;have hstop:=b0w (vs:=vs) (n:=n) HD1.out hnv.out;refine⟨(((KeepsOthers.setCell _ _ _).trans (KeepsOthers.setCell _ _ _)).trans (KeepsOthers.setCell _ _ _)).from _,⟨rfl,vs ++ [n],q,.slice (some ⟨g,0,none⟩) (k+1) cap,?_,?_,?_,?_,?_,?_⟩,?_⟩
    ·rw[I3.out,hm1,hstop,HQ.out]
    ·rw[List.length_append,HKK.out];exact HM.out
    ·exact (((R1.out.set 0 _).other (by simp) _).other (by simp<;>omega) _)
    ·exact ((R2.out.other (by simp) _).set 0 _).other (by simp) _
    ·exact ((R3.out.other (by simp<;>omega) _).other (by simp) _).set 0 _
    ·rw[List.length_append,HKK.out];exact ((ownsRow_setCell_below (ownsRow_setCell_below (ownsRow_setCell_below HR.out (by simp<;>omega) _) (by simp<;>omega) _) (by simp<;>omega) _))
    ·exact (((HB0.out.trans (HBW.out.mono (by omega))).setCell (by simp<;>omega) _).setCell (by simp<;>omega) _).setCell (by simp<;>omega) _
   ·have q1:(((k:Int)+1)==(many:Int))=false:=by rw[beq_eq_false_iff_ne];omega
    have HM:=hid h2;clear h2
    gi_wp2_with (gi_at_builtin;refine wpListIn_append_own _ rfl _ _ 24 rfl B 3 i0 (.int .i64 0) 1 8 Tryz.underlying24 hi hz0 hz1 hz2 rfl (by decide) _ (k+1) _ rfl (HR.out.alloc _) ⟨W.heap.size,0,none⟩ 1 1 [.int .i64 0] rfl rfl (cell_one_new W (.int .i64 0) 3) (by simp[Value.oneCell']) (by unfold maxLen;omega) (by omega) (by have:=HC0.out;have:=HC1.out;simp;omega) ?_;intro v' w3 hown3 hgrow3 _
                 obtain⟨g2,cap2,rfl⟩:=ownsRow_succ hown3;obtain⟨e1,e2,e3,e4,e5⟩:=Boxed.appended (B:=B+1) HV.out (by decide) HR.out (by have:=HC0.out;have:=HC1.out;omega) (Nat.le_succ B) hown3 hgrow3;have k0:=e1.cell;have k1:=e1.frozen;have E1:=hid e1;have E2:=hid e2;have E3:=hid e3;have E4:=hid e4;have E5:=hid e5;have HG3:=hid hgrow3;clear e1 e2 e3 e4 e5 hown3 hgrow3)
    have hm2:2≤m:=by have:=I1.out;have:=I2.out;have:=HM.out;omega
    have hser:=k0g (vs:=vs) (n:=n) HND.out hm2 I4.out HD1.out hnv.out;have hq:=HQ.out;have h5:=I5.out;have h6:=I6.out;have hle:=HLE.out;have hg:(W.alloc (.cells #[.int .i64 0] 3)).grownBy w3 (some g):=HG3.out;have A6':=(((A6.out.alloc (.cells #[.int .i64 0] 3)).grown hg (fun e=>N6.out (by cases e;rfl))).other (a:=⟨B+1,0,none⟩) (by simp) (.slice (some ⟨g2,0,none⟩) (k+1+1) cap2));have A7':=(((A7.out.alloc (.cells #[.int .i64 0] 3)).grown hg (fun e=>N7.out (by cases e;rfl))).other (a:=⟨B+1,0,none⟩) (by simp<;>omega) (.slice (some ⟨g2,0,none⟩) (k+1+1) cap2));refine⟨E4.out.from _,⟨E5.out.size,fun _ _ _=>⟨E5.out,A6'.trans (Eq.symm A6.out),A7'.trans (Eq.symm A7.out)⟩⟩,⟨⟨m-1,vs ++ [n],0,_,by omega,by rw[List.length_append,HKK.out];have:=I2.out;simp<;>omega,?_,?_,?_,Nat.zero_le _,E2.out,?_⟩,A6',A7'⟩,HBW.out.trans E5.out⟩
    ·rw[b0a,I3.out,hser,hq]
    ·rw[b0a];show q≤_;omega
    ·rw[b0a,List.length_append,List.length_singleton];show pre.length+1+(L.length-q+(m-1))≤_;omega
    ·have h7:=E3.out;rw[List.length_append,List.length_singleton,HKK.out,d0Z];exact h7
 case done=>
  rintro D' xs W hD hS ⟨⟨⟨m,vs,n,v,i1,i2,i3,i4,i5,i6,hv,hr⟩,ha6,hb7⟩,hB⟩ hK;rw[HN.out,HD.out,HLQ.out]at hS;have hsn:=hid (i3.trans (b0m i1 hS));have r1:=Y1.out.below hB (by have:=HBB.out;omega);have r2:=Y2.out.below hB (by have:=HBB.out;omega);have r3:=Y3.out.below hB (by have:=HBB.out;omega);have c4:=r1.cell 0;have c5:=r2.cell 0;have c6:=r3.cell 0;have c7:=r1.free 0;have c8:=r2.free 0;have c9:=r3.free 0;simp at c4 c5 c6;have R1:=hid r1;have R2:=hid r2;have R3:=hid r3;have HBW:=hid hB;have HK:=hid hK;have HDD:=hid hD;clear i1 i2 i3 i4 i5 i6 hv hr ha6 hb7 hB hK hS r1 r2 r3 hD
  gi_wp2_with fail
  have q1:=((R1.out.set 0 (.slice none 0 0)).other (a:=⟨w.heap.size+1+1,0,none⟩) (by simp) (.int .i64 0)).other (a:=⟨w.heap.size+1+1+1,0,none⟩) (by simp<;>omega) (.bool false);have q2:=((R2.out.other (a:=⟨w.heap.size+1,0,none⟩) (by simp) (.slice none 0 0)).set 0 (.int .i64 0)).other (a:=⟨w.heap.size+1+1+1,0,none⟩) (by simp) (.bool false);have q3:=((R3.out.other (a:=⟨w.heap.size+1,0,none⟩) (by simp<;>omega) (.slice none 0 0)).other (a:=⟨w.heap.size+1+1,0,none⟩) (by simp) (.int .i64 0)).set 0 (.bool false);have hk3:=((((KeepsOthers.setCell W ⟨w.heap.size+1,0,none⟩ (.slice none 0 0)).trans (KeepsOthers.setCell _ ⟨w.heap.size+1+1,0,none⟩ (.int .i64 0))).trans (KeepsOthers.setCell _ ⟨w.heap.size+1+1+1,0,none⟩ (.bool false)))).same D' _ HK.out rfl;have p1:=(q1.put hk3 (.deferred none)).cell 0;have p2:=(q2.put hk3 (.deferred none)).cell 0;have p3:=(q3.put hk3 (.deferred none)).cell 0;simp at p1 p2 p3;have h8:=HBB.out;have h9:=HDD.out;have hz:=Z0.out;refine b0C hk3 (v:=.tuple #[.slice none 0 0,.int .i64 0,.bool false]) (by simp[results,Tryz.results175,go_sem,p1,p2,p3]) ⟨by rw[hsn.out];first | done | rfl,?_⟩;exact ((((HB0.out.trans (HBW.out.mono (by omega))).setCell (by simp<;>omega) _).setCell (by simp<;>omega) _).setCell (by simp<;>omega) _).trans (belowK_b (w:=w) (Nat.le_refl _) _ D' _ _ (by omega) hk3 rfl rfl)
 case stop=>
  rintro D' c pre W hD-⟨⟨rfl,vs,x,v,h1,h2,h3,h4,h5,hr⟩,hB⟩ hK;have p1:=(h3.put hK (.deferred none)).cell 0;have p2:=(h4.put hK (.deferred none)).cell 0;have p3:=(h5.put hK (.deferred none)).cell 0;have hrow:Row (W.putObj D' (.deferred none)) v (b0c .i64 vs):=Row.put (Row.of_owns hr) hK _;simp at p1 p2 p3;have H1':=hid h1;have HROW:=hid hrow;have HB':=hid hB;have HK:=hid hK;have HDD:=hid hD;obtain⟨a3,c3,rfl⟩:=a0p hr;clear h1 h3 h4 h5 hr hrow hB hD
  gi_wp2_with fail
  have h8:=HBB.out;have h9:=HDD.out;have hz:=Z0.out;refine b0C hK (v:=.tuple #[.slice a3 vs.length c3,.int .i64 (x:Nat),.bool true]) (by simp[results,Tryz.results175,go_sem,p1,p2,p3]) ⟨?_,?_⟩
  ·rw[H1'.out];exact⟨_,rfl,HROW.out⟩
  ·exact HB'.out.trans (belowK_b (w:=w) (Nat.le_refl _) _ D' _ _ (by omega) hK rfl rfl)
theorem b0S {p:ByteArray}(h:gPE p=0):cPE p=0∧bN (cW p)<bN (qD p):=by
 unfold gPE at h
 split at h
 ·rename_i he
  exact absurd h he
 ·rename_i he
  have he':qE p=0:=Decidable.not_not.1 he
  split at h
  ·cases h
  ·rename_i h2
   split at h
   ·cases h
   ·rename_i h3
    obtain⟨a,b,c,d,e1,e2⟩:=l0C he' (fun h=>h2 (.inl h)) h3;have h4:¬ 0≤k0M (cW p).data.toList (qD p).data.toList:=fun h=>h2 (.inr h)
    refine⟨?_,?_⟩
    ·rw[cPE,if_neg he,if_neg (fun h=>?_),if_neg h3];rcases h with h | h
     ·exact h2 (.inl h)
     ·exact h4 (by omega)
    ·rw[k0M,if_pos ⟨e1,e2⟩,b0G]at h4;show dv _<dv _
     split at h4
     ·assumption
     ·split at h4<;>simp at h4
theorem e0R {a b:ByteArray}(h:gE a b=0):gPE a=0∧d0l b=0:=by
 unfold gE at h
 split at h
 ·rename_i h1;exact absurd h h1
 ·rename_i h1;exact⟨Decidable.not_not.1 h1,h⟩
theorem e0b (w:World)(a b:ByteArray)(many:Nat)(h1:1≤many)(h2:many≤1000)(ha:a.size≤100000)(hb:b.size≤100000)(he:gE a b=0)(hL:Lay w)
 (hr:sr (bN (cW a)) (bN (qD a)) b.data.toList many 0 [] 0=none):
 Calls Tryz.prog 104 #[.string a,.string b,.int .i64 (many:Nat)] w fun e w'=>e=.returned (.tuple #[.agg #[.bool false,.int .i64 0,.int .i64 (b.size:Nat)],.int .i64 0])∧Below w.heap.size w w':=by
 have HC:=fun V hV=>hid (i0c V a b ha hb hV)
 have HS:=fun V hV=>hid (i0b V a b many h1 h2 ha (e0R he).2 (b0S (e0R he).1).1 (b0S (e0R he).1).2 hV)
 rw[he]at HC;rw[hr]at HS;simp only[m0k]at HS;have HL:=hid hL;have b0:=hid ((Below.refl w.heap.size w).alloc (Nat.le_refl _) (.cells #[.bool false,.int .i64 0,.int .i64 0] 82));have x0:=hid (Blk.new w #[.bool false,.int .i64 0,.int .i64 0] 82);clear h1 h2 ha hb he hL hr;go_enter Tryz.func104,Tryz.ntmps104;go_wp2_with fail;refine (HC _ (HL.out.call b0.out)).out.mono ?_;rintro e w1 ⟨rfl,hb1⟩;have b1:=hid (a0a b0.out hb1);have x1:=hid (x0.out.call hb1);clear hb1;go_wp2_with fail;refine (HS _ (HL.out.call b1.out)).out.mono ?_;rintro e w2 ⟨rfl,hb2⟩;have b2:=hid (a0a b1.out hb2);have x2:=hid (x1.out.call hb2);have r0:w2.cell? ⟨w.heap.size,0,none⟩=some (.bool false):=x2.out.cell 0;have r1:w2.cell? ⟨w.heap.size,1,none⟩=some (.int .i64 0):=x2.out.cell 1;have r2:w2.cell? ⟨w.heap.size,2,none⟩=some (.int .i64 0):=x2.out.cell 2;have f0:=x2.out.free 0;have f1:=x2.out.free 1;have f2:=x2.out.free 2;clear hb2;go_wp2_with fail;have s3:=((x2.out.set 0 (.bool false)).set 1 (.int .i64 0)).set 2 (.int .i64 (b.size:Nat));have k0:=s3.cell 0;have k1:=s3.cell 1;have k2:=s3.cell 2;simp at k0 k1 k2;refine bodyPost_ret (v:=.tuple #[.agg #[.bool false,.int .i64 0,.int .i64 (b.size:Nat)],.int .i64 0]) (by simp[results,Tryz.results104,go_sem,k0,k1,k2]) rfl ⟨rfl,?_⟩;exact ((b2.out.setCell (Nat.le_refl _) _).setCell (Nat.le_refl _) _).setCell (Nat.le_refl _) _
theorem g0Y (w:World)(a b:ByteArray)(many:Nat)(ha:a.size≤100000)(hb:b.size≤100000)(he:gE a b≠0)(hL:Lay w):
 Calls Tryz.prog 104 #[.string a,.string b,.int .i64 (many:Nat)] w fun e w'=>e=.returned (.tuple #[.agg #[.bool false,.int .i64 0,.int .i64 0],.int .i64 (gE a b)])∧Below w.heap.size w w':=by
 have HC:=fun V hV=>hid (i0c V a b ha hb hV)
 obtain⟨x,hx⟩:∃ x,gE a b=x:=⟨_,rfl⟩;rw[hx]at HC he ⊢;have q0:(x==0)=false:=by simpa using he
 have q1:(x != 0)=true:=by simpa using he
 have HL:=hid hL;have b0:=hid ((Below.refl w.heap.size w).alloc (Nat.le_refl _) (.cells #[.bool false,.int .i64 0,.int .i64 0] 82));have x0:=hid (Blk.new w #[.bool false,.int .i64 0,.int .i64 0] 82);clear ha hb he hL hx;go_enter Tryz.func104,Tryz.ntmps104;go_wp2_with fail;refine (HC _ (HL.out.call b0.out)).out.mono ?_;rintro e w2 ⟨rfl,hb2⟩;have b2:=hid (a0a b0.out hb2);have x2:=hid (x0.out.call hb2);have r0:w2.cell? ⟨w.heap.size,0,none⟩=some (.bool false):=x2.out.cell 0;have r1:w2.cell? ⟨w.heap.size,1,none⟩=some (.int .i64 0):=x2.out.cell 1;have r2:w2.cell? ⟨w.heap.size,2,none⟩=some (.int .i64 0):=x2.out.cell 2;have f0:=x2.out.free 0;have f1:=x2.out.free 1;have f2:=x2.out.free 2;clear hb2;go_wp2_with fail;have s3:=((x2.out.set 0 (.bool false)).set 1 (.int .i64 0)).set 2 (.int .i64 0);have k0:=s3.cell 0;have k1:=s3.cell 1;have k2:=s3.cell 2;simp at k0 k1 k2;refine bodyPost_ret (v:=.tuple #[.agg #[.bool false,.int .i64 0,.int .i64 0],.int .i64 x]) (by simp[results,Tryz.results104,go_sem,k0,k1,k2]) rfl ⟨rfl,?_⟩;exact ((b2.out.setCell (Nat.le_refl _) _).setCell (Nat.le_refl _) _).setCell (Nat.le_refl _) _
theorem m0W (w:World)(a b:ByteArray)(x p:Nat)(hx:x≤100000)(hp:p≤100000)(ha:a.size≤100000)(hb:b.size≤100000)(he:gE a b=0)(hL:Lay w)
 (hr:sr (bN (cW a)) (bN (qD a)) b.data.toList 1 0 [] 0=some ([x],p)):
 Calls Tryz.prog 104 #[.string a,.string b,.int .i64 1] w fun e w'=>e=.returned (.tuple #[.agg #[.bool true,.int .i64 (x:Nat),.int .i64 (p:Nat)],.int .i64 0])∧Below w.heap.size w w':=by
 have HC:=fun V hV=>hid (i0c V a b ha hb hV)
 have HS:=fun V hV=>hid (i0b V a b 1 (by omega) (by omega) ha (e0R he).2 (b0S (e0R he).1).1 (b0S (e0R he).1).2 hV)
 rw[he]at HC;rw[hr]at HS;simp only[m0k]at HS;have HL:=hid hL;have b0:=hid ((Below.refl w.heap.size w).alloc (Nat.le_refl _) (.cells #[.bool false,.int .i64 0,.int .i64 0] 82));have x0:=hid (Blk.new w #[.bool false,.int .i64 0,.int .i64 0] 82);clear ha hb he hL hr;go_enter Tryz.func104,Tryz.ntmps104;go_wp2_with fail;refine (HC _ (HL.out.call b0.out)).out.mono ?_;rintro e w1 ⟨rfl,hb1⟩;have b1:=hid (a0a b0.out hb1);have x1:=hid (x0.out.call hb1);clear hb1;go_wp2_with fail;refine (HS _ (HL.out.call b1.out)).out.mono ?_;rintro e w2 ⟨⟨v,rfl,hv⟩,hb2⟩;have b2:=hid (a0a b1.out hb2);have x2:=hid (x1.out.call hb2);obtain⟨a3,c3,rfl,h3,h4,h5⟩:=hv.openI;obtain⟨g,o,rfl,-,hc⟩:=h5 0 x rfl;rw[Nat.add_zero]at hc;have r0:w2.cell? ⟨w.heap.size,0,none⟩=some (.bool false):=x2.out.cell 0;have r1:w2.cell? ⟨w.heap.size,1,none⟩=some (.int .i64 0):=x2.out.cell 1;have r2:w2.cell? ⟨w.heap.size,2,none⟩=some (.int .i64 0):=x2.out.cell 2;have f0:=x2.out.free 0;have f1:=x2.out.free 1;have f2:=x2.out.free 2;clear hb2 hv h5;simp only[List.length_singleton]at h3 ⊢;go_wp2_with fail
 all_goals
  go_loop [12,41] (fun v i=>v=.int .i64 (x:Nat)∧i=.int .i64 0) (fun _ _=>0)
  case atStart=>exact⟨rfl,rfl⟩
  case round=>
   obtain⟨rfl,rfl⟩:=hrel;go_wp2_with fail;have s3:=((x2.out.set 0 (.bool true)).set 1 (.int .i64 (x:Nat))).set 2 (.int .i64 (p:Nat));have k0:=s3.cell 0;have k1:=s3.cell 1;have k2:=s3.cell 2;simp at k0 k1 k2;refine bodyPost_ret (v:=.tuple #[.agg #[.bool true,.int .i64 (x:Nat),.int .i64 (p:Nat)],.int .i64 0]) (by simp[results,Tryz.results104,go_sem,k0,k1,k2]) rfl ⟨rfl,?_⟩;exact ((b2.out.setCell (Nat.le_refl _) _).setCell (Nat.le_refl _) _).setCell (Nat.le_refl _) _
theorem m0V (w:World)(a b:ByteArray)(x y p:Nat)(hx:x≤100000)(hy:y≤100000)(hp:p≤100000)(ha:a.size≤100000)(hb:b.size≤100000)(he:gE a b=0)(hL:Lay w)
 (hr:sr (bN (cW a)) (bN (qD a)) b.data.toList 2 0 [] 0=some ([x,y],p)):
 Calls Tryz.prog 104 #[.string a,.string b,.int .i64 2] w fun e w'=>e=.returned (.tuple #[.agg #[.bool true,.int .i64 ((x:Int)-(y:Int)),.int .i64 (p:Nat)],.int .i64 0])∧Below w.heap.size w w':=by
 have HC:=fun V hV=>hid (i0c V a b ha hb hV)
 have HS:=fun V hV=>hid (i0b V a b 2 (by omega) (by omega) ha (e0R he).2 (b0S (e0R he).1).1 (b0S (e0R he).1).2 hV)
 rw[he]at HC;rw[hr]at HS;simp only[m0k]at HS;have HL:=hid hL;have b0:=hid ((Below.refl w.heap.size w).alloc (Nat.le_refl _) (.cells #[.bool false,.int .i64 0,.int .i64 0] 82));have x0:=hid (Blk.new w #[.bool false,.int .i64 0,.int .i64 0] 82);clear ha hb he hL hr;go_enter Tryz.func104,Tryz.ntmps104;go_wp2_with fail;refine (HC _ (HL.out.call b0.out)).out.mono ?_;rintro e w1 ⟨rfl,hb1⟩;have b1:=hid (a0a b0.out hb1);have x1:=hid (x0.out.call hb1);clear hb1;go_wp2_with fail;refine (HS _ (HL.out.call b1.out)).out.mono ?_;rintro e w2 ⟨⟨v,rfl,hv⟩,hb2⟩;have b2:=hid (a0a b1.out hb2);have x2:=hid (x1.out.call hb2);obtain⟨a3,c3,rfl,h3,h4,h5⟩:=hv.openI;obtain⟨g,o,rfl,-,hc⟩:=h5 0 x rfl;obtain⟨g',o',hgo,-,hd⟩:=h5 1 y rfl;simp at hgo;obtain⟨rfl,rfl⟩:=hgo;rw[Nat.add_zero]at hc;have r0:w2.cell? ⟨w.heap.size,0,none⟩=some (.bool false):=x2.out.cell 0;have r1:w2.cell? ⟨w.heap.size,1,none⟩=some (.int .i64 0):=x2.out.cell 1;have r2:w2.cell? ⟨w.heap.size,2,none⟩=some (.int .i64 0):=x2.out.cell 2;have f0:=x2.out.free 0;have f1:=x2.out.free 1;have f2:=x2.out.free 2;clear hb2 hv h5;simp only[List.length_cons,List.length_nil,Nat.zero_add,Nat.reduceAdd]at h3 ⊢;have w1:IntKind.i64.wrap ((x:Int)-(y:Int))=(x:Int)-(y:Int):=by rw[IntWalk.i64_in _ ⟨by omega,by omega⟩]
 go_wp2_with fail
 all_goals
  go_loop [12,41] (fun v i=>(v=.int .i64 (x:Nat)∧i=.int .i64 0)∨(v=.int .i64 ((x:Int)-(y:Int))∧i=.int .i64 1)) (fun _ i=>1-(intOf i).toNat)
  case atStart=>exact .inl ⟨rfl,rfl⟩
  case round=>
   rcases hrel with ⟨rfl,rfl⟩ | ⟨rfl,rfl⟩
   ·go_wp2_with fail;go_round
    case rel=>exact .inr ⟨rfl,rfl⟩
    case measure=>simp[intOf]
   ·go_wp2_with fail;have s3:=((x2.out.set 0 (.bool true)).set 1 (.int .i64 ((x:Int)-(y:Int)))).set 2 (.int .i64 (p:Nat));have k0:=s3.cell 0;have k1:=s3.cell 1;have k2:=s3.cell 2;simp at k0 k1 k2;refine bodyPost_ret (v:=.tuple #[.agg #[.bool true,.int .i64 ((x:Int)-(y:Int)),.int .i64 (p:Nat)],.int .i64 0]) (by simp[results,Tryz.results104,go_sem,k0,k1,k2]) rfl ⟨rfl,?_⟩;exact ((b2.out.setCell (Nat.le_refl _) _).setCell (Nat.le_refl _) _).setCell (Nat.le_refl _) _
def d3 (t:Bool×Int×Int):Value:=.agg #[.bool t.1,.int .i64 t.2.1,.int .i64 t.2.2]
def x0h (N D:Nat)(l:List UInt8):Bool×Int×Int:=match s1 N D l 0 0 with
 | none=>(false,0,(l.length:Nat))
 | some (x,p)=>(true,(x:Nat),(p:Nat))
def v0p (N D:Nat)(l:List UInt8):Bool×Int×Int:=match s1 N D l 0 0 with
 | none=>(false,0,(l.length:Nat))
 | some (x,p)=>match s1 N D l p 0 with
  | none=>(false,0,(l.length:Nat))
  | some (y,q)=>(true,(x:Int)-(y:Int),(q:Nat))
def oT (a b:ByteArray):Bool×Int×Int:=if gE a b=0 then x0h (bN (cW a)) (bN (qD a)) b.data.toList else (false,0,0)
def wT (a b:ByteArray):Bool×Int×Int:=if gE a b=0 then v0p (bN (cW a)) (bN (qD a)) b.data.toList else (false,0,0)
theorem f0w {b:ByteArray}(h:d0l b=0):b.size≤256:=by
 have h5:=(b0Y h 0).2.1;have h6:=a0r (b.extract 0 b.size);have h7:=(b0Y h 0).2.2;rw[h5,List.drop_zero,a0r]at h6;omega
theorem u0z (w:World)(a b:ByteArray)(ha:a.size≤100000)(hb:b.size≤100000)(hL:Lay w):
 Calls Tryz.prog 104 #[.string a,.string b,.int .i64 1] w fun e w'=>e=.returned (.tuple #[d3 (oT a b),.int .i64 (gE a b)])∧Below w.heap.size w w':=by
 by_cases he:gE a b=0
 ·have hs:=f0w (e0R he).2;have hND:=(b0S (e0R he).1).2;have hl:b.data.toList.length=b.size:=a0r b;have h1:=i0Q hND (l:=b.data.toList) b.data.toList.length 0 [] 0 (Nat.zero_le _) (by omega);rw[oT,if_pos he,x0h,he];cases hS:s1 (bN (cW a)) (bN (qD a)) b.data.toList 0 0 with
  | none=>
   rw[hS]at h1;refine (e0b w a b 1 (by omega) (by omega) ha hb he hL h1).mono fun e w' h=>?_
   rw[h.1];exact⟨by rw[hl];rfl,h.2⟩
  | some y=>
   obtain⟨x,p⟩:=y;rw[hS]at h1;have h2:=q0X hND b.data.toList.length 0 0 x p (Nat.zero_le _) (by omega) hS;exact m0W w a b x p (by omega) (by omega) ha hb he hL h1
 ·rw[oT,if_neg he];exact g0Y w a b 1 ha hb he hL
theorem u0y (w:World)(a b:ByteArray)(ha:a.size≤100000)(hb:b.size≤100000)(hL:Lay w):
 Calls Tryz.prog 104 #[.string a,.string b,.int .i64 2] w fun e w'=>e=.returned (.tuple #[d3 (wT a b),.int .i64 (gE a b)])∧Below w.heap.size w w':=by
 by_cases he:gE a b=0
 ·have hs:=f0w (e0R he).2;have hND:=(b0S (e0R he).1).2;have hl:b.data.toList.length=b.size:=a0r b;have h1:=v0t hND (l:=b.data.toList) b.data.toList.length 0 [] 0 (Nat.zero_le _) (by omega);rw[wT,if_pos he,v0p,he];cases hS:s1 (bN (cW a)) (bN (qD a)) b.data.toList 0 0 with
  | none=>
   rw[hS]at h1;refine (e0b w a b 2 (by omega) (by omega) ha hb he hL h1).mono fun e w' h=>?_
   rw[h.1];exact⟨by rw[hl];rfl,h.2⟩
  | some y=>
   obtain⟨x,p⟩:=y;rw[hS]at h1;have h2:=q0X hND b.data.toList.length 0 0 x p (Nat.zero_le _) (by omega) hS;have h3:=i0Q hND (l:=b.data.toList) b.data.toList.length p ([] ++ [x]) 0 h2.2.1 (by omega);dsimp only at h1 ⊢;rw[h3]at h1;cases hT:s1 (bN (cW a)) (bN (qD a)) b.data.toList p 0 with
   | none=>
    rw[hT]at h1;refine (e0b w a b 2 (by omega) (by omega) ha hb he hL h1).mono fun e w' h=>?_
    rw[h.1];exact⟨by rw[hl];rfl,h.2⟩
   | some z=>
    obtain⟨y,q⟩:=z;rw[hT]at h1;have h4:=q0X hND b.data.toList.length p 0 y q h2.2.1 (by omega) hT;exact m0V w a b x y q (by omega) (by omega) (by omega) ha hb he hL h1
 ·rw[wT,if_neg he];exact g0Y w a b 2 ha hb he hL
theorem x0w (w:World)(a b:ByteArray)(ha:a.size≤100000)(hb:b.size≤100000)(hL:Lay w):
 Calls Tryz.prog 139 #[.string a,.string b] w fun e w'=>e=.returned (.tuple #[d3 (oT a b),.int .i64 (gE a b)])∧Below w.heap.size w w':=by
 have HC:=fun V hV=>hid (u0z V a b ha hb hV)
 obtain⟨t,ht⟩:∃ t,oT a b=t:=⟨_,rfl⟩;obtain⟨x,hx⟩:∃ x,gE a b=x:=⟨_,rfl⟩;rw[ht,hx]at HC;rw[ht,hx];obtain⟨d,v,u⟩:=t;simp only[d3]at HC;have HL:=hid hL;have b0:=hid ((Below.refl w.heap.size w).alloc (Nat.le_refl _) (.cells #[.bool false,.int .i64 0,.int .i64 0] 82));have x0:=hid (Blk.new w #[.bool false,.int .i64 0,.int .i64 0] 82);clear ha hb hL hx ht;go_enter Tryz.func139,Tryz.ntmps139;go_wp2_with fail;refine (HC _ (HL.out.call b0.out)).out.mono ?_;rintro e w2 ⟨rfl,hb2⟩;have b2:=hid (a0a b0.out hb2);have x2:=hid (x0.out.call hb2);have r0:w2.cell? ⟨w.heap.size,0,none⟩=some (.bool false):=x2.out.cell 0;have r1:w2.cell? ⟨w.heap.size,1,none⟩=some (.int .i64 0):=x2.out.cell 1;have r2:w2.cell? ⟨w.heap.size,2,none⟩=some (.int .i64 0):=x2.out.cell 2;have f0:=x2.out.free 0;have f1:=x2.out.free 1;have f2:=x2.out.free 2;clear hb2;go_wp2_with fail;have s3:=((x2.out.set 0 (.bool d)).set 1 (.int .i64 v)).set 2 (.int .i64 u);have k0:=s3.cell 0;have k1:=s3.cell 1;have k2:=s3.cell 2;simp at k0 k1 k2;refine bodyPost_ret (v:=.tuple #[.agg #[.bool d,.int .i64 v,.int .i64 u],.int .i64 x]) (by simp[results,Tryz.results139,go_sem,k0,k1,k2]) rfl ⟨rfl,?_⟩;exact ((b2.out.setCell (Nat.le_refl _) _).setCell (Nat.le_refl _) _).setCell (Nat.le_refl _) _
theorem w0v (w:World)(a b:ByteArray)(ha:a.size≤100000)(hb:b.size≤100000)(hL:Lay w):
 Calls Tryz.prog 46 #[.string a,.string b] w fun e w'=>e=.returned (.tuple #[d3 (wT a b),.int .i64 (gE a b)])∧Below w.heap.size w w':=by
 have HC:=fun V hV=>hid (u0y V a b ha hb hV)
 obtain⟨t,ht⟩:∃ t,wT a b=t:=⟨_,rfl⟩;obtain⟨x,hx⟩:∃ x,gE a b=x:=⟨_,rfl⟩;rw[ht,hx]at HC;rw[ht,hx];obtain⟨d,v,u⟩:=t;simp only[d3]at HC;have HL:=hid hL;have b0:=hid ((Below.refl w.heap.size w).alloc (Nat.le_refl _) (.cells #[.bool false,.int .i64 0,.int .i64 0] 82));have x0:=hid (Blk.new w #[.bool false,.int .i64 0,.int .i64 0] 82);clear ha hb hL hx ht;go_enter Tryz.func46,Tryz.ntmps46;go_wp2_with fail;refine (HC _ (HL.out.call b0.out)).out.mono ?_;rintro e w2 ⟨rfl,hb2⟩;have b2:=hid (a0a b0.out hb2);have x2:=hid (x0.out.call hb2);have r0:w2.cell? ⟨w.heap.size,0,none⟩=some (.bool false):=x2.out.cell 0;have r1:w2.cell? ⟨w.heap.size,1,none⟩=some (.int .i64 0):=x2.out.cell 1;have r2:w2.cell? ⟨w.heap.size,2,none⟩=some (.int .i64 0):=x2.out.cell 2;have f0:=x2.out.free 0;have f1:=x2.out.free 1;have f2:=x2.out.free 2;clear hb2;go_wp2_with fail;have s3:=((x2.out.set 0 (.bool d)).set 1 (.int .i64 v)).set 2 (.int .i64 u);have k0:=s3.cell 0;have k1:=s3.cell 1;have k2:=s3.cell 2;simp at k0 k1 k2;refine bodyPost_ret (v:=.tuple #[.agg #[.bool d,.int .i64 v,.int .i64 u],.int .i64 x]) (by simp[results,Tryz.results46,go_sem,k0,k1,k2]) rfl ⟨rfl,?_⟩;exact ((b2.out.setCell (Nat.le_refl _) _).setCell (Nat.le_refl _) _).setCell (Nat.le_refl _) _
end Go.Proofs.YtlmnpocifldpmaaGreatDoor
namespace Go.Proofs
open Go.Shelf
def Tryz.lays212_ren:Go.Shelf.Ren:=⟨fun | 212=>96 | 263=>158 | 264=>159 | n=>n,fun | 46=>125 | 51=>175 | 146=>176 | 53=>151 | 148=>178 | n=>n,fun | n=>n⟩
theorem Tryz.lays212:Go.Proofs.Lays.n212 Tryz.prog Tryz.lays212_ren:={
 mixed:=by kernel_rfl
 f212:=Tryz.func96.trans (congrArg some (by kernel_rfl))
 f263:=Tryz.func158.trans (congrArg some (by kernel_rfl))
 f264:=Tryz.func159.trans (congrArg some (by kernel_rfl))
 t46:=Tryz.underlying125
 a46:=Tryz.isAgg125
 z46:=Tryz.sizeOf125
 v46:=Tryz.zeroValue125
 t51:=Tryz.underlying175
 a51:=Tryz.isAgg175
 z51:=Tryz.sizeOf175
 v51:=Tryz.zeroValue175
 t53:=Tryz.underlying151
 a53:=Tryz.isAgg151
 z53:=Tryz.sizeOf151
 v53:=Tryz.zeroValue151
 t146:=Tryz.underlying176
 a146:=Tryz.isAgg176
 z146:=Tryz.sizeOf176
 v146:=Tryz.zeroValue176
 t148:=Tryz.underlying178
 a148:=Tryz.isAgg178
 z148:=Tryz.sizeOf178
 v148:=Tryz.zeroValue178 }
open Go.RowKit Go.Lib in
theorem Tryz.bits_Mul (x y:Nat)(hx:x<18446744073709551616)(hy:y<18446744073709551616)(w:World):
 Calls Tryz.prog 96 #[.int .u64 x,.int .u64 y] w fun e w'=>e=.returned (.tuple #[.int .u64 ((x*y / 18446744073709551616:Nat):Int),.int .u64 ((x*y%18446744073709551616:Nat):Int)])∧w'=w:=Any.bits_Mul Tryz.lays212 x y hx hy w
end Go.Proofs
namespace Go.Proofs.YtlmnpocifldpmaaGreatDoor
open Go.RowKit
def b0d (l:List ByteArray):List Value:=l.map Value.string
@[simp] theorem strsR_length (l:List ByteArray):(b0d l).length=l.length:=by simp[b0d]
theorem c0s {l:List ByteArray}{i:Nat}{s:ByteArray}(h:l[i]?=some s):(b0d l)[i]?=some (.string s):=by simp[b0d,h]
theorem i0P (l:List ByteArray):∀ u∈b0d l,u.oneCell'=true:=by
 intro u hu;obtain⟨x,_,rfl⟩:=List.mem_map.1 hu
 rfl
theorem g0P (n:Nat)(h:n≤1000000)(W:World):(Instr.makeSlice 71 (.int .i64 (n:Int)) (.int .i64 (n:Int))).run Tryz.prog W=.ok (.slice (some ⟨W.heap.size,0,none⟩) n n) (W.alloc (.cells (madeCells #[.string ⟨#[]⟩] n) 22)):=
 run_make_row' (P:=Tryz.prog) 71 22 (.string ⟨#[]⟩) 16 Tryz.underlying71 (by kernel_rfl) rfl .i64 .i64 n (by omega) (by omega) W
theorem g0Q (n:Nat):madeCells #[.string ⟨#[]⟩] n=(b0d (List.replicate n ⟨#[]⟩)).toArray:=by
 apply Array.ext_getElem?
 intro i;unfold madeCells b0d;by_cases hi:i<n<;>simp[hi,Nat.mod_one]
def j0V (s:ByteArray)(n k:Nat):List Value:=b0d (List.replicate k s++List.replicate (n-k) ⟨#[]⟩)
theorem f0M {s:ByteArray}{n k m:Nat}(h:k+m≤n):splice (j0V s n k) k (b0d (List.replicate m s))=j0V s n (k+m):=by
 unfold splice j0V b0d;simp only[List.map_append,List.map_replicate,List.length_replicate];rw[List.take_append_of_le_length (by simp),List.take_of_length_le (by simp),List.drop_append,List.drop_of_length_le (by simp),List.nil_append,List.length_replicate,List.drop_replicate,← List.append_assoc,List.replicate_append_replicate];rw[show n-k-(k+m-k)=n-(k+m) by omega]
theorem h0v (w:World)(g0 n:Nat)(s:ByteArray)(h1:1≤n)(h2:n≤100000)(hc:w.cell? ⟨g0,0,none⟩=some (.string s)):
 Calls Tryz.prog 36 #[.slice (some ⟨g0,0,none⟩) 1 1,.int .i64 n] w fun e w'=>
  e=.returned (.slice (some ⟨w.heap.size,0,none⟩) n n)∧Blk w' w.heap.size (b0d (List.replicate n s)).toArray 22∧Below w.heap.size w w':=by
 have HM:=fun W=>hid (g0P n (by omega) W)
 have HB:=fun W=>hid (Tryz.bits_Mul 1 n (by omega) (by omega) W)
 have e1:(((1*n / 18446744073709551616:Nat)):Int)=0:=by
  rw[Nat.one_mul,Nat.div_eq_of_lt (by omega)];rfl
 have e2:(((1*n%18446744073709551616:Nat)):Int)=(n:Int):=by
  rw[Nat.one_mul,Nat.mod_eq_of_lt (by omega)]
 rw[e1,e2]at HB;have hn0:(0:Int)≤(n:Int):=by omega
 have hn1:(n:Int)≤100000:=by omega
 have q0:decide ((n:Int)<0)=false:=by simp
 have hsrc:∀ j v,(b0d [s])[j]?=some v→w.cell? ((⟨g0,0,none⟩:Addr).add j)=some v:=by
  intro j v hj;rcases j with _ | j
  ·simp[b0d]at hj;rw[← hj];exact hc
  ·simp[b0d]at hj
 have HSRC:=hid hsrc;have H1:=hid h1;have H2:=hid h2;clear e1 e2 hsrc hc h1 h2;go_enter Tryz.func36,Tryz.ntmps36;go_wp2_with fail;refine (HB _).out.mono ?_;rintro e w1 ⟨rfl,rfl⟩;clear HB;have HM1:=(HM w1).out;have hc1:(w1.alloc (.cells (madeCells #[.string ⟨#[]⟩] n) 22)).heap[w1.heap.size]?=some (.cells (j0V s n 0).toArray 22 (0,0)):=by
  have:=Blk.new w1 (madeCells #[.string ⟨#[]⟩] n) 22;rw[g0Q]at this ⊢;simpa[j0V,Blk]using this
 have hc2:(b0d [s]).length=Nat.min 1 n:=(Nat.min_eq_left H1.out).symm;have hc3:∀ j v,(b0d [s])[j]?=some v→(w1.alloc (.cells (madeCells #[.string ⟨#[]⟩] n) 22)).cell? ((⟨g0,0,none⟩:Addr).add j)=some v:=fun j v h=>
  have h2:=HSRC.out j v h
  (((Below.refl w1.heap.size w1).alloc (Nat.le_refl _) _).cell (a0k h2)).trans h2
 have hc4:0+(b0d [s]).length≤(j0V s n 0).length:=by simp[b0d,j0V];have:=H1.out;omega
 have hc5:=(Below.refl w1.heap.size w1).alloc (Nat.le_refl _) (.cells (madeCells #[.string ⟨#[]⟩] n) 22);have C1:=hid hc1;have C2:=hid hc2;have C3:=hid hc3;have C4:=hid hc4;have C5:=hid hc5;have hsp:splice (j0V s n 0) 0 (b0d [s])=j0V s n 1:=by
  have:=f0M (s:=s) (n:=n) (k:=0) (m:=1) (by have:=H1.out;omega);simpa using this
 have HSP:=hid hsp;clear hc1 hc2 hc3 hc4 hc5 HM hsp;go_wp2_with (refine wpList_copy_splice rfl (.tmp 31) (.tmp 32) 71 71 rfl 22 Tryz.underlying71 (by kernel_rfl) (some ⟨w1.heap.size,0,none⟩) (some ⟨g0,0,none⟩) n n 1 1 rfl rfl w1.heap.size 0 (j0V s n 0) 22 C1.out (b0d [s]) C2.out (fun _=>⟨rfl,_,rfl,C3.out⟩) C4.out (i0P _) w1.heap.size w1 C5.out (Nat.le_refl _) ?_;intro w2 hg2 hb2)
 rw[HSP.out]at hg2;have G2:=hid (show Blk w2 w1.heap.size (j0V s n 1).toArray 22 from hg2.out);have B2:=hid hb2;obtain⟨H,hH⟩:∃ H,w1.heap.size=H:=⟨_,rfl⟩;rw[hH]at G2 B2 ⊢;clear hg2 hb2 HM1 C1 C2 C3 C4 C5 HSP HSRC;have HH:=hid hH;clear hH
 go_loopw [8] (fun i wr=>∃ k:Nat,i=.int .i64 (k:Nat)∧1≤k∧k≤n∧Hid (Blk wr H (j0V s n k).toArray 22)∧Hid (Below H w1 wr)) (fun i wr=>n-(intOf i).toNat)
 case atStart=>exact⟨1,rfl,Nat.le_refl _,H1.out,G2.out,B2.out⟩
 case round=>
  obtain⟨k,rfl,hk1,hk2,hG,hB⟩:=hrel;by_cases hlt:k<n
  ·have f0:(0:Int)≤(k:Int):=by omega
   have f1:(k:Int)<(n:Int):=by omega
   have f2:(k:Int)≤(n:Int):=by omega
   have K1:=hid hk1;have K2:=hid hlt;clear hk1 hk2;go_wp2_with fail;refine a0n [0,1,2,3,4,5,6] 3 (fun _=>True) (by kernel_rfl) (by kernel_rfl) (by kernel_rfl) (by kernel_rfl) trivial ?_
   iterate 7
    refine⟨_,rfl,?_⟩;apply Exists.intro
    refine⟨.inl ⟨by rfl,?_⟩,?_⟩
    ·(intro W' hW';clear hW';go_simp;try (with_reducible rfl))
    (dsimp only[Act.put];try simp only[List.setIfInBounds_toArray,List.set_cons_zero,List.set_cons_succ])
   refine a0c (i:=7) (by kernel_rfl) (by rfl) (by rfl) ?_;obtain⟨m,hm⟩:∃ m,Nat.min k (n-k)=m:=⟨_,rfl⟩;have hm1:m≤k:=hm ▸ Nat.min_le_left _ _;have hm2:m≤n-k:=hm ▸ Nat.min_le_right _ _;have hm3:1≤m:=by rw[← hm];exact Nat.le_min.2 ⟨K1.out,by omega⟩
   have hsrc:∀ j v,(b0d (List.replicate m s))[j]?=some v→wr.drew.cell? ((⟨H,0,none⟩:Addr).add j)=some v:=fun j v hj=>by
    rw[Addr.add_lit,Nat.zero_add];have hjm:j<m:=by
     have:=(List.getElem?_eq_some_iff.1 hj).1;simpa using this
    have hv:v=.string s:=by
     rw[c0s (s:=s) (by rw[List.getElem?_replicate,if_pos hjm])]at hj;cases hj;rfl
    rw[hv];refine (Blk.cell (Blk.drew hG.out) j).trans ?_;rw[List.getElem?_toArray];exact c0s (by rw[List.getElem?_append_left (by simp;omega),List.getElem?_replicate,if_pos (by omega)])
   rw[if_neg (show ¬ n=k by have:=K2.out;omega)];refine wpList_copy_splice rfl (.tmp 41) (.tmp 44) 71 71 rfl 22 Tryz.underlying71 (by kernel_rfl) (some ⟨H,k,none⟩) (some ⟨H,0,none⟩) (n-k) (n-k) k n rfl rfl H k (j0V s n k) 22 hG.out (b0d (List.replicate m s)) (by simp[hm]) (fun _=>⟨rfl,_,rfl,hsrc⟩) (by simp[j0V,b0d]<;>omega) (i0P _) H w1 (hB.out.drew) (Nat.le_refl _) ?_;intro w4 hg4 hb4;rw[show (b0d (List.replicate m s)).length=m by simp];rw[f0M (by omega)]at hg4;have G4:=hid (show Blk w4 H (j0V s n (k+m)).toArray 22 from hg4.out);have B4:=hid hb4;have M2:=hid hm2;have M3:=hid hm3;have f5:(0:Int)≤(m:Int):=by omega
   have f6:(m:Int)≤100000:=by omega
   have ew:IntKind.i64.wrap ((k:Int)+(m:Int))=(k:Int)+(m:Int):=by rw[IntWalk.i64_in _ ⟨by omega,by omega⟩]
   clear hm hm1 hm2 hm3 hsrc hg4 hb4;go_wp2_with fail;refine⟨trivial,?_⟩;refine a0Z (is:=[8,9]) (g:=0) (by kernel_rfl) rfl trivial (by kernel_rfl) ?_
   iterate 2
    refine⟨_,rfl,?_⟩;apply Exists.intro
    refine⟨.inl ⟨by rfl,?_⟩,?_⟩
    ·(intro W' hW';clear hW';go_simp;try (with_reducible rfl))
    (dsimp only[Act.put];try simp only[List.setIfInBounds_toArray,List.set_cons_zero,List.set_cons_succ])
   refine wpAnyH_done (by kernel_rfl) ?_ _;simp only[b0l];go_wp2_with fail;go_roundw
   case rel=>exact⟨k+m,by rw[Int.natCast_add],by have:=M3.out;omega,by have:=M2.out;have:=K2.out;omega,G4,B4⟩
   case measure=>simp[intOf]<;>(have:=M3.out;have:=K2.out;omega)
  ·have e1:k=n:=by omega
   subst e1;go_wp2_with fail;go_ret
   have hh:=HH.out;subst hh;refine⟨rfl,?_,hB.out⟩;have:=hG.out;simpa[j0V]using this
open Go.Lib (decDigits nDigits)
theorem j0h (V:World)(x y:Nat)(hx:nDigits x≤4000)(hy:nDigits y≤4000)(h:nDigits (x+y)≤4000)(hL:Lay V):Calls Tryz.prog 206 #[.string (a0f x),.string (a0f y)] V fun e w'=>e=.returned (.string (a0f (x+y)))∧Below V.heap.size V w':=by
 have h2:=w0s V (a0f x) (a0f y) (a0M hx) (a0M hy) hL;rwa[c0J hx hy h]at h2
theorem k0t (V:World)(x y:Nat)(hx:nDigits x≤4000)(hy:nDigits y≤4000)(h:nDigits (x*y)≤4000)(hL:Lay V):Calls Tryz.prog 207 #[.string (a0f x),.string (a0f y)] V fun e w'=>e=.returned (.string (a0f (x*y)))∧Below V.heap.size V w':=by
 have h2:=u0v V (a0f x) (a0f y) (a0M hx) (a0M hy) hL;rwa[c0J hx hy h]at h2
theorem x0r (V:World)(x y:Nat)(hx:nDigits x≤4000)(hy:nDigits y≤4000):Calls Tryz.prog 257 #[.string (a0f x),.string (a0f y)] V fun e w'=>e=.returned (.int .i64 (b0G x y))∧Below V.heap.size V w':=by
 have h2:=o0S V (a0f x) (a0f y) (a0M hx) (a0M hy);rwa[i0n hx hy]at h2
theorem t0V (V:World)(x y:Nat)(hx:nDigits x≤4000)(hy:nDigits y≤4000)(h:y≤x)(hL:Lay V):Calls Tryz.prog 209 #[.string (a0f x),.string (a0f y)] V fun e w'=>e=.returned (.tuple #[.string (a0f (x-y)),.int .i64 0])∧Below V.heap.size V w':=by
 have h2:=x0t V (a0f x) (a0f y) (a0M hx) (a0M hy) hL;have h3:¬ 4000<nDigits (x-y):=by have:=b0M (show x-y≤x by omega);omega
 have e1:h0I (t0q (bN (a0f x)) (bN (a0f y))) (a0f x) (a0f y)=a0f (x-y):=by
  rw[b0i,b0i,h0I,if_pos ⟨b0E hx,b0E hy⟩,t0q,if_neg (by omega),l0u,if_neg h3]
 have e2:f0T (t0p (bN (a0f x)) (bN (a0f y))) (a0f x) (a0f y)=0:=by
  rw[b0i,b0i,f0T,if_pos (b0E hx),if_pos (b0E hy),t0p,if_neg (by omega),j0a,if_neg h3]
 rwa[e1,e2]at h2
theorem m0O (n:Nat)(h:n≤1000000)(W:World):(Instr.makeSlice 268 (.int .i64 (n:Int)) (.int .i64 (n:Int))).run Tryz.prog W=.ok (.slice (some ⟨W.heap.size,0,none⟩) n n) (W.alloc (.cells (madeCells #[.bool false] n) 4)):=
 run_make_row' (P:=Tryz.prog) 268 4 (.bool false) 1 Tryz.underlying268 (by kernel_rfl) rfl .i64 .i64 n (by omega) (by omega) W
theorem g0R (f:Nat→Bool)(n:Nat):madeCells #[.bool false] (n+1)=(g0t f n 0).toArray:=by
 rw[n0H];apply Array.ext_getElem?
 intro i;unfold madeCells;by_cases hi:i<n+1<;>simp[hi,Nat.mod_one]
def x0E (w:World)(H n:Nat)(v u:Value)(f g:List Value):Prop:=∃ g1 g2,v=.slice (some ⟨g1,0,none⟩) (n+1) (n+1)∧u=.slice (some ⟨g2,0,none⟩) (n+1) (n+1)∧g1≠g2∧H≤g1∧H≤g2∧Blk w g1 f.toArray 4∧Blk w g2 g.toArray 4
def s0p (w:World)(n N D:Nat)(e:Ending)(w':World):Prop:=∃ v u,e=.returned (.tuple #[v,u])∧x0E w' w.heap.size n v u (i0z (c0p N D) n) (i0z (a0F N D) n)
theorem d0y:((⟨#[48]⟩:ByteArray).toList == [48])=true:=by
 rw[Lib.toList_data];rfl
theorem u0w (w:World)(a:ByteArray)(n N D:Nat)(ha:a.size≤100000)(he:gPE a=0)(hn:n≤1000)(hN:bN (cW a)=N)(hD:bN (qD a)=D)(hND:N<D)(hL:Lay w):
 Calls Tryz.prog 258 #[.string a,.int .i64 n] w fun e w'=>s0p w n N D e w'∧Below w.heap.size w w':=by
 have HR:=hid (g0f w a ha hL);obtain⟨c1,c2,c3,c4,-⟩:=s0X (b0S he).1;rw[if_pos he,if_pos he,he]at HR;rw[c1,c2,hN,hD]at HR;rw[hN]at c3;rw[hD]at c4;have dN:∀ x,x<10 ^ (eN+1)→nDigits x≤4000:=fun x h=>a0N h (by omega) (by unfold eN;omega)
 have hM:=fun W=>hid (m0O (n+1) (by omega) W)
 have HL:=hid hL;have HLL:=hid hL.lt;have HND:=hid hND;have DN:=hid dN;have C4:=hid c4;have C3:=hid c3;have HN:=hid hn;have wn:IntKind.i64.wrap ((n:Int)+1)=((n+1:Nat):Int):=by rw[IntWalk.i64_in _ ⟨by omega,by omega⟩];omega
 obtain⟨sN,hsN⟩:∃ s,a0f N=s:=⟨_,rfl⟩;obtain⟨sD,hsD⟩:∃ s,a0f D=s:=⟨_,rfl⟩;rw[hsN,hsD]at HR;have HSN:=hid hsN;have HSD:=hid hsD;clear ha he hn hN hD hND hL c1 c2 c3 c4 dN hsN hsD;go_enter Tryz.func258,Tryz.ntmps258;go_wp2_with fail;refine HR.out.mono ?_;rintro e w1 ⟨rfl,hb1⟩;have B1:=hid hb1;clear hb1 HR
 go_upto_region 2 with fail
 go_cut [4,5] (fun s4 s5 wx=>x0E wx w.heap.size n s4 s5 (g0t (c0p N D) n 0) (g0t (a0F N D) n 0)∧Below w.heap.size w wx)
 case first=>
  have X:=fun (g1 g2:Nat) (W:World) (h1:Blk W g1 (madeCells #[.bool false] (n+1)) 4) (h2:Blk W g2 (madeCells #[.bool false] (n+1)) 4) (h3:g1≠g2) (h4:w.heap.size≤g1) (h5:w.heap.size≤g2)=>hid (show x0E W w.heap.size n (.slice (some ⟨g1,0,none⟩) (n+1) (n+1)) (.slice (some ⟨g2,0,none⟩) (n+1) (n+1)) (g0t (c0p N D) n 0) (g0t (a0F N D) n 0) from⟨g1,g2,rfl,rfl,h3,h4,h5,by rw[← g0R];exact h1,by rw[← g0R];exact h2⟩)
  have M1:∀ W,(Instr.makeSlice 268 (.int .i64 ((n:Int)+1)) (.int .i64 ((n:Int)+1))).run Tryz.prog W=.ok (.slice (some ⟨W.heap.size,0,none⟩) (n+1) (n+1)) (W.alloc (.cells (madeCells #[.bool false] (n+1)) 4)):=fun W=>(hM W).out
  clear hM
  go_region
  all_goals
   go_wp2_with fail
   go_meet
   first
    | exact⟨(X w1.heap.size (w1.heap.size+1) _ ((Blk.new w1 _ _).alloc _) (Blk.made _ _ _ (by simp)) (by omega) B1.out.size (by have:=B1.out.size;omega)).out,(((B1.out.alloc B1.out.size _).alloc (by have:=B1.out.size;simp;omega) _)).drew⟩
    | exact⟨(X (w1.heap.size+1) w1.heap.size _ (Blk.made _ _ _ (by simp)) ((Blk.new w1 _ _).alloc _) (by omega) (by have:=B1.out.size;omega) B1.out.size).out,(((B1.out.alloc B1.out.size _).alloc (by have:=B1.out.size;simp;omega) _)).drew⟩
 case rest=>
  obtain⟨⟨g1,g2,rfl,rfl,h3,h4,h5,hb1,hb2⟩,hB⟩:=hcut;have G1:=hid hb1;have G2:=hid hb2;have B2:=hid hB;have H3:=hid h3;have H4:=hid h4;have H5:=hid h5;have k0:wc.cell? ⟨g2,0,none⟩=some (.bool false):=by
   refine (hb2.cell 0).trans ?_;rw[List.getElem?_toArray,a0I (Nat.zero_le _)];simp
  have k1:=hb2.free 0;have z0:(0:Int)<((n+1:Nat):Int):=by omega
  have z1:(0:Int)<(n:Int)+1:=by omega
  obtain⟨z,hz⟩:∃ z,(sN.toList == [48])=z:=⟨_,rfl⟩;have HZ:Hid (z=decide (N=0)):=by
   show z=decide (N=0)
   rw[← hz];by_cases h0:N=0
   ·rw[← HSN.out,h0,a0w,d0y];simp
   ·rw[← HSN.out,a0J (l:=[48]) (by rw[← a0w];exact b0Q h0)];simp[h0]
  clear hb1 hb2 hB hM h3 h4 h5;go_wp2_with fail;obtain⟨W3,hW3⟩:∃ W,wc.setCell ⟨g2,0,none⟩ (.bool z)=W:=⟨_,rfl⟩;have G3:Blk W3 g1 (g0t (c0p N D) n 1).toArray 4:=by
   rw[← hW3,i0L (f:=c0p N D) (j:=0) rfl];exact G1.out.other (fun e=>H3.out e.symm) _
  have G4:Blk W3 g2 (g0t (a0F N D) n 1).toArray 4:=by
   have h:=G2.out.set 0 (.bool z);rw[hW3,List.setIfInBounds_toArray,HZ.out]at h;have h2:=d0r (f:=a0F N D) (n:=n) (j:=0) (Nat.zero_le _);rw[← h2];exact h
  have B3:Below w.heap.size w W3:=by rw[← hW3];exact B2.out.setCell H5.out _
  rw[hW3];have HG3:=hid G3;have HG4:=hid G4;have HB3:=hid B3;have e0:Hid ((!z)=(sdx N D 0).2):=by show (!z)=_;rw[HZ.out];simp[sdx]
  clear k0 k1 hz z0 z1 G3 G4 B3 hW3 G1 G2 B2 B1
  go_loopw [9,10,11] (fun o x j wr=>∃ i:Nat,j=.int .i64 ((i+1:Nat):Int)∧i≤n∧o=.bool (sdx N D i).2∧x=.string (a0f (sdx N D i).1)∧Hid (Blk wr g1 (g0t (c0p N D) n (i+1)).toArray 4)∧Hid (Blk wr g2 (g0t (a0F N D) n (i+1)).toArray 4)∧Hid (Below w.heap.size w wr)) (fun o x j wr=>n+1-(intOf j).toNat)
  case atStart=>exact⟨0,rfl,Nat.zero_le _,by rw[e0.out],by rw[HSN.out.symm];rfl,HG3.out,HG4.out,HB3.out⟩
  case round=>
   obtain⟨i,rfl,hi,rfl,rfl,hg1,hg2,hB⟩:=hrel;cases ho:(sdx N D i).2
   ·have GG1:Blk wr g1 (i0z (c0p N D) n).toArray 4:=by
     rw[← e0m (c0p N D) n (j:=n+1) (by omega),i0M (j:=i+1) (fun k hk=>d0c ho k (by omega)) (n+1) (by omega)];exact hg1.out
    have GG2:Blk wr g2 (i0z (a0F N D) n).toArray 4:=by
     rw[← e0m (a0F N D) n (j:=n+1) (by omega),i0M (j:=i+1) (fun k hk=>c0q ho k (by omega)) (n+1) (by omega)];exact hg2.out
    have GG1:=hid GG1;have GG2:=hid GG2;clear ho hi;go_wp2_with fail
    all_goals
     go_ret2
     exact⟨⟨_,_,rfl,⟨g1,g2,rfl,rfl,H3.out,H4.out,H5.out,GG1.out,GG2.out⟩⟩,hB.out⟩
   ·by_cases hlt:i+1≤n
    ·obtain⟨X,hX⟩:∃ X,(sdx N D i).1=X:=⟨_,rfl⟩;have hXD:X<D:=hX ▸ s0D HND.out i;have hs:sdx N D (i+1)=if D≤2*X then (2*X-D,decide (2*X≠D)) else (2*X,true):=by rw[sdx,if_pos ho,hX]
     have h1:c0p N D (i+1)=decide (D≤2*X):=by rw[c0p,ho,hX];rfl
     have h0:a0F N D (i+1)=decide (2*X≤D):=by rw[a0F,ho,hX];rfl
     have p10:(10:Nat) ^ (eN+1)=10*10 ^ eN:=by rw[Nat.pow_succ,Nat.mul_comm]
     have q10:=C4.out;have d1:nDigits X≤4000:=DN.out X (by omega);have d2:nDigits (X+X)≤4000:=DN.out _ (by omega);have d3:nDigits D≤4000:=DN.out _ (by omega);have HPL:=fun V hV=>hid (j0h V X X d1 d1 d2 hV)
     have HCM:=fun V=>hid (x0r V (X+X) D d2 d3)
     rw[HSD.out]at HCM;rw[hX];have k1:wr.cell? ⟨g1,i+1,none⟩=some (.bool false):=by
      refine (hg1.out.cell (i+1)).trans ?_;rw[List.getElem?_toArray,a0I hlt];simp
     have k2:wr.cell? ⟨g2,i+1,none⟩=some (.bool false):=by
      refine (hg2.out.cell (i+1)).trans ?_;rw[List.getElem?_toArray,a0I hlt];simp
     have f0:(0:Int)≤((i+1:Nat):Int):=by omega
     have f1:((i+1:Nat):Int)<((n+1:Nat):Int):=by omega
     have f2:decide (((i+1:Nat):Int)≤(n:Int))=true:=by simp;omega
     have f3:((i+1:Nat):Int)≤1000:=by have:=HN.out;omega
     have f4:(i:Int)≤1000:=by have:=HN.out;omega
     have HLT:=hid hlt;rcases Nat.lt_trichotomy (X+X) D with hc | hc | hc
     ·rw[b0A hc]at HCM;have HS:=hid (show sdx N D (i+1)=(X+X,true) from by rw[hs,if_neg (by omega),Nat.two_mul]);have T1:=hid (i0L (n:=n) (show c0p N D (i+1)=false from by rw[h1];simp;omega));have T0:=hid (d0r (f:=a0F N D) hlt);have HZ0:=hid (show a0F N D (i+1)=true from by rw[h0];simp;omega);clear hc hs h1 h0 p10 q10 d1 d2 d3 hX hXD ho hi;go_wp2_with fail;refine (HPL _ (HL.out.below hB.out HLL.out)).out.mono ?_;rintro e w5 ⟨rfl,hb5⟩;have G15:=hid (hg1.out.call hb5);have G25:=hid (hg2.out.call hb5);have B5:=hid (hB.out.trans (hb5.mono hB.out.size));clear hb5;go_wp2_with fail;refine (HCM _).out.mono ?_;rintro e w6 ⟨rfl,hb6⟩;have G16:=hid (G15.out.call hb6);have G26:=hid (G25.out.call hb6);have B6:=hid (B5.out.trans (hb6.mono B5.out.size));have m1:w6.cell? ⟨g1,i+1,none⟩=some (.bool false):=by
       refine (G16.out.cell (i+1)).trans ?_;rw[List.getElem?_toArray,a0I hlt];simp
      have m2:w6.cell? ⟨g2,i+1,none⟩=some (.bool false):=by
       refine (G26.out.cell (i+1)).trans ?_;rw[List.getElem?_toArray,a0I hlt];simp
      have m3:=G16.out.free (i+1);have m4:=G26.out.free (i+1);clear hb6 hlt k1 k2;go_wp2_with fail;go_roundw
      case rel=>
       refine⟨i+1,by go_num,HLT.out,by rw[HS.out],by rw[HS.out],?_,?_,B6.out.setCell H5.out _⟩
       ·show Blk _ _ _ _
        rw[T1.out];exact G16.out.other (fun e=>H3.out e.symm) _
       ·show Blk _ _ _ _
        rw[← T0.out,HZ0.out];have h:=G26.out.set (i+1) (.bool true);rw[List.setIfInBounds_toArray]at h;exact h
      case measure=>simp[intOf]<;>(have:=HLT.out;omega)
     ·rw[show b0G (X+X) D=0 from by rw[hc,c0Z]]at HCM;have hle:D≤X+X:=by omega
      have HSU:=fun V hV=>hid (t0V V (X+X) D d2 d3 hle hV)
      rw[HSD.out]at HSU;have HS:=hid (show sdx N D (i+1)=(X+X-D,false) from by rw[hs,if_pos (by omega),Nat.two_mul];simp;omega);have T1:=hid (d0r (f:=c0p N D) hlt);have HZ1:=hid (show c0p N D (i+1)=true from by rw[h1];simp;omega);have T0:=hid (d0r (f:=a0F N D) hlt);have HZ0:=hid (show a0F N D (i+1)=true from by rw[h0];simp;omega);clear hc hs h1 h0 p10 q10 d1 d2 d3 hX hXD ho hi hle;go_wp2_with fail;refine (HPL _ (HL.out.below hB.out HLL.out)).out.mono ?_;rintro e w5 ⟨rfl,hb5⟩;have G15:=hid (hg1.out.call hb5);have G25:=hid (hg2.out.call hb5);have B5:=hid (hB.out.trans (hb5.mono hB.out.size));clear hb5;go_wp2_with fail;refine (HCM _).out.mono ?_;rintro e w6 ⟨rfl,hb6⟩;have G16:=hid (G15.out.call hb6);have G26:=hid (G25.out.call hb6);have B6:=hid (B5.out.trans (hb6.mono B5.out.size));have m1:w6.cell? ⟨g1,i+1,none⟩=some (.bool false):=by
       refine (G16.out.cell (i+1)).trans ?_;rw[List.getElem?_toArray,a0I hlt];simp
      have m2:w6.cell? ⟨g2,i+1,none⟩=some (.bool false):=by
       refine (G26.out.cell (i+1)).trans ?_;rw[List.getElem?_toArray,a0I hlt];simp
      have m3:=G16.out.free (i+1);have m4:=G26.out.free (i+1);clear hb6 hlt k1 k2;go_wp2_with fail;refine (HSU _ (HL.out.below B6.out HLL.out)).out.mono ?_;rintro e w7 ⟨rfl,hb7⟩;have G17:=hid (G16.out.call hb7);have G27:=hid (G26.out.call hb7);have B7:=hid (B6.out.trans (hb7.mono B6.out.size));have n1:=(hb7.cell (a0k m1)).trans m1;have n3:=G17.out.free (i+1);have n2:(w7.setCell ⟨g1,i+1,none⟩ (.bool true)).cell? ⟨g2,i+1,none⟩=some (.bool false):=((G27.out.other (fun e=>H3.out e) (.bool true)).cell (i+1)).trans (by rw[List.getElem?_toArray,a0I HLT.out];simp);have n4:(w7.setCell ⟨g1,i+1,none⟩ (.bool true)).frozen? ⟨g2,i+1,none⟩=false:=(G27.out.other (a:=⟨g1,i+1,none⟩) (fun e=>H3.out e) (.bool true)).free (i+1);clear hb7 m1 m2 m3 m4;go_wp2_with fail;go_roundw
      case rel=>
       refine⟨i+1,by go_num,HLT.out,by rw[HS.out],by rw[HS.out],?_,?_,((B7.out.setCell H4.out _).setCell H5.out _)⟩
       ·show Blk _ _ _ _
        rw[← T1.out,HZ1.out];have h:=(G17.out.set (i+1) (.bool true)).other (a:=⟨g2,i+1,none⟩) (fun e=>H3.out e.symm) (.bool true);rw[List.setIfInBounds_toArray]at h;exact h
       ·show Blk _ _ _ _
        rw[← T0.out,HZ0.out];have h:=(G27.out.other (a:=⟨g1,i+1,none⟩) (fun e=>H3.out e) (.bool true)).set (i+1) (.bool true);rw[List.setIfInBounds_toArray]at h;exact h
      case measure=>simp[intOf]<;>(have:=HLT.out;omega)
     ·rw[c0o hc]at HCM;have hle:D≤X+X:=by omega
      have HSU:=fun V hV=>hid (t0V V (X+X) D d2 d3 hle hV)
      rw[HSD.out]at HSU;have HS:=hid (show sdx N D (i+1)=(X+X-D,true) from by rw[hs,if_pos (by omega),Nat.two_mul];simp;omega);have T1:=hid (d0r (f:=c0p N D) hlt);have HZ1:=hid (show c0p N D (i+1)=true from by rw[h1];simp;omega);have T0:=hid (d0r (f:=a0F N D) hlt);have HZ0:=hid (show a0F N D (i+1)=false from by rw[h0];simp;omega);clear hc hs h1 h0 p10 q10 d1 d2 d3 hX hXD ho hi hle;go_wp2_with fail;refine (HPL _ (HL.out.below hB.out HLL.out)).out.mono ?_;rintro e w5 ⟨rfl,hb5⟩;have G15:=hid (hg1.out.call hb5);have G25:=hid (hg2.out.call hb5);have B5:=hid (hB.out.trans (hb5.mono hB.out.size));clear hb5;go_wp2_with fail;refine (HCM _).out.mono ?_;rintro e w6 ⟨rfl,hb6⟩;have G16:=hid (G15.out.call hb6);have G26:=hid (G25.out.call hb6);have B6:=hid (B5.out.trans (hb6.mono B5.out.size));have m1:w6.cell? ⟨g1,i+1,none⟩=some (.bool false):=by
       refine (G16.out.cell (i+1)).trans ?_;rw[List.getElem?_toArray,a0I hlt];simp
      have m2:w6.cell? ⟨g2,i+1,none⟩=some (.bool false):=by
       refine (G26.out.cell (i+1)).trans ?_;rw[List.getElem?_toArray,a0I hlt];simp
      have m3:=G16.out.free (i+1);have m4:=G26.out.free (i+1);clear hb6 hlt k1 k2;go_wp2_with fail;refine (HSU _ (HL.out.below B6.out HLL.out)).out.mono ?_;rintro e w7 ⟨rfl,hb7⟩;have G17:=hid (G16.out.call hb7);have G27:=hid (G26.out.call hb7);have B7:=hid (B6.out.trans (hb7.mono B6.out.size));have n1:=(hb7.cell (a0k m1)).trans m1;have n3:=G17.out.free (i+1);have n2:(w7.setCell ⟨g1,i+1,none⟩ (.bool true)).cell? ⟨g2,i+1,none⟩=some (.bool false):=((G27.out.other (fun e=>H3.out e) (.bool true)).cell (i+1)).trans (by rw[List.getElem?_toArray,a0I HLT.out];simp);have n4:(w7.setCell ⟨g1,i+1,none⟩ (.bool true)).frozen? ⟨g2,i+1,none⟩=false:=(G27.out.other (a:=⟨g1,i+1,none⟩) (fun e=>H3.out e) (.bool true)).free (i+1);clear hb7 m1 m2 m3 m4;go_wp2_with fail;go_roundw
      case rel=>
       refine⟨i+1,by go_num,HLT.out,by rw[HS.out],by rw[HS.out],?_,?_,((B7.out.setCell H4.out _).setCell H5.out _)⟩
       ·show Blk _ _ _ _
        rw[← T1.out,HZ1.out];have h:=(G17.out.set (i+1) (.bool true)).other (a:=⟨g2,i+1,none⟩) (fun e=>H3.out e.symm) (.bool false);rw[List.setIfInBounds_toArray]at h;exact h
       ·show Blk _ _ _ _
        rw[← T0.out,HZ0.out];have h:=(G27.out.other (a:=⟨g1,i+1,none⟩) (fun e=>H3.out e) (.bool true)).set (i+1) (.bool false);rw[List.setIfInBounds_toArray]at h;exact h
      case measure=>simp[intOf]<;>(have:=HLT.out;omega)
    ·have e1:i=n:=by omega
     subst e1;have f2:decide (((i+1:Nat):Int)≤(i:Int))=false:=by simp;omega
     have GG1:Blk wr g1 (i0z (c0p N D) i).toArray 4:=by
      rw[← e0m (c0p N D) i (j:=i+1) (by omega)];exact hg1.out
     have GG2:Blk wr g2 (i0z (a0F N D) i).toArray 4:=by
      rw[← e0m (a0F N D) i (j:=i+1) (by omega)];exact hg2.out
     have GG1:=hid GG1;have GG2:=hid GG2;clear ho hi hlt;go_wp2_with fail;go_ret2
     exact⟨⟨_,_,rfl,⟨g1,g2,rfl,rfl,H3.out,H4.out,H5.out,GG1.out,GG2.out⟩⟩,hB.out⟩
def NRowT (w:World)(g:Nat)(l:List Nat):Prop:=Blk w g (q0s l).toArray 22
theorem NRowT.cell {w:World}{g:Nat}{l:List Nat}(h:NRowT w g l){i:Nat}(hi:i<l.length):w.cell? ⟨g,i,none⟩=some (.string (a0f (l.getD i 0))):=by
 refine (Blk.cell h i).trans ?_;rw[List.getElem?_toArray,r0w hi]
theorem NRowT.free {w:World}{g:Nat}{l:List Nat}(h:NRowT w g l)(i:Nat):w.frozen? ⟨g,i,none⟩=false:=Blk.free h i
theorem NRowT.set {w:World}{g:Nat}{l:List Nat}(h:NRowT w g l)(i x:Nat):NRowT (w.setCell ⟨g,i,none⟩ (.string (a0f x))) g (l.set i x):=by
 have:=Blk.set h i (.string (a0f x));rw[List.setIfInBounds_toArray,r0v]at this;exact this
theorem NRowT.call {w w':World}{g:Nat}{l:List Nat}(h:NRowT w g l)(hb:Below w.heap.size w w'):NRowT w' g l:=Blk.call h hb
theorem NRowT.other {w:World}{g:Nat}{l:List Nat}(h:NRowT w g l){a:Addr}(ha:a.block≠g)(v:Value):NRowT (w.setCell a v) g l:=Blk.other h ha v
theorem NRowT.zeros {w:World}{g n:Nat}(h:Blk w g (b0d (List.replicate n ⟨#[48]⟩)).toArray 22):NRowT w g (List.replicate n 0):=by
 have e:q0s (List.replicate n 0)=b0d (List.replicate n ⟨#[48]⟩):=by
  unfold q0s b0d;rw[List.map_replicate,List.map_replicate,a0w]
 unfold NRowT;rw[e];exact h
open Go.Shelf
theorem k0D (w:World)(n:Nat)(hn:n≤1000)(hL:Lay w):
 Calls Tryz.prog 208 #[.int .i64 n] w fun e w'=>e=.returned (.string (a0f (2 ^ n)))∧Below w.heap.size w w':=by
 have HP:=hid (r0A w ⟨#[50]⟩ n r0Y (by omega) (by rw[t0d];exact g0A hn) hL);rw[t0d]at HP;clear hn hL;go_enter Tryz.func208,Tryz.ntmps208;go_wp2_with fail;refine HP.out.mono ?_;rintro e w1 ⟨rfl,hb1⟩;have b1:=hid hb1;clear hb1;go_wp2_with fail;go_ret
 exact⟨rfl,b1.out⟩
end Go.Proofs.YtlmnpocifldpmaaGreatDoor
namespace Go.Proofs.YtlmnpocifldpmaaGreatDoor
open Go.RowKit
def drT (N D:Nat)(two:Bool)(l:List UInt8):Bool×Int×Int:=if two=true then v0p N D l else x0h N D l
theorem w0J {N D:Nat}(h:N<D)(two:Bool)(l:List UInt8):∃ u:Nat,u≤l.length∧((k0b N D two l=none∧drT N D two l=(false,0,(u:Int)))∨(∃ v:Int,-(l.length:Int)≤v∧v≤l.length∧k0b N D two l=some v∧drT N D two l=(true,v,(u:Int)))):=by
 have hb:=fun v hv=>h0k h (two:=two) (l:=l) (v:=v) hv
 unfold k0b at hb;unfold k0b drT x0h v0p;cases hs:s1 N D l 0 0 with
 | none=>exact⟨l.length,Nat.le_refl _,.inl ⟨rfl,by cases two<;>rfl⟩⟩
 | some xp=>
  obtain⟨x,p⟩:=xp;obtain⟨b1,b2⟩:=k0o h hs;rw[hs]at hb;cases two
  ·exact⟨p,b1,.inr ⟨x,(hb _ rfl).1,(hb _ rfl).2,rfl,rfl⟩⟩
  ·simp only[if_true]at hb ⊢;have hd:=o0j h (l:=l) (a:=p) b1 l.length 0 0 (by omega) (by omega);rw[Nat.add_zero]at hd;rw[hd];cases hs2:s1 N D (l.drop p) 0 0 with
   | none=>exact⟨l.length,Nat.le_refl _,.inl ⟨rfl,rfl⟩⟩
   | some yq=>
    obtain⟨y,q⟩:=yq;obtain⟨b3,b4⟩:=k0o h hs2;rw[List.length_drop]at b3;rw[hs2]at hb;exact⟨p+q,by omega,.inr ⟨(x:Int)-(y:Int),(hb _ rfl).1,(hb _ rfl).2,rfl,rfl⟩⟩
open Go.Shelf
open Go.Lib (decDigits nDigits)
def f0G (u:Int):Bool:=decide (u < -1125899906842624) || decide (1125899906842624<u)
def s0Q (p:Int→Bool)(l:List Int):Int:=if l.any p=true then (l.findIdx p:Nat) else -1
theorem i0Y (w:World)(v:Value)(l:List Int)(F:Nat)(p:Int→Bool)(hv:Row w v (zs l))(hl:l.length≤9223372036854775807)(hen:∀ args w,(callFunc F args).run Tryz.prog w=.ok (.enter F args) w)
 (hF:∀ W x,Calls Tryz.prog F #[.int .i64 x] W fun e w'=>e=.returned (.bool (p x))∧W=w'):
 Calls Tryz.prog 153 #[v,.func (.func F) #[] #[]] w fun e w'=>e=.returned (.int .i64 (s0Q p l))∧w=w':=by
 obtain⟨a,c,rfl,q1,q2,q3⟩:=hv.openZ;obtain⟨n,hn⟩:∃ n,l.length=n:=⟨_,rfl⟩;rw[hn]at q1 hl ⊢;have HN:=hid hn;have Q3:=hid q3;have HF:=hid hF;clear hv q3 hn hF;go_enter Tryz.func153,Tryz.ntmps153;go_wp2_with fail
 go_loop [8] (fun ii=>∃ i:Nat,ii=.int .i64 i∧i≤n∧Hid (∀ j x,j<i→l[j]?=some x→p x=false)) (fun ii=>n-(intOf ii).toNat)
 case atStart=>exact⟨0,rfl,Nat.zero_le _,fun j x hj=>absurd hj (by omega)⟩
 case round=>
  obtain⟨i,rfl,hi,hI⟩:=hrel;by_cases hlt:i<n
  ·obtain⟨x,hx⟩:∃ x,l[i]?=some x:=⟨_,List.getElem?_eq_getElem (by rw[HN.out];exact hlt)⟩;obtain⟨g,o,rfl,hg,hc⟩:=Q3.out i x hx;have HX:=hid hx;have b1:(0:Int)≤(i:Int):=by omega
   have b2:(i:Int)<(n:Int):=by omega
   have wi:IntKind.i64.wrap ((i:Int)+1)=((i+1:Nat):Int):=by rw[IntWalk.i64_in _ ⟨by omega,by omega⟩];omega
   obtain⟨z,hz⟩:∃ z,p x=z:=⟨_,rfl⟩;have C:=fun W=>hid (hz ▸ HF.out W x)
   have HZ:=hid hz;clear hx hz;go_wp2_with fail;refine (C _).out.mono ?_;rintro e w1 ⟨rfl,rfl⟩;cases z
   ·go_wp2_with fail;go_round
    case rel=>exact⟨i+1,by go_num,by omega,fun j y hj hy=>by
     rcases Nat.lt_or_ge j i with h | h
     ·exact hI.out j y h hy
     ·obtain rfl:j=i:=by omega
      rw[HX.out]at hy;cases hy;exact HZ.out⟩
    case measure=>simp[intOf]<;>omega
   ·have hA:l.any p=true:=List.any_eq_true.2 ⟨x,List.mem_of_getElem? HX.out,HZ.out⟩;have hfi:l.findIdx p=i:=by
     have hil:i<l.length:=by rw[HN.out];exact hlt
     rw[List.findIdx_eq hil];refine⟨?_,fun j hj=>?_⟩
     ·have:=HX.out;rw[List.getElem?_eq_getElem hil]at this;rw[Option.some.inj this];exact HZ.out
     ·exact hI.out j _ hj (List.getElem?_eq_getElem (Nat.lt_trans hj hil))
    have HE:=hid (show s0Q p l=(i:Int) from by rw[s0Q,if_pos hA,hfi]);clear hA hfi;go_wp2_with fail;go_ret
    exact⟨by rw[HE.out];rfl,rfl⟩
  ·obtain rfl:i=n:=by omega
   have hA:¬ l.any p=true:=fun h=>by
    obtain⟨x,hx,hp⟩:=List.any_eq_true.1 h;obtain⟨j,hj⟩:=List.getElem?_of_mem hx;have:=hI.out j x (by rw[← HN.out];exact (List.getElem?_eq_some_iff.1 hj).1) hj;rw[this]at hp;cases hp
   have HE:=hid (show s0Q p l = -1 from by rw[s0Q,if_neg hA]);have q0:decide ((i:Int)<(i:Int))=false:=by simp
   clear hA hlt;go_wp2_with fail;go_ret
   exact⟨by rw[HE.out];rfl,rfl⟩
theorem f0L (w:World)(v:Value)(l:List Int)(F:Nat)(p:Int→Bool)(hv:Row w v (zs l))(hl:l.length≤9223372036854775807)(hen:∀ args w,(callFunc F args).run Tryz.prog w=.ok (.enter F args) w)
 (hF:∀ W x,Calls Tryz.prog F #[.int .i64 x] W fun e w'=>e=.returned (.bool (p x))∧W=w'):
 Calls Tryz.prog 91 #[v,.func (.func F) #[] #[]] w fun e w'=>e=.returned (.bool (l.any p))∧w=w':=by
 have HI:=hid (i0Y w v l F p hv hl hen hF);have HB:=hid (show decide (0≤s0Q p l)=l.any p from by
  unfold s0Q;cases h:l.any p
  ·rw[if_neg (by simp)];rfl
  ·rw[if_pos rfl];simp)
 rw[← HB.out];obtain⟨a,c,rfl,-⟩:=hv.openZ;generalize s0Q p l=z at *
 clear hF hv;go_enter Tryz.func91,Tryz.ntmps91;go_wp2_with fail;refine HI.out.mono ?_;rintro e w1 ⟨rfl,rfl⟩;go_wp2_with fail;go_ret
 exact⟨rfl,rfl⟩
end Go.Proofs.YtlmnpocifldpmaaGreatDoor
namespace Go.Proofs.YtlmnpocifldpmaaGreatDoor
open Go.RowKit
open Go.Lib (decDigits nDigits)
theorem r0Q (a:ByteArray):gE a ⟨#[]⟩=gPE a:=by
 unfold gE
 split
 ·rfl
 ·rename_i h
  have:gPE a=0:=Classical.byContradiction h;rw[this];decide
theorem s0h (s:ByteArray):d0l s=if q0h s≠0 then q0h s else if 256<s.size then 4 else 0:=by
 unfold d0l q0h
 split<;>rfl
def bsE:List ByteArray→Int
 | []=>0
 | s::r=>if d0l s≠0 then d0l s else bsE r
def wdE (l:List ByteArray)(m:Int):Int:=if (l.length:Int)=m then bsE l else 16
theorem m0e:∀ {l:List ByteArray} {i:Nat},(∀ (j:Nat) (b:ByteArray),j<i→l[j]?=some b→d0l b=0)→bsE l=bsE (l.drop i)
 | [],i,_=>by simp[bsE]
 | b::r,0,_=>rfl
 | b::r,i+1,h=>by
  have h1:=h 0 b (by omega) rfl;have h3:=m0e (l:=r) (i:=i) (fun j c hj hc=>h (j+1) c (by omega) (by simpa using hc));rw[bsE,if_neg (by simp[h1]),h3]
  rfl
theorem m0d:∀ {l:List ByteArray},bsE l=0 ↔ ∀ b∈l,d0l b=0
 | []=>by simp[bsE]
 | b::r=>by
  rw[bsE];by_cases h:d0l b=0
  ·rw[if_neg (by simp[h]),m0d];simp[h]
  ·rw[if_pos h];simp[h]
def zE (c:List Int):Int:=if 256<c.length then 4 else if c.any f0G=true then 2 else 0
def ctE (c:List Int):Int:=if c.length=0 then 2 else zE c
def nz1 (two:Bool)(a:ByteArray)(n:Int)(b:ByteArray):Option Int:=let t:=if two=true then wT a b else oT a b;if t.1=true then some (n+t.2.1) else none
def nzO (two:Bool)(a:ByteArray):List Int→List ByteArray→Option (List Int)
 | c::cs,b::bs=>(nz1 two a c b).bind fun x=>(nzO two a cs bs).map (x :: ·)
 | _,_=>some []
def sqO (a r:ByteArray)(thr:Int)(c:List Int):List ByteArray→Option Nat
 | []=>none
 | b::bs=>(nz1 true a thr b).bind fun t=>(nzO true r c bs).map fun l=>h0Z t l
def i0w (c:List Int)(thr:Int)(a r:ByteArray):Int:=if ctE c≠0 then ctE c else if f0G thr=true then 2 else if gPE a≠0 then gPE a else gPE r
def fsE (c:List Int)(thr:Int)(a r:ByteArray)(b:List ByteArray):Int:=if i0w c thr a r≠0 then i0w c thr a r else wdE b ((c.length+1:Nat):Int)
def fsV (n:Nat):Option Nat→Int×Bool
 | none=>(0,false)
 | some i=>(if i=n then -1 else (i:Int),true)
def fsA (c:List Int)(thr:Int)(a r:ByteArray)(b:List ByteArray):Int×Bool:=if fsE c thr a r b=0 then fsV c.length (sqO a r thr c b) else (0,false)
theorem k0h {c:List Int}{thr:Int}{a r:ByteArray}(h:i0w c thr a r=0):ctE c=0∧f0G thr=false∧gPE a=0∧gPE r=0:=by
 unfold i0w at h
 split at h
 ·rename_i h1;exact absurd h h1
 ·rename_i h1
  split at h
  ·cases h
  ·rename_i h2
   split at h
   ·rename_i h3;exact absurd h h3
   ·rename_i h3
    exact⟨Classical.byContradiction h1,by simpa using h2,Classical.byContradiction h3,h⟩
def glE (a:ByteArray)(n:Int)(m:Int):Int:=if gPE a≠0 then gPE a else if n<0∨m<n then 2 else 0
theorem x0A (w:World)(v:Value)(q:Rat)(h:IsQ .u64 w v q)(h0:q≠0):
 Calls Tryz.prog 124 #[v] w fun e w'=>n0n .u64 q⁻¹ e w'∧Below w.heap.size w w':=by
 obtain⟨N,D,rfl,hn,hd⟩:=h.ex;obtain⟨m,hm⟩:∃ m,decide (q.num<0)=m:=⟨_,rfl⟩;have HN:=hid hn;have HD:=hid hd;have HM:=hid hm;have H0:=hid h0;rw[hm];obtain⟨a1,c1,rfl,_⟩:=hn.openI;obtain⟨a2,c2,rfl,_⟩:=hd.openI;clear hn hd hm h0 h;go_enter Tryz.func124,Tryz.ntmps124;go_wp2_with fail;obtain⟨p1,p2,p3⟩:=k0B H0.out;have B:=((Below.refl w.heap.size w).alloc (Nat.le_refl _) (.cells #[.bool m,.slice a1 (limbs q.num.natAbs).length c1,.slice a2 (limbs q.den).length c2] 94)).alloc (by simp) (.cells #[.bool m,.slice a2 (limbs q.den).length c2,.slice a1 (limbs q.num.natAbs).length c1] 94);refine bodyPost_ret (v:=.agg #[.bool m,.slice a2 (limbs q.den).length c2,.slice a1 (limbs q.num.natAbs).length c1]) (by simp[results,Tryz.results124,go_sem]) rfl ⟨⟨_,rfl,⟨_,_,rfl.trans ?_,by rw[p2];exact HD.out.call B,by rw[p3];exact HN.out.call B⟩⟩,B⟩;rw[p1,HM.out]
def sgQ (q:Rat):Int:=if q.num=0 then 0 else if q.num<0 then -1 else 1
theorem q0S {q:Rat}(h:q.num=0):sgQ q=0:=if_pos h
theorem t0F {q:Rat}(h:¬ q.num=0)(h2:q.num<0):sgQ q = -1:=by rw[sgQ,if_neg h,if_pos h2]
theorem t0E {q:Rat}(h:¬ q.num=0)(h2:¬ q.num<0):sgQ q=1:=by rw[sgQ,if_neg h,if_neg h2]
theorem w0E (w:World)(v:Value)(q:Rat)(h:IsQ .u64 w v q):
 Calls Tryz.prog 135 #[v] w fun e w'=>e=.returned (.int .i64 (sgQ q))∧Below w.heap.size w w':=by
 obtain⟨N,D,rfl,hn,hd⟩:=h.ex;obtain⟨m,hm⟩:∃ m,decide (q.num<0)=m:=⟨_,rfl⟩;have HN:=hid hn;have HM:=hid hm;rw[hm];obtain⟨a1,c1,rfl,_⟩:=hn.openI;obtain⟨a2,c2,rfl,_⟩:=hd.openI;obtain⟨k1,hk1⟩:∃ k,(limbs q.num.natAbs).length=k:=⟨_,rfl⟩;obtain⟨k2,hk2⟩:∃ k,(limbs q.den).length=k:=⟨_,rfl⟩;rw[hk1]at HN ⊢;rw[hk2];have b0:=hid ((Below.refl w.heap.size w).alloc (Nat.le_refl _) (.cells #[.bool m,.slice a1 k1 c1,.slice a2 k2 c2] 94));have N0:=hid (HN.out.call b0.out);clear hn hd hm h hk1 hk2;go_enter Tryz.func135,Tryz.ntmps135;go_wp2_with fail;refine (f0d _ _ _ N0.out).mono ?_;rintro e w1 ⟨rfl,rfl⟩;by_cases hz:q.num=0
 ·have h1:isZ q.num.natAbs=true:=p0i.2 (by omega);rw[h1];have HZ:=hid hz;clear h1 hz;go_wp2_with fail;go_ret
  exact⟨a0L (q0S HZ.out).symm,b0.out⟩
 ·have h1:isZ q.num.natAbs=false:=decide_eq_false (by omega);rw[h1];have HZ:=hid hz;clear h1 hz;cases m
  ·go_wp2_with fail;go_ret
   exact⟨a0L (t0E HZ.out (of_decide_eq_false HM.out)).symm,b0.out⟩
  ·go_wp2_with fail;go_ret
   exact⟨a0L (t0F HZ.out (of_decide_eq_true HM.out)).symm,b0.out⟩
theorem m0K {q:Rat}{m:Bool}(hm:decide (q.num<0)=m):decide ((-q).num<0)=(!m && !isZ q.num.natAbs)∧(-q).num.natAbs=q.num.natAbs∧(-q).den=q.den:=by
 refine⟨?_,by rw[Rat.neg_num,Int.natAbs_neg],Rat.neg_den q⟩;rw[Rat.neg_num,← hm,Bool.eq_iff_iff];unfold isZ;simp only[Bool.and_eq_true,Bool.not_eq_true',decide_eq_true_eq,decide_eq_false_iff_not];omega
theorem x0y (w:World)(v:Value)(q:Rat)(h:IsQ .u64 w v q):
 Calls Tryz.prog 225 #[v] w fun e w'=>n0n .u64 (-q) e w'∧Below w.heap.size w w':=by
 obtain⟨N,D,rfl,hn,hd⟩:=h.ex;obtain⟨m,hm⟩:∃ m,decide (q.num<0)=m:=⟨_,rfl⟩;have HN:=hid hn;have HD:=hid hd;have HP:=hid (m0K hm);rw[hm];obtain⟨a1,c1,rfl,_⟩:=hn.openI;obtain⟨a2,c2,rfl,_⟩:=hd.openI;obtain⟨k1,hk1⟩:∃ k,(limbs q.num.natAbs).length=k:=⟨_,rfl⟩;obtain⟨k2,hk2⟩:∃ k,(limbs q.den).length=k:=⟨_,rfl⟩;rw[hk1]at HN ⊢;rw[hk2]at HD ⊢;have HZ:=fun W h=>hid (f0d W (.slice a1 k1 c1) q.num.natAbs h)
 obtain⟨z,hz⟩:∃ z,isZ q.num.natAbs=z:=⟨_,rfl⟩;rw[hz]at HP HZ;clear hn hd hm h hk1 hk2 hz;have b1:=hid (((Below.refl w.heap.size w).alloc (Nat.le_refl _) (.cells #[.bool m,.slice a1 k1 c1,.slice a2 k2 c2] 94)).alloc (by simp) (.cells #[.bool false,.slice none 0 0,.slice none 0 0] 94));cases m
 ·go_enter Tryz.func225,Tryz.ntmps225;go_wp2_with fail;refine f0N 14 (by kernel_rfl) (by kernel_rfl) ?_;simp only[List.take_succ_cons,List.take_zero,List.drop_succ_cons,List.drop_zero]
  iterate 6 still_step
  still_call ((HZ _ (HN.out.call b1.out.drew)).out.mono fun _ _ h=>⟨h.1,h.2.symm⟩)
  iterate 7 still_step
  refine wpStill_nil ?_;go_wp2_with fail;have b2:=(((Below.refl w.heap.size w).alloc (Nat.le_refl _) (.cells #[.bool false,.slice a1 k1 c1,.slice a2 k2 c2] 94)).alloc (by simp) (.cells #[.bool (!z),.slice a1 k1 c1,.slice a2 k2 c2] 94)).drew;obtain⟨p1,p2,p3⟩:=HP.out;refine bodyPost_ret (v:=.agg #[.bool (!z),.slice a1 k1 c1,.slice a2 k2 c2]) (by simp[results,Tryz.results225,go_sem]) rfl ⟨⟨_,rfl,⟨.slice a1 k1 c1,.slice a2 k2 c2,?_,?_,?_⟩⟩,b2⟩
  ·rw[p1];rfl
  ·rw[p2];exact HN.out.call b2
  ·rw[p3];exact HD.out.call b2
 ·go_enter Tryz.func225,Tryz.ntmps225;go_wp2_with fail;refine f0N 14 (by kernel_rfl) (by kernel_rfl) ?_;simp only[List.take_succ_cons,List.take_zero,List.drop_succ_cons,List.drop_zero]
  iterate 14 still_step
  refine wpStill_nil ?_;go_wp2_with fail;have b2:=(((Below.refl w.heap.size w).alloc (Nat.le_refl _) (.cells #[.bool true,.slice a1 k1 c1,.slice a2 k2 c2] 94)).alloc (by simp) (.cells #[.bool false,.slice a1 k1 c1,.slice a2 k2 c2] 94)).drew;obtain⟨p1,p2,p3⟩:=HP.out;refine bodyPost_ret (v:=.agg #[.bool false,.slice a1 k1 c1,.slice a2 k2 c2]) (by simp[results,Tryz.results225,go_sem]) rfl ⟨⟨_,rfl,⟨.slice a1 k1 c1,.slice a2 k2 c2,?_,?_,?_⟩⟩,b2⟩
  ·rw[p1];rfl
  ·rw[p2];exact HN.out.call b2
  ·rw[p3];exact HD.out.call b2
theorem p0X (s t:ByteArray):cmB s t = -1∨cmB s t=0∨cmB s t=1:=by
 unfold cmB q0r q0q
 split
 ·split
  ·simp
  ·split<;>simp
 ·simp
open Go.Shelf
def wB (R:ByteArray)(s:ByteArray):ByteArray:=if qE s=0 then R else ⟨#[]⟩
def wE (x:Int)(s:ByteArray):Int:=if qE s=0 then x else qE s
theorem w0q {w:World}{v:Value}{s:ByteArray}(hq:qE s=0)(h:IsF w v (iM (cW s)) (bN (iD (cW s))) (bN (qD s))):IsQ .u64 w v (vQ s):=by
 obtain⟨N,D,rfl,h1,h2⟩:=h;obtain⟨e1,e2,e3⟩:=n0y hq;exact⟨N,D,by rw[e1],by rw[e2];exact h1,by rw[e3];exact h2⟩
theorem l0z (w:World)(s:ByteArray)(F:Nat)(cs:Array Value)(R:ByteArray)(x:Int)(hs:s.size≤1000000)(hL:Lay w)
 (hen:∀ args w,(callFunc F args).run Tryz.prog w=.ok (.enter F args) w)
 (hF:∀ W v,qE s=0→Below w.heap.size w W→IsQ .u64 W v (vQ s)→Lay W→Calls Tryz.prog F (#[v]++cs) W fun e w'=>e=.returned (.tuple #[.string R,.int .i64 x])∧Below W.heap.size W w'):
 Calls Tryz.prog 133 #[.string s,.func (.func F) #[] cs] w fun e w'=>e=.returned (.tuple #[.string (wB R s),.int .i64 (wE x s)])∧Below w.heap.size w w':=by
 have HP:=hid (p0v w s hs hL);have HL:=hid hL;have HF:=hid hF;clear hF hs hL;by_cases h1:qE s=0
 ·have e1:wB R s=R:=if_pos h1;have e2:wE x s=x:=if_pos h1;rw[e1,e2];have HQ:=hid h1;rw[h1]at HP;clear h1 e1 e2;go_enter Tryz.func133,Tryz.ntmps133;go_wp2_with fail;refine HP.out.mono ?_;rintro e w1 ⟨⟨v,rfl,hv,-⟩,hb1⟩;have hq:=w0q HQ.out (hv rfl);have y1:=hid hb1;obtain⟨N,D,hvv,hN,hD⟩:=hv rfl;subst hvv;obtain⟨a,c,rfl,_⟩:=hN.openI;obtain⟨a',c',rfl,_⟩:=hD.openI;obtain⟨k,hk⟩:∃ k,(limbs (bN (iD (cW s)))).length=k:=⟨_,rfl⟩;obtain⟨k',hk'⟩:∃ k,(limbs (bN (qD s))).length=k:=⟨_,rfl⟩;obtain⟨m,hm⟩:∃ m,iM (cW s)=m:=⟨_,rfl⟩;rw[hk,hk',hm]at hq;rw[hk,hk',hm];have Q1:=hid hq;have X2:=hid (Blk.new w1 #[.bool m,.slice a k c,.slice a' k' c'] 94);have b2:=hid ((Below.refl w1.heap.size w1).alloc (Nat.le_refl _) (.cells #[.bool m,.slice a k c,.slice a' k' c'] 94));have y2:=hid (a0a y1.out b2.out);have Q2:=hid (hq.call b2.out);have r0:=X2.out.cell 0;have r1:=X2.out.cell 1;have r2:=X2.out.cell 2;simp at r0 r1 r2;clear hb1 hv hN hD hk hk' hm hq b2;go_wp2_with fail;refine (HF.out _ _ HQ.out y2.out Q2.out (HL.out.call y2.out)).mono ?_;rintro e w3 ⟨rfl,hb3⟩;have y3:=hid (a0a y2.out hb3);clear hb3;go_wp2_with fail;go_ret2
  exact⟨rfl,y3.out⟩
 ·have e1:wB R s=⟨#[]⟩:=if_neg h1;have e2:wE x s=qE s:=if_neg h1;rw[e1,e2];obtain⟨y,hy⟩:∃ y,qE s=y:=⟨_,rfl⟩;rw[hy]at HP h1 ⊢;have q0:(y==0)=false:=by simpa using h1
  have q1:(y != 0)=true:=by simpa using h1
  have H1:=hid h1;clear e1 e2 hy h1;go_enter Tryz.func133,Tryz.ntmps133;go_wp2_with fail;refine HP.out.mono ?_;rintro e w1 ⟨⟨v,rfl,-,hv⟩,hb1⟩;have hv':=hv H1.out;subst hv';have y1:=hid hb1;have y2:=hid (y1.out.alloc y1.out.size (.cells #[.bool false,.slice none 0 0,.slice none 0 0] 94));clear hb1 hv;go_wp2_with fail;go_ret2
  exact⟨rfl,y2.out⟩
def tB (R:ByteArray)(s t:ByteArray):ByteArray:=wB (wB R t) s
def tE (x:Int)(s t:ByteArray):Int:=wE (wE x t) s
theorem r0j (w:World)(v u:Value)(p q:Rat)(F g1 g2:Nat)(R:ByteArray)(x:Int)(hv:IsQ .u64 w v p)(hu:IsQ .u64 w u q)(hL:Lay w)
 (hen:∀ args w,(callFunc F args).run Tryz.prog w=.ok (.enter F args) w)
 (c1:w.cell? ⟨g1,0,none⟩=some (.func (.func F) #[] #[])) (m:Bool) (a a':Option Addr) (k c k' c':Nat) (hv0:v=.agg #[.bool m,.slice a k c,.slice a' k' c'])
 (c2:Blk w g2 #[.bool m,.slice a k c,.slice a' k' c'] 94)
 (hF:∀ W v u,IsQ .u64 W v p→IsQ .u64 W u q→Lay W→Calls Tryz.prog F #[v,u] W fun e w'=>e=.returned (.tuple #[.string R,.int .i64 x])∧Below W.heap.size W w'):
 Calls Tryz.prog 203 #[u,.pointer (some ⟨g1,0,none⟩),.pointer (some ⟨g2,0,none⟩)] w fun e w'=>e=.returned (.tuple #[.string R,.int .i64 x])∧Below w.heap.size w w':=by
 have HF:=hid hF;have HL:=hid hL;obtain⟨N,D,rfl,hN,hD⟩:=hu.ex;obtain⟨a1,d1,rfl,_⟩:=hN.openI;obtain⟨a2,d2,rfl,_⟩:=hD.openI;obtain⟨k1,hk1⟩:∃ k,(limbs q.num.natAbs).length=k:=⟨_,rfl⟩;obtain⟨k2,hk2⟩:∃ k,(limbs q.den).length=k:=⟨_,rfl⟩;obtain⟨mu,hmu⟩:∃ m,decide (q.num<0)=m:=⟨_,rfl⟩;rw[hk1,hk2,hmu]at hu;rw[hk1,hk2,hmu];subst hv0;have X2:=hid (Blk.new w #[.bool mu,.slice a1 k1 d1,.slice a2 k2 d2] 94);have b2:=hid ((Below.refl w.heap.size w).alloc (Nat.le_refl _) (.cells #[.bool mu,.slice a1 k1 d1,.slice a2 k2 d2] 94));have V2:=hid (hv.call b2.out);have U2:=hid (hu.call b2.out);have C1:=(b2.out.cell (a0k c1)).trans c1;have C2:=hid (c2.call b2.out);have r0:=X2.out.cell 0;have r1:=X2.out.cell 1;have r2:=X2.out.cell 2;have s0:=C2.out.cell 0;have s1:=C2.out.cell 1;have s2:=C2.out.cell 2;simp at r0 r1 r2 s0 s1 s2;clear hk1 hk2 hmu hN hD hv hu c1 c2 hF hL;go_enter Tryz.func203,Tryz.ntmps203;go_wp2_with fail;refine (HF.out _ _ _ V2.out U2.out (HL.out.call b2.out)).mono ?_;rintro e w3 ⟨rfl,hb3⟩;have y3:=hid (a0a b2.out hb3);clear hb3;go_wp2_with fail;go_ret2
 exact⟨rfl,y3.out⟩
theorem t0R (w:World)(v:Value)(t:ByteArray)(p:Rat)(F g1 g2:Nat)(R:ByteArray)(x:Int)(ht:t.size≤1000000)(hv:IsQ .u64 w v p)(hL:Lay w)
 (hen:∀ args w,(callFunc F args).run Tryz.prog w=.ok (.enter F args) w)
 (c1:w.cell? ⟨g1,0,none⟩=some (.string t)) (c2:w.cell? ⟨g2,0,none⟩=some (.func (.func F) #[] #[]))
 (hF:∀ W v u,qE t=0→IsQ .u64 W v p→IsQ .u64 W u (vQ t)→Lay W→Calls Tryz.prog F #[v,u] W fun e w'=>e=.returned (.tuple #[.string R,.int .i64 x])∧Below W.heap.size W w'):
 Calls Tryz.prog 202 #[v,.pointer (some ⟨g1,0,none⟩),.pointer (some ⟨g2,0,none⟩)] w fun e w'=>e=.returned (.tuple #[.string (wB R t),.int .i64 (wE x t)])∧Below w.heap.size w w':=by
 have HF:=hid hF;have HL:=hid hL;have HEN:=hid hen;obtain⟨N,D,rfl,hN,hD⟩:=hv.ex;obtain⟨a1,d1,rfl,_⟩:=hN.openI;obtain⟨a2,d2,rfl,_⟩:=hD.openI;obtain⟨k1,hk1⟩:∃ k,(limbs p.num.natAbs).length=k:=⟨_,rfl⟩;obtain⟨k2,hk2⟩:∃ k,(limbs p.den).length=k:=⟨_,rfl⟩;obtain⟨mu,hmu⟩:∃ m,decide (p.num<0)=m:=⟨_,rfl⟩;rw[hk1,hk2,hmu]at hv;rw[hk1,hk2,hmu];have X2:=hid (Blk.new w #[.bool mu,.slice a1 k1 d1,.slice a2 k2 d2] 94);have b2:=hid ((Below.refl w.heap.size w).alloc (Nat.le_refl _) (.cells #[.bool mu,.slice a1 k1 d1,.slice a2 k2 d2] 94));have V2:=hid (hv.call b2.out);have C1:=(b2.out.cell (a0k c1)).trans c1;have C2:=hid ((b2.out.cell (a0k c2)).trans c2);have L2:=hid (HL.out.call b2.out);obtain⟨w2,hw2⟩:∃ w2,w.alloc (.cells #[.bool mu,.slice a1 k1 d1,.slice a2 k2 d2] 94)=w2:=⟨_,rfl⟩;obtain⟨g3,hg3⟩:∃ g,w.heap.size=g:=⟨_,rfl⟩;have W2:=hid (l0z w2 t 203 #[.pointer (some ⟨g2,0,none⟩),.pointer (some ⟨g3,0,none⟩)] R x ht (hw2 ▸ L2.out) (enters_of Tryz.func203 (by kernel_rfl) rfl)
  (fun W u hq hb hu hLW=>by
   subst hw2;subst hg3;have hVW:=V2.out.call hb;have hX:=X2.out.call hb;have hC:=(hb.cell (a0k C2.out)).trans C2.out;exact r0j W _ u p (vQ t) F g2 w.heap.size R x hVW hu hLW HEN.out hC mu a1 a2 k1 d1 k2 d2 rfl hX (fun W v u h1 h2 h3=>HF.out W v u hq h1 h2 h3)))
 rw[hw2]at C1;clear hk1 hk2 hmu hN hD hv c1 c2 hF hL hen;go_enter Tryz.func202,Tryz.ntmps202;go_wp2_with fail;refine W2.out.mono ?_;rintro e w3 ⟨rfl,hb3⟩;have y3:=hid (a0a b2.out (hw2 ▸ hb3));clear hb3;go_wp2_with fail;go_ret2
 exact⟨rfl,y3.out⟩
end Go.Proofs.YtlmnpocifldpmaaGreatDoor
namespace Go.Proofs.YtlmnpocifldpmaaGreatDoor
open Go.RowKit
def s0t (b:Nat)(m1 m2:Bool)(n1 d1 n2 d2:Value)(w:World):Prop:=
 w.cell? ⟨b,0,none⟩=some (.bool m1)∧w.cell? ⟨b,1,none⟩=some n1∧w.cell? ⟨b,2,none⟩=some d1∧w.cell? ⟨b+1,0,none⟩=some (.bool m2)∧w.cell? ⟨b+1,1,none⟩=some n2∧w.cell? ⟨b+1,2,none⟩=some d2
structure Three (w W:World)(m1 m2:Bool)(n1 d1 n2 d2:Value):Prop where
 below:Below w.heap.size w W
 size:W.heap.size=w.heap.size+3
 b0:Blk W w.heap.size #[.bool m1,n1,d1] 94
 b1:Blk W (w.heap.size+1) #[.bool m2,n2,d2] 94
 b2:Blk W (w.heap.size+1+1) #[.bool false,.slice none 0 0,.slice none 0 0] 94
theorem Three.mk' {w W:World}{m1 m2:Bool}{n1 d1 n2 d2:Value}(h:((w.alloc (.cells #[.bool m1,n1,d1] 94)).alloc (.cells #[.bool m2,n2,d2] 94)).alloc (.cells #[.bool false,.slice none 0 0,.slice none 0 0] 94)=W):Three w W m1 m2 n1 d1 n2 d2:=by
 subst h;exact⟨(((Below.refl _ _).alloc (Nat.le_refl _) _).alloc (by simp) _).alloc (by simp;omega) _,by simp,((Blk.new w _ _).alloc _).alloc _,(Blk.made (w.alloc _) _ _ (by simp)).alloc _,Blk.made ((w.alloc _).alloc _) _ _ (by simp)⟩
theorem Three.cells {w W V:World}{m1 m2:Bool}{n1 d1 n2 d2:Value}(h:Three w W m1 m2 n1 d1 n2 d2)(hb:Below W.heap.size W V):s0t w.heap.size m1 m2 n1 d1 n2 d2 V:=
 have y0:=h.b0.call hb;have y1:=h.b1.call hb
 ⟨y0.cell 0,y0.cell 1,y0.cell 2,y1.cell 0,y1.cell 1,y1.cell 2⟩
theorem Three.stored {w W V:World}{m1 m2:Bool}{n1 d1 n2 d2:Value}(h:Three w W m1 m2 n1 d1 n2 d2)(hb:Below W.heap.size W V)(x y z:Value):s0t w.heap.size m1 m2 n1 d1 n2 d2 (((V.setCell ⟨w.heap.size+1+1,0,none⟩ x).setCell ⟨w.heap.size+1+1,1,none⟩ y).setCell ⟨w.heap.size+1+1,2,none⟩ z):=
 have y0:=((((h.b0.call hb).other (a:=⟨w.heap.size+1+1,0,none⟩) (by simp;omega) x).other (a:=⟨w.heap.size+1+1,1,none⟩) (by simp;omega) y).other (a:=⟨w.heap.size+1+1,2,none⟩) (by simp;omega) z);have y1:=((((h.b1.call hb).other (a:=⟨w.heap.size+1+1,0,none⟩) (by simp) x).other (a:=⟨w.heap.size+1+1,1,none⟩) (by simp) y).other (a:=⟨w.heap.size+1+1,2,none⟩) (by simp) z)
 ⟨y0.cell 0,y0.cell 1,y0.cell 2,y1.cell 0,y1.cell 1,y1.cell 2⟩
theorem x0z (w:World)(v u:Value)(p q:Rat)(hp:IsQ .u64 w v p)(hq:IsQ .u64 w u q)
 (h1:(limbs p.num.natAbs).length≤100000) (h2:(limbs p.den).length≤100000) (h3:(limbs q.num.natAbs).length≤100000) (h4:(limbs q.den).length≤100000):
 Calls Tryz.prog 123 #[v,u] w fun e w'=>n0n .u64 (p*q) e w'∧Below w.heap.size w w':=by
 have hq0:=h0F p q;obtain⟨Q,hQ⟩:∃ Q,p*q=Q:=⟨_,rfl⟩;rw[hQ]at hq0 ⊢;have hD:=hid (Nat.mul_pos p.den_pos q.den_pos);obtain⟨N1,D1,rfl,hn1,hd1⟩:=hp.ex;obtain⟨N2,D2,rfl,hn2,hd2⟩:=hq.ex;clear hp hq hQ;generalize decide (p.num<0)=m1 at *
 generalize decide (q.num<0)=m2 at *
 generalize p.num.natAbs=n1 at *
 generalize q.num.natAbs=n2 at *
 generalize p.den=d1 at *
 generalize q.den=d2 at *
 have HQ:=hid hq0;clear hq0;have HN1:=hid hn1;have HD1:=hid hd1;have HN2:=hid hn2;have HD2:=hid hd2;have L1:=hid (Nat.le_trans (d0W h1 h3) (show 100000+100000≤1000000 by omega));have L2:=hid (Nat.le_trans (d0W h2 h4) (show 100000+100000≤1000000 by omega));have H1:=hid (Nat.le_trans h1 (show 100000≤1000000 by omega));have H2:=hid (Nat.le_trans h2 (show 100000≤1000000 by omega));have H3:=hid (Nat.le_trans h3 (show 100000≤1000000 by omega));have H4:=hid (Nat.le_trans h4 (show 100000≤1000000 by omega));clear h1 h2 h3 h4;obtain⟨a1,c1,rfl,_⟩:=hn1.openI;obtain⟨a2,c2,rfl,_⟩:=hd1.openI;obtain⟨a3,c3,rfl,_⟩:=hn2.openI;obtain⟨a4,c4,rfl,_⟩:=hd2.openI;clear hn1 hd1 hn2 hd2;go_enter Tryz.func123,Tryz.ntmps123;go_wp2_with fail;obtain⟨W,hW⟩:∃ W,((w.alloc (.cells #[.bool m1,.slice a1 (limbs n1).length c1,.slice a2 (limbs d1).length c2] 94)).alloc (.cells #[.bool m2,.slice a3 (limbs n2).length c3,.slice a4 (limbs d2).length c4] 94)).alloc (.cells #[.bool false,.slice none 0 0,.slice none 0 0] 94)=W:=⟨_,rfl⟩;have T:=hid (Three.mk' hW);rw[hW];clear hW;have hS:=T.out.cells (Below.refl _ _).drew;have B0:=hid (T.out.below.drew);have C0:=hid ((Below.refl W.heap.size W).drew);refine a0n [0,1,2,3,4,5,6,7,8,10,11,12,13] 4 (s0t w.heap.size m1 m2 (.slice a1 (limbs n1).length c1) (.slice a2 (limbs d1).length c2) (.slice a3 (limbs n2).length c3) (.slice a4 (limbs d2).length c4)) (by kernel_rfl) (by kernel_rfl) (by kernel_rfl) (by kernel_rfl) hS ?_
 iterate 13
  refine⟨_,rfl,?_⟩;apply Exists.intro
  refine⟨.inl ⟨by rfl,?_⟩,?_⟩
  ·(intro W' hW';obtain⟨q1,q2,q3,q4,q5,q6⟩:=hW';go_simp;try (with_reducible rfl))
  (dsimp only[Act.put];try simp only[List.setIfInBounds_toArray,List.set_cons_zero,List.set_cons_succ])
 clear hS;refine a0c (i:=9) (by kernel_rfl) (by rfl) (by rfl) ?_;go_wp2_with fail;refine (j0w _ _ _ n1 n2 (HN1.out.call B0.out) (HN2.out.call B0.out) H1.out H3.out).mono ?_;rintro e w1 ⟨⟨v1,rfl,hv1⟩,hb1⟩;have B1:=hid (B0.out.trans (hb1.mono B0.out.size));have C1:=hid (a0a C0.out hb1);have V1:=hid hv1;clear hb1 hv1;go_wp2_with fail;refine⟨T.out.cells C1.out,?_⟩;refine a0c (i:=14) (by kernel_rfl) (by rfl) (by rfl) ?_;go_wp2_with fail;refine (j0w _ _ _ d1 d2 (HD1.out.call B1.out) (HD2.out.call B1.out) H2.out H4.out).mono ?_;rintro e w2 ⟨⟨v2,rfl,hv2⟩,hb2⟩;have B2:=hid (B1.out.trans (hb2.mono B1.out.size));have C2:=hid (a0a C1.out hb2);have V2:=hid hv2;have W1:=hid (V1.out.call hb2);clear hb2 hv2;go_wp2_with fail;refine⟨T.out.cells C2.out,?_⟩;refine a0c (i:=15) (by kernel_rfl) (by rfl) (by rfl) ?_;go_wp2_with fail;refine (j0D _ _ _ _ (n1*n2) (d1*d2) W1.out V2.out hD.out L1.out L2.out).mono ?_;rintro e w3 ⟨⟨v3,rfl,hv3⟩,hb3⟩;have hbn:(!(m1==m2))=(m1 != m2):=rfl;rw[hbn,HQ.out]at hv3;clear hbn;have B3:=hid (B2.out.trans (hb3.mono B2.out.size));have C3:=hid (a0a C2.out hb3);clear hb3;obtain⟨N3,D3,rfl,hN3,hD3⟩:=hv3.ex;obtain⟨a5,c5,rfl,_⟩:=hN3.openI;obtain⟨a6,c6,rfl,_⟩:=hD3.openI;obtain⟨k5,hk5⟩:∃ k,(limbs Q.num.natAbs).length=k:=⟨_,rfl⟩;obtain⟨k6,hk6⟩:∃ k,(limbs Q.den).length=k:=⟨_,rfl⟩;obtain⟨mq,hmq⟩:∃ m,decide (Q.num<0)=m:=⟨_,rfl⟩;rw[hk5]at hN3 ⊢;rw[hk6]at hD3 ⊢;rw[hmq];have HN3:=hid hN3;have HD3:=hid hD3;have HMQ:=hid hmq;have Z:=hid (T.out.b2.call C3.out);have t0:=Z.out.cell 0;have t1:=Z.out.cell 1;have t2:=Z.out.cell 2;have t3:=Z.out.free 0;have t4:=Z.out.free 1;have t5:=Z.out.free 2;simp at t0 t1 t2;clear hv3 hN3 hD3 hk5 hk6 hmq;go_wp2_with fail;refine⟨T.out.cells C3.out,?_⟩;refine a0c (i:=16) (by kernel_rfl) (by rfl) (by rfl) ?_;go_wp2_with fail;refine⟨T.out.stored C3.out _ _ _,?_⟩;refine wpAnyH_done (by kernel_rfl) ?_ _;simp only[b0l];obtain⟨s1,s2⟩:=c0c Z.out mq a5 a6 k5 c5 k6 c6;have f0:=s2.cell 0;have f1:=s2.cell 1;have f2:=s2.cell 2;simp at f0 f1 f2;clear t0 t1 t2 t3 t4 t5;go_wp2_with fail;refine bodyPost_ret (v:=.agg #[.bool mq,.slice a5 k5 c5,.slice a6 k6 c6]) (by simp[results,Tryz.results123,go_sem,f0,f1,f2]) rfl ⟨⟨_,rfl,⟨.slice a5 k5 c5,.slice a6 k6 c6,by rw[HMQ.out],s1 _ _ _ HN3.out,s1 _ _ _ HD3.out⟩⟩,?_⟩;exact ((B3.out.setCell (by simp;omega) _).setCell (by simp;omega) _).setCell (by simp;omega) _
theorem m0z {p q:Rat}{m:Bool}(h1:decide (p.num<0)=m)(h2:decide (q.num<0)=m):qmk m (p.num.natAbs*q.den+q.num.natAbs*p.den) (p.den*q.den)=p+q:=by
 rw[m0C,h1,h2,l0n];rfl
theorem m0B {p q:Rat}{m1 m2:Bool}(h1:decide (p.num<0)=m1)(h2:decide (q.num<0)=m2)(h:m1≠m2)(hl:p.num.natAbs*q.den<q.num.natAbs*p.den):qmk m2 (q.num.natAbs*p.den-p.num.natAbs*q.den) (p.den*q.den)=p+q:=by
 rw[m0C,h1,h2,l0q h hl];rfl
theorem m0A {p q:Rat}{m1 m2:Bool}(h1:decide (p.num<0)=m1)(h2:decide (q.num<0)=m2)(h:m1≠m2)(hl:q.num.natAbs*p.den≤p.num.natAbs*q.den):qmk m1 (p.num.natAbs*q.den-q.num.natAbs*p.den) (p.den*q.den)=p+q:=by
 rw[m0C,h1,h2,l0p h hl];rfl
theorem w0F (w:World)(v u:Value)(p q:Rat)(hp:IsQ .u64 w v p)(hq:IsQ .u64 w u q)
 (h1:(limbs p.num.natAbs).length≤100000) (h2:(limbs p.den).length≤100000) (h3:(limbs q.num.natAbs).length≤100000) (h4:(limbs q.den).length≤100000):
 Calls Tryz.prog 54 #[v,u] w fun e w'=>n0n .u64 (p+q) e w'∧Below w.heap.size w w':=by
 obtain⟨m1,hm1⟩:∃ m,decide (p.num<0)=m:=⟨_,rfl⟩;obtain⟨m2,hm2⟩:∃ m,decide (q.num<0)=m:=⟨_,rfl⟩;have s1:=fun (e:m1=m2)=>m0z (m:=m1) hm1 (hm2.trans e.symm)
 have s2:=m0B hm1 hm2;have s3:=m0A hm1 hm2;obtain⟨Q,hQ⟩:∃ Q,p+q=Q:=⟨_,rfl⟩;rw[hQ]at s1 s2 s3 ⊢;have hD:=hid (Nat.mul_pos p.den_pos q.den_pos);obtain⟨N1,D1,rfl,hn1,hd1⟩:=hp.ex;obtain⟨N2,D2,rfl,hn2,hd2⟩:=hq.ex;rw[hm1,hm2];clear hp hq hQ hm1 hm2;generalize p.num.natAbs=n1 at *
 generalize q.num.natAbs=n2 at *
 generalize p.den=d1 at *
 generalize q.den=d2 at *
 have S1:=hid s1;have S2:=hid s2;have S3:=hid s3;have HN1:=hid hn1;have HD1:=hid hd1;have HN2:=hid hn2;have HD2:=hid hd2;have lx:=d0W h1 h4;have ly:=d0W h3 h2;have ld:=d0W h2 h4;have LX:=hid (Nat.le_trans lx (show 100000+100000≤200000 by omega));have LY:=hid (Nat.le_trans ly (show 100000+100000≤200000 by omega));have LD:=hid (Nat.le_trans ld (show 100000+100000≤1000000 by omega));have LXY:=hid (Nat.le_trans (k0y lx ly) (show 100000+100000+(100000+100000)+1≤1000000 by omega));have H1:=hid (Nat.le_trans h1 (show 100000≤1000000 by omega));have H2:=hid (Nat.le_trans h2 (show 100000≤1000000 by omega));have H3:=hid (Nat.le_trans h3 (show 100000≤1000000 by omega));have H4:=hid (Nat.le_trans h4 (show 100000≤1000000 by omega));clear h1 h2 h3 h4 lx ly ld s1 s2 s3;obtain⟨a1,c1,rfl,_⟩:=hn1.openI;obtain⟨a2,c2,rfl,_⟩:=hd1.openI;obtain⟨a3,c3,rfl,_⟩:=hn2.openI;obtain⟨a4,c4,rfl,_⟩:=hd2.openI;clear hn1 hd1 hn2 hd2;go_enter Tryz.func54,Tryz.ntmps54;go_wp2_with fail;obtain⟨W,hW⟩:∃ W,((w.alloc (.cells #[.bool m1,.slice a1 (limbs n1).length c1,.slice a2 (limbs d1).length c2] 94)).alloc (.cells #[.bool m2,.slice a3 (limbs n2).length c3,.slice a4 (limbs d2).length c4] 94)).alloc (.cells #[.bool false,.slice none 0 0,.slice none 0 0] 94)=W:=⟨_,rfl⟩;have T:=hid (Three.mk' hW);rw[hW];clear hW;have hS:=T.out.cells (Below.refl _ _).drew;have B0:=hid (T.out.below.drew);have C0:=hid ((Below.refl W.heap.size W).drew);refine a0n [0,1,2,3,5,6,7,8] 4 (s0t w.heap.size m1 m2 (.slice a1 (limbs n1).length c1) (.slice a2 (limbs d1).length c2) (.slice a3 (limbs n2).length c3) (.slice a4 (limbs d2).length c4)) (by kernel_rfl) (by kernel_rfl) (by kernel_rfl) (by kernel_rfl) hS ?_
 iterate 8
  refine⟨_,rfl,?_⟩;apply Exists.intro
  refine⟨.inl ⟨by rfl,?_⟩,?_⟩
  ·(intro W' hW';obtain⟨q1,q2,q3,q4,q5,q6⟩:=hW';go_simp;try (with_reducible rfl))
  (dsimp only[Act.put];try simp only[List.setIfInBounds_toArray,List.set_cons_zero,List.set_cons_succ])
 clear hS;refine a0c (i:=4) (by kernel_rfl) (by rfl) (by rfl) ?_;go_wp2_with fail;refine (j0w _ _ _ n1 d2 (HN1.out.call B0.out) (HD2.out.call B0.out) H1.out H4.out).mono ?_;rintro e w1 ⟨⟨v1,rfl,hv1⟩,hb1⟩;have B1:=hid (B0.out.trans (hb1.mono B0.out.size));have C1:=hid (a0a C0.out hb1);have V1:=hid hv1;clear hb1 hv1;go_wp2_with fail;refine⟨T.out.cells C1.out,?_⟩;refine a0c (i:=9) (by kernel_rfl) (by rfl) (by rfl) ?_;go_wp2_with fail;refine (j0w _ _ _ n2 d1 (HN2.out.call B1.out) (HD1.out.call B1.out) H3.out H2.out).mono ?_;rintro e w2 ⟨⟨v2,rfl,hv2⟩,hb2⟩;have B2:=hid (B1.out.trans (hb2.mono B1.out.size));have C2:=hid (a0a C1.out hb2);have V2:=hid hv2;have W1:=hid (V1.out.call hb2);clear hb2 hv2;go_wp2_with fail;refine⟨T.out.cells C2.out,?_⟩;refine a0Z (is:=[10,11]) (g:=0) (by kernel_rfl) rfl (T.out.cells C2.out) (by kernel_rfl) ?_
 iterate 2
  refine⟨_,rfl,?_⟩;apply Exists.intro
  refine⟨.inl ⟨by rfl,?_⟩,?_⟩
  ·(intro W' hW';clear hW';go_simp;try (with_reducible rfl))
  (dsimp only[Act.put];try simp only[List.setIfInBounds_toArray,List.set_cons_zero,List.set_cons_succ])
 refine wpAnyH_done (by kernel_rfl) ?_ _;simp only[b0l];obtain⟨k0,k1,k2,k3,k4,k5⟩:=T.out.cells C2.out;go_wp2_with fail;refine (j0w _ _ _ d1 d2 (HD1.out.call B2.out) (HD2.out.call B2.out) H2.out H4.out).mono ?_;rintro e w3 ⟨⟨v3,rfl,hv3⟩,hb3⟩;have B3:=hid (B2.out.trans (hb3.mono B2.out.size));have C3:=hid (a0a C2.out hb3);have V3:=hid hv3;have X1:=hid (W1.out.call hb3);have X2:=hid (V2.out.call hb3);clear hb3 hv3 k0 k1 k2 k3 k4 k5;go_wp2_with fail;refine (m0S _ _ _ (n1*d2) (n2*d1) X1.out X2.out (Nat.le_trans LX.out (by omega))).mono ?_;rintro e w4 ⟨rfl,hb4⟩;have B4:=hid (B3.out.trans (hb4.mono B3.out.size));have C4:=hid (a0a C3.out hb4);have V4:=hid (V3.out.call hb4);have Y1:=hid (X1.out.call hb4);have Y2:=hid (X2.out.call hb4);clear hb4;obtain⟨k0,k1,k2,k3,k4,k5⟩:=T.out.cells C4.out;clear B0 B1 B2 B3 C0 C1 C2 C3 V1 V2 V3 W1 X1 X2;obtain⟨X,hX⟩:∃ X,n1*d2=X:=⟨_,rfl⟩;obtain⟨Y,hY⟩:∃ X,n2*d1=X:=⟨_,rfl⟩;obtain⟨E,hE⟩:∃ X,d1*d2=X:=⟨_,rfl⟩;rw[hX]at S1 S2 S3 LX LXY Y1 ⊢;rw[hY]at S1 S2 S3 LY LXY Y2 ⊢;rw[hE]at S1 S2 S3 LD V4 hD;clear hX hY hE;by_cases em:m1=m2
 ·have SA:=hid (S1.out em);subst em;have q0:(m1==m1)=true:=beq_self_eq_true m1;go_wp2_with fail;have hS:=T.out.cells C4.out.drew;have B0:=hid B4.out.drew;have C0:=hid C4.out.drew;refine a0n [0,1,2,3,5] 3 (s0t w.heap.size m1 m1 (.slice a1 (limbs n1).length c1) (.slice a2 (limbs d1).length c2) (.slice a3 (limbs n2).length c3) (.slice a4 (limbs d2).length c4)) (by kernel_rfl) (by kernel_rfl) (by kernel_rfl) (by kernel_rfl) hS ?_
  iterate 5
   refine⟨_,rfl,?_⟩;apply Exists.intro
   refine⟨.inl ⟨by rfl,?_⟩,?_⟩
   ·(intro W' hW';obtain⟨q1,q2,q3,q4,q5,q6⟩:=hW';go_simp;try (with_reducible rfl))
   (dsimp only[Act.put];try simp only[List.setIfInBounds_toArray,List.set_cons_zero,List.set_cons_succ])
  clear hS;refine a0c (i:=4) (by kernel_rfl) (by rfl) (by rfl) ?_;go_wp2_with fail;refine (w0m _ _ _ X Y (Y1.out.call (Below.refl _ _).drew) (Y2.out.call (Below.refl _ _).drew) (Nat.le_trans LX.out (by omega)) (Nat.le_trans LY.out (by omega))).mono ?_;rintro e w5 ⟨⟨v5,rfl,hv5⟩,hb5⟩;have B5:=hid (B0.out.trans (hb5.mono B0.out.size));have C5:=hid (C0.out.trans (hb5.mono C0.out.size));have V5:=hid hv5;have E5:=hid (V4.out.call (show Below w4.heap.size w4 w5 from (Below.refl _ _).drew.trans hb5));clear hb5 hv5;go_wp2_with fail;refine⟨T.out.cells C5.out,?_⟩;refine a0c (i:=6) (by kernel_rfl) (by rfl) (by rfl) ?_;go_wp2_with fail;refine (j0D _ _ _ _ (X+Y) E V5.out E5.out hD.out (LXY.out) LD.out).mono ?_;rintro e w6 ⟨⟨v3,rfl,hv3⟩,hb6⟩;rw[SA.out]at hv3;have B6:=hid (B5.out.trans (hb6.mono B5.out.size));have C6:=hid (C5.out.trans (hb6.mono C5.out.size));clear hb6;obtain⟨N3,D3,rfl,hN3,hD3⟩:=hv3.ex;obtain⟨a5,c5,rfl,_⟩:=hN3.openI;obtain⟨a6,c6,rfl,_⟩:=hD3.openI;obtain⟨k5,hk5⟩:∃ k,(limbs Q.num.natAbs).length=k:=⟨_,rfl⟩;obtain⟨k6,hk6⟩:∃ k,(limbs Q.den).length=k:=⟨_,rfl⟩;obtain⟨mq,hmq⟩:∃ m,decide (Q.num<0)=m:=⟨_,rfl⟩;rw[hk5]at hN3 ⊢;rw[hk6]at hD3 ⊢;rw[hmq];have HN3:=hid hN3;have HD3:=hid hD3;have HMQ:=hid hmq;have Z:=hid (T.out.b2.call C6.out);have t0:=Z.out.cell 0;have t1:=Z.out.cell 1;have t2:=Z.out.cell 2;have t3:=Z.out.free 0;have t4:=Z.out.free 1;have t5:=Z.out.free 2;simp at t0 t1 t2;clear hv3 hN3 hD3 hk5 hk6 hmq;go_wp2_with fail;refine⟨T.out.cells C6.out,?_⟩;refine a0c (i:=7) (by kernel_rfl) (by rfl) (by rfl) ?_;go_wp2_with fail;refine⟨T.out.stored C6.out _ _ _,?_⟩;refine wpAnyH_done (by kernel_rfl) ?_ _;simp only[b0l];obtain⟨s1,s2⟩:=c0c Z.out mq a5 a6 k5 c5 k6 c6;have f0:=s2.cell 0;have f1:=s2.cell 1;have f2:=s2.cell 2;simp at f0 f1 f2;clear t0 t1 t2 t3 t4 t5;go_wp2_with fail;refine bodyPost_ret (v:=.agg #[.bool mq,.slice a5 k5 c5,.slice a6 k6 c6]) (by simp[results,Tryz.results54,go_sem,f0,f1,f2]) rfl ⟨⟨_,rfl,⟨.slice a5 k5 c5,.slice a6 k6 c6,by rw[HMQ.out],s1 _ _ _ HN3.out,s1 _ _ _ HD3.out⟩⟩,?_⟩;exact ((B6.out.setCell (by simp;omega) _).setCell (by simp;omega) _).setCell (by simp;omega) _
 ·have q0:(m1==m2)=false:=by simpa using em
  have HE:=hid em;clear em;by_cases hc:X<Y
  ·have HC:=hid hc;rw[b0A hc];clear hc;go_wp2_with fail;have hS:=T.out.cells C4.out.drew;have B0:=hid B4.out.drew;have C0:=hid C4.out.drew;refine a0n [0,1,2,3,5] 3 (s0t w.heap.size m1 m2 (.slice a1 (limbs n1).length c1) (.slice a2 (limbs d1).length c2) (.slice a3 (limbs n2).length c3) (.slice a4 (limbs d2).length c4)) (by kernel_rfl) (by kernel_rfl) (by kernel_rfl) (by kernel_rfl) hS ?_
   iterate 5
    refine⟨_,rfl,?_⟩;apply Exists.intro
    refine⟨.inl ⟨by rfl,?_⟩,?_⟩
    ·(intro W' hW';obtain⟨q1,q2,q3,q4,q5,q6⟩:=hW';go_simp;try (with_reducible rfl))
    (dsimp only[Act.put];try simp only[List.setIfInBounds_toArray,List.set_cons_zero,List.set_cons_succ])
   clear hS;refine a0c (i:=4) (by kernel_rfl) (by rfl) (by rfl) ?_;go_wp2_with fail;refine (u0j _ _ _ Y X (Y2.out.call (Below.refl _ _).drew) (Y1.out.call (Below.refl _ _).drew) (Nat.le_of_lt HC.out) (Nat.le_trans LY.out (by omega))).mono ?_;rintro e w5 ⟨⟨v5,rfl,hv5⟩,hb5⟩;have B5:=hid (B0.out.trans (hb5.mono B0.out.size));have C5:=hid (C0.out.trans (hb5.mono C0.out.size));have V5:=hid hv5;have E5:=hid (V4.out.call (show Below w4.heap.size w4 w5 from (Below.refl _ _).drew.trans hb5));clear hb5 hv5;go_wp2_with fail;refine⟨T.out.cells C5.out,?_⟩;refine a0c (i:=6) (by kernel_rfl) (by rfl) (by rfl) ?_;go_wp2_with fail;refine (j0D _ _ _ _ (Y-X) E V5.out E5.out hD.out (Nat.le_trans (a0e (Nat.sub_le Y X)) (Nat.le_trans LY.out (by omega))) LD.out).mono ?_;rintro e w6 ⟨⟨v3,rfl,hv3⟩,hb6⟩;rw[S2.out HE.out HC.out]at hv3;have B6:=hid (B5.out.trans (hb6.mono B5.out.size));have C6:=hid (C5.out.trans (hb6.mono C5.out.size));clear hb6;obtain⟨N3,D3,rfl,hN3,hD3⟩:=hv3.ex;obtain⟨a5,c5,rfl,_⟩:=hN3.openI;obtain⟨a6,c6,rfl,_⟩:=hD3.openI;obtain⟨k5,hk5⟩:∃ k,(limbs Q.num.natAbs).length=k:=⟨_,rfl⟩;obtain⟨k6,hk6⟩:∃ k,(limbs Q.den).length=k:=⟨_,rfl⟩;obtain⟨mq,hmq⟩:∃ m,decide (Q.num<0)=m:=⟨_,rfl⟩;rw[hk5]at hN3 ⊢;rw[hk6]at hD3 ⊢;rw[hmq];have HN3:=hid hN3;have HD3:=hid hD3;have HMQ:=hid hmq;have Z:=hid (T.out.b2.call C6.out);have t0:=Z.out.cell 0;have t1:=Z.out.cell 1;have t2:=Z.out.cell 2;have t3:=Z.out.free 0;have t4:=Z.out.free 1;have t5:=Z.out.free 2;simp at t0 t1 t2;clear hv3 hN3 hD3 hk5 hk6 hmq;go_wp2_with fail;refine⟨T.out.cells C6.out,?_⟩;refine a0c (i:=7) (by kernel_rfl) (by rfl) (by rfl) ?_;go_wp2_with fail;refine⟨T.out.stored C6.out _ _ _,?_⟩;refine wpAnyH_done (by kernel_rfl) ?_ _;simp only[b0l];obtain⟨s1,s2⟩:=c0c Z.out mq a5 a6 k5 c5 k6 c6;have f0:=s2.cell 0;have f1:=s2.cell 1;have f2:=s2.cell 2;simp at f0 f1 f2;clear t0 t1 t2 t3 t4 t5;go_wp2_with fail;refine bodyPost_ret (v:=.agg #[.bool mq,.slice a5 k5 c5,.slice a6 k6 c6]) (by simp[results,Tryz.results54,go_sem,f0,f1,f2]) rfl ⟨⟨_,rfl,⟨.slice a5 k5 c5,.slice a6 k6 c6,by rw[HMQ.out],s1 _ _ _ HN3.out,s1 _ _ _ HD3.out⟩⟩,?_⟩;exact ((B6.out.setCell (by simp;omega) _).setCell (by simp;omega) _).setCell (by simp;omega) _
  ·have HC:=hid (show Y≤X by omega);have q1:decide (b0G X Y<0)=false:=by
    rcases Nat.lt_or_ge Y X with h | h
    ·rw[c0o h];rfl
    ·rw[show X=Y by omega,c0Z];rfl
   clear hc;go_wp2_with fail;have hS:=T.out.cells C4.out.drew;have B0:=hid B4.out.drew;have C0:=hid C4.out.drew;refine a0n [0,1,2,3,5] 3 (s0t w.heap.size m1 m2 (.slice a1 (limbs n1).length c1) (.slice a2 (limbs d1).length c2) (.slice a3 (limbs n2).length c3) (.slice a4 (limbs d2).length c4)) (by kernel_rfl) (by kernel_rfl) (by kernel_rfl) (by kernel_rfl) hS ?_
   iterate 5
    refine⟨_,rfl,?_⟩;apply Exists.intro
    refine⟨.inl ⟨by rfl,?_⟩,?_⟩
    ·(intro W' hW';obtain⟨q1,q2,q3,q4,q5,q6⟩:=hW';go_simp;try (with_reducible rfl))
    (dsimp only[Act.put];try simp only[List.setIfInBounds_toArray,List.set_cons_zero,List.set_cons_succ])
   clear hS;refine a0c (i:=4) (by kernel_rfl) (by rfl) (by rfl) ?_;go_wp2_with fail;refine (u0j _ _ _ X Y (Y1.out.call (Below.refl _ _).drew) (Y2.out.call (Below.refl _ _).drew) HC.out (Nat.le_trans LX.out (by omega))).mono ?_;rintro e w5 ⟨⟨v5,rfl,hv5⟩,hb5⟩;have B5:=hid (B0.out.trans (hb5.mono B0.out.size));have C5:=hid (C0.out.trans (hb5.mono C0.out.size));have V5:=hid hv5;have E5:=hid (V4.out.call (show Below w4.heap.size w4 w5 from (Below.refl _ _).drew.trans hb5));clear hb5 hv5;go_wp2_with fail;refine⟨T.out.cells C5.out,?_⟩;refine a0c (i:=6) (by kernel_rfl) (by rfl) (by rfl) ?_;go_wp2_with fail;refine (j0D _ _ _ _ (X-Y) E V5.out E5.out hD.out (Nat.le_trans (a0e (Nat.sub_le X Y)) (Nat.le_trans LX.out (by omega))) LD.out).mono ?_;rintro e w6 ⟨⟨v3,rfl,hv3⟩,hb6⟩;rw[S3.out HE.out HC.out]at hv3;have B6:=hid (B5.out.trans (hb6.mono B5.out.size));have C6:=hid (C5.out.trans (hb6.mono C5.out.size));clear hb6;obtain⟨N3,D3,rfl,hN3,hD3⟩:=hv3.ex;obtain⟨a5,c5,rfl,_⟩:=hN3.openI;obtain⟨a6,c6,rfl,_⟩:=hD3.openI;obtain⟨k5,hk5⟩:∃ k,(limbs Q.num.natAbs).length=k:=⟨_,rfl⟩;obtain⟨k6,hk6⟩:∃ k,(limbs Q.den).length=k:=⟨_,rfl⟩;obtain⟨mq,hmq⟩:∃ m,decide (Q.num<0)=m:=⟨_,rfl⟩;rw[hk5]at hN3 ⊢;rw[hk6]at hD3 ⊢;rw[hmq];have HN3:=hid hN3;have HD3:=hid hD3;have HMQ:=hid hmq;have Z:=hid (T.out.b2.call C6.out);have t0:=Z.out.cell 0;have t1:=Z.out.cell 1;have t2:=Z.out.cell 2;have t3:=Z.out.free 0;have t4:=Z.out.free 1;have t5:=Z.out.free 2;simp at t0 t1 t2;clear hv3 hN3 hD3 hk5 hk6 hmq;go_wp2_with fail;refine⟨T.out.cells C6.out,?_⟩;refine a0c (i:=7) (by kernel_rfl) (by rfl) (by rfl) ?_;go_wp2_with fail;refine⟨T.out.stored C6.out _ _ _,?_⟩;refine wpAnyH_done (by kernel_rfl) ?_ _;simp only[b0l];obtain⟨s1,s2⟩:=c0c Z.out mq a5 a6 k5 c5 k6 c6;have f0:=s2.cell 0;have f1:=s2.cell 1;have f2:=s2.cell 2;simp at f0 f1 f2;clear t0 t1 t2 t3 t4 t5;go_wp2_with fail;refine bodyPost_ret (v:=.agg #[.bool mq,.slice a5 k5 c5,.slice a6 k6 c6]) (by simp[results,Tryz.results54,go_sem,f0,f1,f2]) rfl ⟨⟨_,rfl,⟨.slice a5 k5 c5,.slice a6 k6 c6,by rw[HMQ.out],s1 _ _ _ HN3.out,s1 _ _ _ HD3.out⟩⟩,?_⟩;exact ((B6.out.setCell (by simp;omega) _).setCell (by simp;omega) _).setCell (by simp;omega) _
theorem x0x (w:World)(v u:Value)(p q:Rat)(hp:IsQ .u64 w v p)(hq:IsQ .u64 w u q)
 (h1:(limbs p.num.natAbs).length≤100000) (h2:(limbs p.den).length≤100000) (h3:(limbs q.num.natAbs).length≤100000) (h4:(limbs q.den).length≤100000):
 Calls Tryz.prog 161 #[v,u] w fun e w'=>n0n .u64 (p-q) e w'∧Below w.heap.size w w':=by
 have e1:p + -q=p-q:=(Rat.sub_eq_add_neg p q).symm;have F1:=fun V v h=>hid (x0y V v q h)
 have F2:=fun V v u hv hu=>hid (w0F V v u p (-q) hv hu h1 h2 (by rw[Rat.neg_num,Int.natAbs_neg];exact h3) (by rw[Rat.neg_den];exact h4))
 rw[e1]at F2;obtain⟨Q,hQ⟩:∃ Q,p-q=Q:=⟨_,rfl⟩;rw[hQ]at F2 ⊢;have HP:=hid hp;have HQ':=hid hq;obtain⟨N1,D1,rfl,hn1,hd1⟩:=hp.ex;obtain⟨N2,D2,rfl,hn2,hd2⟩:=hq.ex;obtain⟨a1,c1,rfl,_⟩:=hn1.openI;obtain⟨a2,c2,rfl,_⟩:=hd1.openI;obtain⟨a3,c3,rfl,_⟩:=hn2.openI;obtain⟨a4,c4,rfl,_⟩:=hd2.openI;clear hp hq hQ e1 hn1 hd1 hn2 hd2 h1 h2 h3 h4;obtain⟨m1,hm1⟩:∃ m,decide (p.num<0)=m:=⟨_,rfl⟩;obtain⟨m2,hm2⟩:∃ m,decide (q.num<0)=m:=⟨_,rfl⟩;obtain⟨l1,hl1⟩:∃ m,(limbs p.num.natAbs).length=m:=⟨_,rfl⟩;obtain⟨l2,hl2⟩:∃ m,(limbs p.den).length=m:=⟨_,rfl⟩;obtain⟨l3,hl3⟩:∃ m,(limbs q.num.natAbs).length=m:=⟨_,rfl⟩;obtain⟨l4,hl4⟩:∃ m,(limbs q.den).length=m:=⟨_,rfl⟩;rw[hm1,hl1,hl2]at HP;rw[hm2,hl3,hl4]at HQ';rw[hm1,hm2,hl1,hl2,hl3,hl4];clear hm1 hm2 hl1 hl2 hl3 hl4;go_enter Tryz.func161,Tryz.ntmps161;go_wp2_with fail;obtain⟨W,hW⟩:∃ W,((w.alloc (.cells #[.bool m1,.slice a1 l1 c1,.slice a2 l2 c2] 94)).alloc (.cells #[.bool m2,.slice a3 l3 c3,.slice a4 l4 c4] 94)).alloc (.cells #[.bool false,.slice none 0 0,.slice none 0 0] 94)=W:=⟨_,rfl⟩;have T:=hid (Three.mk' hW);rw[hW];clear hW;have hS:=T.out.cells (Below.refl _ _).drew;have B0:=hid (T.out.below.drew);have C0:=hid ((Below.refl W.heap.size W).drew);refine a0n [0,1] 3 (s0t w.heap.size m1 m2 (.slice a1 l1 c1) (.slice a2 l2 c2) (.slice a3 l3 c3) (.slice a4 l4 c4)) (by kernel_rfl) (by kernel_rfl) (by kernel_rfl) (by kernel_rfl) hS ?_
 iterate 2
  refine⟨_,rfl,?_⟩;apply Exists.intro
  refine⟨.inl ⟨by rfl,?_⟩,?_⟩
  ·(intro W' hW';obtain⟨q1,q2,q3,q4,q5,q6⟩:=hW';go_simp;try (with_reducible rfl))
  (dsimp only[Act.put];try simp only[List.setIfInBounds_toArray,List.set_cons_zero,List.set_cons_succ])
 clear hS;refine a0c (i:=2) (by kernel_rfl) (by rfl) (by rfl) ?_;go_wp2_with fail;refine (F1 _ _ (HQ'.out.call B0.out)).out.mono ?_;rintro e w1 ⟨⟨v1,rfl,hv1⟩,hb1⟩;have B1:=hid (B0.out.trans (hb1.mono B0.out.size));have C1:=hid (a0a C0.out hb1);have V1:=hid hv1;clear hb1 hv1;go_wp2_with fail;refine⟨T.out.cells C1.out,?_⟩;refine a0c (i:=3) (by kernel_rfl) (by rfl) (by rfl) ?_;go_wp2_with fail;refine (F2 _ _ _ (HP.out.call B1.out) V1.out).out.mono ?_;rintro e w3 ⟨⟨v3,rfl,hv3⟩,hb3⟩;have B3:=hid (B1.out.trans (hb3.mono B1.out.size));have C3:=hid (a0a C1.out hb3);clear hb3;obtain⟨N3,D3,rfl,hN3,hD3⟩:=hv3.ex;obtain⟨a5,c5,rfl,_⟩:=hN3.openI;obtain⟨a6,c6,rfl,_⟩:=hD3.openI;obtain⟨k5,hk5⟩:∃ k,(limbs Q.num.natAbs).length=k:=⟨_,rfl⟩;obtain⟨k6,hk6⟩:∃ k,(limbs Q.den).length=k:=⟨_,rfl⟩;obtain⟨mq,hmq⟩:∃ m,decide (Q.num<0)=m:=⟨_,rfl⟩;rw[hk5]at hN3 ⊢;rw[hk6]at hD3 ⊢;rw[hmq];have HN3:=hid hN3;have HD3:=hid hD3;have HMQ:=hid hmq;have Z:=hid (T.out.b2.call C3.out);have t0:=Z.out.cell 0;have t1:=Z.out.cell 1;have t2:=Z.out.cell 2;have t3:=Z.out.free 0;have t4:=Z.out.free 1;have t5:=Z.out.free 2;simp at t0 t1 t2;clear hv3 hN3 hD3 hk5 hk6 hmq;go_wp2_with fail;refine⟨T.out.cells C3.out,?_⟩;refine a0c (i:=4) (by kernel_rfl) (by rfl) (by rfl) ?_;go_wp2_with fail;refine⟨T.out.stored C3.out _ _ _,?_⟩;refine wpAnyH_done (by kernel_rfl) ?_ _;simp only[b0l];obtain⟨s1,s2⟩:=c0c Z.out mq a5 a6 k5 c5 k6 c6;have f0:=s2.cell 0;have f1:=s2.cell 1;have f2:=s2.cell 2;simp at f0 f1 f2;clear t0 t1 t2 t3 t4 t5;go_wp2_with fail;refine bodyPost_ret (v:=.agg #[.bool mq,.slice a5 k5 c5,.slice a6 k6 c6]) (by simp[results,Tryz.results161,go_sem,f0,f1,f2]) rfl ⟨⟨_,rfl,⟨.slice a5 k5 c5,.slice a6 k6 c6,by rw[HMQ.out],s1 _ _ _ HN3.out,s1 _ _ _ HD3.out⟩⟩,?_⟩;exact ((B3.out.setCell (by simp;omega) _).setCell (by simp;omega) _).setCell (by simp;omega) _
open Go.Shelf
open Go.Lib (decDigits nDigits)
theorem o0s (w:World)(s t:ByteArray)(F:Nat)(R:ByteArray)(x:Int)(hs:s.size≤1000000)(ht:t.size≤1000000)(hL:Lay w)
 (hen:∀ args w,(callFunc F args).run Tryz.prog w=.ok (.enter F args) w)
 (hF:∀ W v u,qE s=0→qE t=0→IsQ .u64 W v (vQ s)→IsQ .u64 W u (vQ t)→Lay W→Calls Tryz.prog F #[v,u] W fun e w'=>e=.returned (.tuple #[.string R,.int .i64 x])∧Below W.heap.size W w'):
 Calls Tryz.prog 137 #[.string s,.string t,.func (.func F) #[] #[]] w fun e w'=>e=.returned (.tuple #[.string (tB R s t),.int .i64 (tE x s t)])∧Below w.heap.size w w':=by
 have HF:=hid hF;have HL:=hid hL;have HEN:=hid hen;have HT:=hid ht;have b1:=hid ((Below.refl w.heap.size w).alloc (Nat.le_refl _) (.cells #[.string t] 22));obtain⟨w1,hw1⟩:∃ w1,w.alloc (.cells #[.string t] 22)=w1:=⟨_,rfl⟩;obtain⟨g1,hg1⟩:∃ g,w.heap.size=g:=⟨_,rfl⟩;have X1:=hid (Blk.new w #[.string t] 22);rw[hw1]at b1;rw[hw1,hg1]at X1;have b2:=hid ((Below.refl w1.heap.size w1).alloc (Nat.le_refl _) (.cells #[.func (.func F) #[] #[]] 162));obtain⟨w2,hw2⟩:∃ w2,w1.alloc (.cells #[.func (.func F) #[] #[]] 162)=w2:=⟨_,rfl⟩;have X2:=hid (Blk.new w1 #[.func (.func F) #[] #[]] 162);have X12:=hid (X1.out.call b2.out);have y2:=hid (a0a b1.out b2.out);have hg2:w1.heap.size=g1+1:=by rw[← hw1,← hg1];simp
 rw[hw2]at b2 X12 y2;rw[hw2,hg2]at X2;have L2:=hid (HL.out.call y2.out);have W2:=hid (l0z w2 s 202 #[.pointer (some ⟨g1,0,none⟩),.pointer (some ⟨g1+1,0,none⟩)] (wB R t) (wE x t) hs L2.out (enters_of Tryz.func202 (by kernel_rfl) rfl)
  (fun W v hq hb hv hLW=>by
   have hX1:=(X12.out.call hb).cell 0;have hX2:=(X2.out.call hb).cell 0;exact t0R W v t (vQ s) F g1 (g1+1) R x HT.out hv hLW HEN.out hX1 hX2 (fun W v u h0 h1 h2 h3=>HF.out W v u hq h0 h1 h2 h3)))
 have HW1:=hid hw1;have HW2:=hid hw2;have HG1:=hid hg1;clear hF hL hen hs ht hw1 hw2 hg1 hg2 b1;go_enter Tryz.func137,Tryz.ntmps137;go_wp2_with fail;have hw1:=HW1.out;have hw2:=HW2.out;have hg1:=HG1.out;rw[hw1,hg1,hw2];refine W2.out.mono ?_;rintro e w3 ⟨rfl,hb3⟩;have y3:=hid (a0a y2.out hb3);clear hb3 hw1 hw2 hg1;go_wp2_with fail;go_ret2
 exact⟨rfl,by have:=y3.out;exact this⟩
end Go.Proofs.YtlmnpocifldpmaaGreatDoor
