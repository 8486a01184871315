/- Texts that the proof rests on, merged: So7, Ls0, So17, So12, So13. -/
import Derived.Test.YtlimaehdmcnjaaaGreatDoorMg10
import Derived.Scope
set_option linter.unusedVariables false
set_option linter.unusedSimpArgs false
set_option linter.unusedSectionVars false
set_option maxRecDepth 100000
set_option maxHeartbeats 8000000
namespace Go.Proofs.YtlimaehdmcnjaaaGreatDoor
open Go.RowKit
open Go.Shelf
open Go.Lib (decDigits nDigits)
theorem b0B {P:Program}{ops:Array Oper}{Q:Exit→Act→World→Prop}{md:Region.Mode}{S:World→Prop}{i j k:Nat}{oi oj ok:Oper}{fuel:Nat}{listed:Array Bool}{a:Act}{w:World}(hr:Region.ready md ops listed = [i,j,k])(hi:ops[i]?=some oi)(hj:ops[j]?=some oj)(hk:ops[k]?=some ok)(hgi:oi.guard=none)(hgj:oj.guard=none)(hgk:ok.guard=none)
 (h1:wpList P ops (d0W P md ops (a0o Q) S fuel (listed.setIfInBounds i true)) [oi] a w)
 (h2:wpList P ops (d0W P md ops (a0o Q) S fuel (listed.setIfInBounds j true)) [oj] a w)
 (h3:wpList P ops (d0W P md ops (a0o Q) S fuel (listed.setIfInBounds k true)) [ok] a w):wpAnyH P md ops (a0o Q) S (fuel+1) listed a w:=by
 refine wpAnyH_all hr (by simp) fun m hm=>?_
 rcases List.mem_cons.1 hm with rfl | hm
 ·exact c0a hi hgi h1
 ·rcases List.mem_cons.1 hm with rfl | hm
  ·exact c0a hj hgj h2
  ·obtain rfl:m=k:=by simpa using hm
   exact c0a hk hgk h3
theorem f0f {q:Rat}:sgQ q<0↔q<0:=by
 have h:sgQ q=i0p q:=rfl;rcases d0w q with ⟨h1,h2⟩ | ⟨h1,h2⟩ | ⟨h1,h2⟩
 ·rw[h,h2];exact⟨fun e=>by omega,fun e=>by exfalso;grind⟩
 ·rw[h,h2];exact⟨fun e=>by omega,fun e=>by exfalso;grind⟩
 ·rw[h,h2];exact⟨fun _=>h1,fun _=>by omega⟩
theorem VRow.otherB {B g n c:Nat}{W W':World}{qs:List Rat}(h:VRow B W (.slice (some ⟨g,0,none⟩) n c) qs)(hk:KeepK .u64 W W')(hb:W'.heap[g]?=W.heap[g]?):VRow B W' (.slice (some ⟨g,0,none⟩) n c) qs:=by
 obtain⟨cs,h1,h2⟩:=h.ex
 exact⟨cs,h1.keep fun g' hg'=>(by obtain rfl:g=g':=(by simpa[Value.ownBlock]using hg');exact hb),h2.keep hk⟩
theorem VRow.keepGrown {B g n c:Nat}{W W':World}{qs:List Rat}(h:VRow B W (.slice (some ⟨g,0,none⟩) n c) qs)(hg:W.grownBy W' (some g)):KeepK .u64 W W':=by
 obtain⟨cs,h1,h2⟩:=h.ex;obtain⟨cur,h3,h4⟩:=h1.nok g rfl;exact KeepK.grown h3 h4 hg
structure SxI (w W:World)(gv gd g7 g10 g11 N cv cd:Nat)(qs ds:List Rat)(t A S:Rat):Prop where
 v:VRow w.heap.size W (.slice (some ⟨gv,0,none⟩) N cv) qs
 d:VRow w.heap.size W (.slice (some ⟨gd,0,none⟩) N cd) ds
 t:FB W g7 t
 a:FB W g10 A
 s:FB W g11 S
 b:Below w.heap.size w W
 n10:w.heap.size≤g10∧gv≠g10∧gd≠g10∧g7≠g10∧g11≠g10
 n11:w.heap.size≤g11∧gv≠g11∧gd≠g11∧g7≠g11∧g10≠g11
theorem SxI.call {w W W':World}{gv gd g7 g10 g11 N cv cd:Nat}{qs ds:List Rat}{t A S:Rat}(h:SxI w W gv gd g7 g10 g11 N cv cd qs ds t A S)(hb:Below W.heap.size W W'):SxI w W' gv gd g7 g10 g11 N cv cd qs ds t A S:=
 ⟨h.v.call hb,h.d.call hb,h.t.call hb,h.a.call hb,h.s.call hb,a0a h.b hb,h.n10,h.n11⟩
theorem SxI.putS {w W:World}{gv gd g7 g10 g11 N cv cd:Nat}{qs ds:List Rat}{t A S S':Rat}(h:SxI w W gv gd g7 g10 g11 N cv cd qs ds t A S){m0:Bool}{a0 b0:Option Addr}{n0 c0 n1 c1:Nat}(hb:Blk W g11 #[.bool m0,.slice a0 n0 c0,.slice b0 n1 c1] 57){m:Bool}{a a':Option Addr}{n c n' c':Nat}(hq:IsQ .u64 W (.agg #[.bool m,.slice a n c,.slice a' n' c']) S'):
 SxI w (((W.setCell ⟨g11,0,none⟩ (.bool m)).setCell ⟨g11,1,none⟩ (.slice a n c)).setCell ⟨g11,2,none⟩ (.slice a' n' c')) gv gd g7 g10 g11 N cv cd qs ds t A S':=by
 have k:=a0X hb m a a' n c n' c';obtain⟨h0,h1,h2,h3,h4⟩:=h.n11;exact⟨h.v.otherB k (a0g _ _ _ _ _ h1),h.d.otherB k (a0g _ _ _ _ _ h2),h.t.keep k (a0g _ _ _ _ _ h3),h.a.keep k (a0g _ _ _ _ _ h4),FB.put hb hq,((h.b.setCell (p:=⟨g11,0,none⟩) h0 _).setCell (p:=⟨g11,1,none⟩) h0 _).setCell (p:=⟨g11,2,none⟩) h0 _,h.n10,h.n11⟩
theorem SxI.putA {w W:World}{gv gd g7 g10 g11 N cv cd:Nat}{qs ds:List Rat}{t A S A':Rat}(h:SxI w W gv gd g7 g10 g11 N cv cd qs ds t A S){m0:Bool}{a0 b0:Option Addr}{n0 c0 n1 c1:Nat}(hb:Blk W g10 #[.bool m0,.slice a0 n0 c0,.slice b0 n1 c1] 57){m:Bool}{a a':Option Addr}{n c n' c':Nat}(hq:IsQ .u64 W (.agg #[.bool m,.slice a n c,.slice a' n' c']) A'):
 SxI w (((W.setCell ⟨g10,0,none⟩ (.bool m)).setCell ⟨g10,1,none⟩ (.slice a n c)).setCell ⟨g10,2,none⟩ (.slice a' n' c')) gv gd g7 g10 g11 N cv cd qs ds t A' S:=by
 have k:=a0X hb m a a' n c n' c';obtain⟨h0,h1,h2,h3,h4⟩:=h.n10;exact⟨h.v.otherB k (a0g _ _ _ _ _ h1),h.d.otherB k (a0g _ _ _ _ _ h2),h.t.keep k (a0g _ _ _ _ _ h3),FB.put hb hq,h.s.keep k (a0g _ _ _ _ _ h4),((h.b.setCell (p:=⟨g10,0,none⟩) h0 _).setCell (p:=⟨g10,1,none⟩) h0 _).setCell (p:=⟨g10,2,none⟩) h0 _,h.n10,h.n11⟩
theorem k0w {t:Rat}(dt:Dig 4000 t):∀ (r:List Rat) (k:Nat) (S A:Rat) (n:Nat),(∀ q∈r,Dig 4000 q)→k+r.length≤12→Dig (4001*k+1) S→Dig 305000 A→Dig 305000 (smA t k S A r)
 | [],k,S,A,n,_,_,_,hA=>by rw[smA];exact hA
 | x::r,k,S,A,n,hr,hk,hS,hA=>by
  rw[smA];rw[List.length_cons]at hk
  split
  ·exact hA
  ·have dS:Dig (4001*(k+1)+1) (S+x):=(e0Q hS (hr x (by simp))).up (by omega);have dK:Dig 2 ((k+1:Nat):Rat):=⟨by rw[Rat.num_natCast];simp;omega,by rw[Rat.den_natCast];omega⟩;refine k0w dt r (k+1) _ _ n (fun q hq=>hr q (by simp[hq])) (by omega) dS ?_;rw[Rat.div_def];exact (g0i (c0o dS dt) (e0P (b0N (by omega)) dK)).up (by omega)
theorem o0b (w:World)(v:Value)(l:List ByteArray)(t:ByteArray)(hv:Row w v (a0T l))(hs:∀ s∈l,s.size≤1000000)(ht:t.size≤1000000)(hL:Lay w)(h0:¬ btE l t=0∨vQ t<0):
 Calls Tryz.prog 12 #[v,.string t] w fun e w'=>(∃ u,e=.returned (.tuple #[u,.int .i64 (smE l t)])∧Row w' u (a0T (smR l t)))∧Below w.heap.size w w':=by
 have HB:=hid (k0A w v l t hv hs ht hL);have HL:=hid hL;obtain⟨a,c,rfl,-,-,-⟩:=hv.openS;obtain⟨N,hN⟩:∃ n,l.length=n:=⟨_,rfl⟩;rw[hN]at HB ⊢;by_cases h1:btE l t=0
 case neg=>
  have e1:smE l t=btE l t:=by unfold smE;rw[if_neg h1]
  have e2:smR l t = []:=by unfold smR;rw[if_neg h1]
  have t2:(btE l t==0)=false:=by simpa using h1
  have t3:(btE l t != 0)=true:=by simpa using h1
  rw[e1,e2];obtain⟨E,hE⟩:∃ x,btE l t=x:=⟨_,rfl⟩;rw[hE]at HB t2 t3 ⊢;clear hv hs hL hN h0 h1 hE e1 e2 ht;go_enter Tryz.func12,Tryz.ntmps12;go_wp2_with fail;refine wp_scope_straight ?_;go_wp2_with fail;refine HB.out.mono ?_;rintro e w1 ⟨⟨u,f,rfl,⟨m1,a1,n1,c1,a2,n2,c2,rfl⟩,-⟩,hb1⟩;have y1:=hid hb1;have y2:=hid (y1.out.alloc y1.out.size (.cells #[.bool m1,.slice a1 n1 c1,.slice a2 n2 c2] 57));clear hb1;go_wp2_with fail
  try rw[Exit.noGoto_ret]
  go_ret2
  exact⟨⟨.slice none 0 0,rfl,Row.nil _⟩,y2.out⟩
 case pos=>
  have hneg:vQ t<0:=h0.resolve_left fun h=>h h1
  have e1:smE l t=2:=by unfold smE;rw[if_pos h1,if_pos hneg]
  have e2:smR l t = []:=by unfold smR;rw[if_pos h1,if_pos hneg]
  rw[e1,e2];rw[h1]at HB;have t9:decide (sgQ (vQ t)<0)=true:=decide_eq_true (f0f.2 hneg);obtain⟨tt,htt⟩:∃ x,vQ t=x:=⟨_,rfl⟩;rw[htt]at HB t9;have HSG:=fun V v hv=>hid (i0T V v tt hv)
  obtain⟨sz,hsz⟩:∃ s,sgQ tt=s:=⟨_,rfl⟩;rw[hsz]at HSG t9;clear hv hs hL hN h0 h1 e1 e2 ht hneg htt hsz;go_enter Tryz.func12,Tryz.ntmps12;go_wp2_with fail;refine wp_scope_straight ?_;go_wp2_with fail;refine HB.out.mono ?_;rintro e w1 ⟨⟨u,f,rfl,⟨m1,a1,n1,c1,a2,n2,c2,rfl⟩,hu⟩,hb1⟩;obtain⟨hu1,hu2⟩:=hu (by simp);obtain⟨av,cv,rfl,-,-⟩:=hu1.slice;have A1:=hid ((Below.refl w1.heap.size w1).alloc (Nat.le_refl _) (.cells #[.bool m1,.slice a1 n1 c1,.slice a2 n2 c2] 57));have y2:=hid (a0a hb1 A1.out);have QT:=hid (hu2.call A1.out);clear hb1 hu hu1 hu2;go_wp2_with fail;refine (HSG _ _ QT.out).out.mono ?_;rintro e w3 ⟨rfl,hb3⟩;have y3:=hid (a0a y2.out hb3);clear hb3;go_wp2_with fail
  try rw[Exit.noGoto_ret]
  go_ret2
  exact⟨⟨.slice none 0 0,rfl,Row.nil _⟩,y3.out⟩
theorem o0F (w:World)(v:Value)(l:List ByteArray)(t:ByteArray)(hv:Row w v (a0T l))(hs:∀ s∈l,s.size≤1000000)(ht:t.size≤1000000)(hL:Lay w)(h0:btE l t=0)(hpos:¬ vQ t<0)(h12:l.length≤12):
 Calls Tryz.prog 12 #[v,.string t] w fun e w'=>(∃ u,e=.returned (.tuple #[u,.int .i64 (smE l t)])∧Row w' u (a0T (smR l t)))∧Below w.heap.size w w':=by
 have HB:=hid (k0A w v l t hv hs ht hL);have HL:=hid hL;obtain⟨a,c,rfl,-,-,-⟩:=hv.openS;obtain⟨N,hN⟩:∃ n,l.length=n:=⟨_,rfl⟩;rw[hN]at HB ⊢;have hve:a0O l=0:=by
  unfold btE at h0
  split at h0
  ·assumption
  ·rename_i h1;exact absurd h0 h1
 have hqt:qE t=0:=by unfold btE at h0;rw[if_pos hve]at h0;exact h0
 have e1:smE l t=wrE (smQ (l.map vQ) (vQ t)):=by unfold smE;rw[if_pos h0,if_neg hpos]
 have e2:smR l t=wrL (smQ (l.map vQ) (vQ t)):=by unfold smR;rw[if_pos h0,if_neg hpos]
 obtain⟨g1,g2,-⟩:=c0e hve;have hdq:=e0O hve;have hlen:(l.map vQ).length=N:=by rw[List.length_map,hN]
 rw[e1,e2];rw[h0]at HB;obtain⟨qs,hqs⟩:∃ qs,l.map vQ=qs:=⟨_,rfl⟩;have t9:decide (sgQ (vQ t)<0)=false:=decide_eq_false fun e=>hpos (f0f.1 e)
 obtain⟨tt,htt⟩:∃ x,vQ t=x:=⟨_,rfl⟩;have dt:Dig 4000 tt:=by rw[← htt];exact i0Y hqt
 rw[hqs,htt]at HB ⊢;rw[htt]at t9;rw[hqs]at hdq hlen;obtain⟨ds,hds⟩:∃ ds,a0r idR qs=ds:=⟨_,rfl⟩;have hperm:ds.Perm qs:=by rw[← hds];exact a0I idR qs
 have hdl:ds.length=N:=by rw[hperm.length_eq,hlen]
 have hdd:∀ q∈ds,Dig 4000 q:=fun q hq=>hdq q (hperm.mem_iff.1 hq)
 obtain⟨d0,hd0⟩:∃ q,ds[0]?=some q:=⟨_,List.getElem?_eq_getElem (by omega)⟩;have hhd:ds.headD 0=d0:=by
  cases ds with
  | nil=>simp at hd0
  | cons x r=>simp at hd0;simp[hd0]
 have dd0:Dig 4000 d0:=hdd d0 (List.mem_of_getElem? hd0);have dA0:Dig 305000 (d0-tt):=(c0o dd0 dt).up (by omega);obtain⟨AM,hAM⟩:∃ x,smA tt 0 0 (d0-tt) ds=x:=⟨_,rfl⟩;have dAM:Dig 305000 AM:=by rw[← hAM];exact k0w dt ds 0 0 _ 0 hdd (by omega) (e0N.up (by omega)) dA0
 have hX:smQ qs tt=qs.map fun x=>pos (x-AM):=by
  unfold smQ smL;rw[show a0r (fun q=>q) qs=ds from hds,hhd,hAM]
 rw[hX];obtain⟨X,hXX⟩:∃ X,qs.map (fun x=>pos (x-AM))=X:=⟨_,rfl⟩;have hXl:X.length=qs.length:=by rw[← hXX,List.length_map]
 have HXat:=hid (fun (i:Nat) (q:Rat) (h:qs[i]?=some q)=>show X[i]?=some (pos (q-AM)) by rw[← hXX,List.getElem?_map,h];rfl)
 have HLX:=hid (fun (q:Rat) (h:q∈X)=>show Lim q by
  rw[← hXX]at h;obtain⟨p,hp,rfl⟩:=List.mem_map.1 h;unfold pos
  split
  ·exact Lim.of e0N (by omega)
  ·exact Lim.of ((c0o (hdq p hp) dAM).up (L:=310000) (by omega)) (by omega))
 have lAM:=Lim.of dAM (by omega);have HSB:=fun V v u q (hq:q∈qs) hv hu=>hid (j0O V v u q AM hv hu (Lim.of (hdq q hq) (by omega)).1 (Lim.of (hdq q hq) (by omega)).2 lAM.1 lAM.2)
 have HWR:=fun V v h hV=>hid (h0q V w.heap.size v X h (by omega) HLX.out hV)
 have HSG:=fun V v q hv=>hid (i0T V v q hv)
 have HZr:=fun V=>hid (l0L V)
 have lt:=Lim.of dt (by omega);have ld0:=Lim.of dd0 (by omega);have HSb0:=fun V v u hv hu=>hid (j0O V v u d0 tt hv hu ld0.1 ld0.2 lt.1 lt.2)
 have HCl:=fun V v h=>hid (o0R V w.heap.size v qs h (by omega) (by omega))
 have HSo:=fun V B g c h=>hid (o0Q V B g c qs N hlen h (by omega) (fun q hq=>Lim.of (hdq q hq) (by omega)))
 rw[hds]at HSo
 have HLS:=hid (fun (i:Nat)=>show Lim (rs (ds.take i))∧Lim (rs (ds.take i)-tt) from
  have h1:Dig 300000 (rs (ds.take i)):=(d0P (K:=4000) fun q hq=>hdd q (List.mem_of_mem_take hq)).up (by have h:=List.length_take (i:=i) (l:=ds);omega)
  ⟨Lim.of h1 (by omega),Lim.of ((c0o h1 dt).up (L:=304001) (by omega)) (by omega)⟩)
 have HLD:=hid (fun (x:Rat) (h:x∈ds)=>Lim.of (hdd x h) (by omega))
 have HLR:=hid (fun (i:Nat)=>show Lim ((rs (ds.take (i+1))-tt) / ((i+1:Nat):Rat))∨12<i from by
  by_cases hi:12<i
  ·exact .inr hi
  ·refine .inl (Lim.of (K:=304003) ?_ (by omega));have h1:Dig 300000 (rs (ds.take (i+1))):=(d0P (K:=4000) fun q hq=>hdd q (List.mem_of_mem_take hq)).up (by have h:=List.length_take (i:=i+1) (l:=ds);omega);have dK:Dig 2 ((i+1:Nat):Rat):=⟨by rw[Rat.num_natCast];simp;omega,by rw[Rat.den_natCast];omega⟩;rw[Rat.div_def];exact (g0i (c0o h1 dt) (e0P (b0N (by omega)) dK)).up (by omega))
 have LTT:=hid lt;rw[hXX];have HXl:=hid hXl;have HN:=hid hlen;have HNN:=hid (show 0<N∧N≤12 by omega);have HDL:=hid hdl;have HD0:=hid hd0;have HAM:=hid hAM;clear hv hs hL hN h0 e1 e2 ht hve hqt g1 g2 hdq hlen hqs htt dt hds hperm hdl hdd hd0 hhd dd0 dA0 hAM dAM hX hXX hXl lAM lt ld0 hpos h12;go_enter Tryz.func12,Tryz.ntmps12;go_wp2_with fail;refine wp_scope_straight ?_;go_wp2_with fail;refine HB.out.mono ?_;rintro e w1 ⟨⟨u,f,rfl,⟨m1,a1,n1,c1,a2,n2,c2,rfl⟩,hu⟩,hb1⟩;obtain⟨hu1,hu2⟩:=hu (by simp);obtain⟨av,cv,rfl,-,-⟩:=hu1.slice;obtain⟨q0,hq0⟩:∃ q,qs[0]?=some q:=⟨_,List.getElem?_eq_getElem (by rw[HN.out];exact HNN.out.1)⟩;obtain⟨gv,-,-,-,-,-,-,-,rfl,hgB,hgv,-⟩:=hu1.at hq0;rw[HN.out]at hu1 ⊢;have A1:=hid ((Below.refl w1.heap.size w1).alloc (Nat.le_refl _) (.cells #[.bool m1,.slice a1 n1 c1,.slice a2 n2 c2] 57));have y1:=hid (a0a hb1 A1.out);have RV1:=hid (hu1.call A1.out);have QT1:=hid (hu2.call A1.out);have XT1:=hid (Blk.new w1 #[.bool m1,.slice a1 n1 c1,.slice a2 n2 c2] 57);have G7:=hid hgv;have HGB:=hid hgB;clear hb1 hu hu1 hu2 hq0 hgv hgB;go_wp2_with fail;refine (HSG _ _ tt QT1.out).out.mono ?_;rintro e w2 ⟨rfl,hb2⟩;obtain⟨g7,hg7⟩:∃ g,w1.heap.size=g:=⟨_,rfl⟩;rw[hg7]at XT1 G7;have y2:=hid (a0a y1.out hb2);have RV2:=hid (RV1.out.call hb2);have QT2:=hid (QT1.out.call hb2);have XT2:=hid (XT1.out.call hb2);clear hb2 y1 RV1 QT1 XT1 A1;go_wp2_with fail;refine (HCl _ _ RV2.out).out.mono ?_;rintro e w3 ⟨⟨u3,rfl,hu3⟩,hb3⟩;obtain⟨ad,cd,rfl,-,-⟩:=hu3.slice;obtain⟨q0,hq0⟩:∃ q,qs[0]?=some q:=⟨_,List.getElem?_eq_getElem (by rw[HN.out];exact HNN.out.1)⟩;obtain⟨gd,-,-,-,-,-,-,-,rfl,hgd,hgd2,-⟩:=hu3.at hq0;rw[HN.out]at hu3 ⊢;have HW2:=hid (show w.heap.size≤w2.heap.size from y2.out.size);have G8:=hid (show g7<gd by have:=XT2.out.lt;omega);have GDW:=hid (show w.heap.size≤gd by have:=y2.out.size;omega);have y3:=hid (a0a y2.out hb3);have RV3:=hid (RV2.out.call hb3);have QT3:=hid (QT2.out.call hb3);have XT3:=hid (XT2.out.call hb3);have RD3:=hid hu3;clear hb3 y2 RV2 QT2 XT2 hq0 hgd hgd2 hu3;go_wp2_with fail;refine (HSo _ _ _ _ RD3.out).out.mono ?_;rintro e W ⟨rfl,hd4,hg4⟩;have kg:=RD3.out.keepGrown hg4;have RV:=hid (RV3.out.otherB kg (hg4.block gv (by have:=RD3.out;have:=XT3.out.lt;have:=G7.out;omega) (fun e=>by have:=G7.out;have:=G8.out;injection e with e;omega)));have QT:=hid (kg.isQ QT3.out);have XT:=hid (show Blk W g7 #[.bool m1,.slice a1 n1 c1,.slice a2 n2 c2] 57 from (hg4.block g7 XT3.out.lt (fun e=>by have:=G8.out;injection e with e;omega)).trans XT3.out);have RD:=hid (hd4.low (C:=w.heap.size) HW2.out);have yW:=hid (y3.out.grown hg4 y3.out.size (fun k e=>by have:=GDW.out;injection e with e;omega));obtain⟨g',m2,a3,n3,c3,a4,n4,c4,e,-,hgd2,k0,k1,k2,hQ0⟩:=RD.out.at HD0.out;obtain rfl:gd=g':=by simpa using e
 have QD0:=hid hQ0;have GDL:=hid hgd2;have GVL:=hid (show gv<W.heap.size by have:=G7.out;have:=G8.out;omega);have KK:Hid (∀ V,Below W.heap.size W V→V.cell? ⟨g7,0,none⟩=some (.bool m1)∧V.cell? ⟨g7,1,none⟩=some (.slice a1 n1 c1)∧V.cell? ⟨g7,2,none⟩=some (.slice a2 n2 c2)∧V.cell? ⟨gd,0,none⟩=some (.bool m2)∧V.cell? ⟨gd,1,none⟩=some (.slice a3 n3 c3)∧V.cell? ⟨gd,2,none⟩=some (.slice a4 n4 c4)):=fun V hV=>
  ⟨(XT.out.call hV).cell 0,(XT.out.call hV).cell 1,(XT.out.call hV).cell 2,(hV.cell (p:=⟨gd,0,none⟩) hgd2).trans (by simpa using k0),(hV.cell (p:=⟨gd,1,none⟩) hgd2).trans (by simpa using k1),(hV.cell (p:=⟨gd,2,none⟩) hgd2).trans (by simpa using k2)⟩
 have f00:(0:Int)<(N:Int):=by have:=HNN.out;omega
 have f01:0<N:=HNN.out.1;clear hd4 hg4 kg e k0 k1 k2 hQ0 hgd2 y3 RV3 QT3 XT3 RD3
 go_upto_region 8 with fail
 go_cut [10,11] (fun s10 s11 wx=>∃ g10 g11:Nat,s10=.pointer (some ⟨g10,0,none⟩)∧s11=.pointer (some ⟨g11,0,none⟩)∧Hid (W.heap.size≤g10)∧Hid (W.heap.size≤g11)∧Hid (g11≠g10)∧Hid (FB wx g10 (d0-tt))∧Hid (FB wx g11 0)∧Hid (Below W.heap.size W wx))
 case first=>
  refine a0f [0,1,2,3] 6 (fun V=>V.cell? ⟨g7,0,none⟩=some (.bool m1)∧V.cell? ⟨g7,1,none⟩=some (.slice a1 n1 c1)∧V.cell? ⟨g7,2,none⟩=some (.slice a2 n2 c2)∧V.cell? ⟨gd,0,none⟩=some (.bool m2)∧V.cell? ⟨gd,1,none⟩=some (.slice a3 n3 c3)∧V.cell? ⟨gd,2,none⟩=some (.slice a4 n4 c4)) (by kernel_rfl) (by kernel_rfl) (by kernel_rfl) (by kernel_rfl) (KK.out _ (Below.refl _ _).drew) ?_
  iterate 4
   refine⟨_,rfl,?_⟩;apply Exists.intro
   refine⟨.inl ⟨by rfl,?_⟩,?_⟩
   ·(intro W' hW';obtain⟨z1,z2,z3,z4,z5,z6⟩:=hW';go_simp;try (with_reducible rfl))
   (dsimp only[Act.put];try simp only[List.setIfInBounds_toArray,List.set_cons_zero,List.set_cons_succ])
  obtain⟨V0,hV0⟩:∃ x,W.drew=x:=⟨_,rfl⟩;have BV0:=hid (show Below W.heap.size W V0 by rw[← hV0];exact (Below.refl _ _).drew);rw[hV0];clear hV0;refine b0B (i:=4) (j:=6) (k:=7) (by kernel_rfl) (by rfl) (by rfl) (by rfl) (by rfl) (by rfl) (by rfl) ?_ ?_ ?_
  ·skip
   go_wp2_with fail;refine (HSb0 V0 _ _ (QD0.out.call BV0.out) (QT.out.call BV0.out)).out.mono ?_;rintro e V1 ⟨⟨u1,rfl,hv⟩,hb⟩;obtain⟨mA,aA,nA,cA,bA,dA,eA,rfl⟩:=hv.qv;have BV1:=hid (a0a BV0.out hb);have CA:=hid hv;clear hb hv;go_wp2_with fail;refine⟨KK.out _ BV1.out,?_⟩;refine b0B (i:=5) (j:=6) (k:=7) (by kernel_rfl) (by rfl) (by rfl) (by rfl) (by rfl) (by rfl) (by rfl) ?_ ?_ ?_
   ·skip
    go_wp2_with fail;refine (HZr V1).out.mono ?_;rintro e V2 ⟨⟨u2,rfl,hv⟩,hb⟩;obtain⟨mS,aS,nS,cS,bS,dS,eS,rfl⟩:=hv.qv;have BV2:=hid (a0a BV1.out hb);have CA:=hid (CA.out.call hb);have CS:=hid hv;clear hb hv;go_wp2_with fail;refine⟨KK.out _ BV2.out,?_⟩;refine a0k (i:=6) (j:=7) (by kernel_rfl) (by rfl) (by rfl) (by rfl) (by rfl) ?_ ?_
    ·skip
     go_wp2_with fail;obtain⟨V3,hV⟩:∃ x,V2.alloc (.cells #[.bool false,.slice none 0 0,.slice none 0 0] 57)=x:=⟨_,rfl⟩;have hb:Below V2.heap.size V2 V3:=by rw[← hV];exact (Below.refl _ _).alloc (Nat.le_refl _) _
     have XA:=hid (show Blk V3 V2.heap.size #[.bool false,.slice none 0 0,.slice none 0 0] 57 by rw[← hV];exact Blk.new _ _ _);have BV3:=hid (a0a BV2.out hb);have GA:=hid (show W.heap.size≤V2.heap.size from BV2.out.size);have CA:=hid (CA.out.call hb);have CS:=hid (CS.out.call hb);rw[hV];clear hb hV;refine⟨KK.out _ BV3.out,?_⟩;refine a0b (i:=7) (by kernel_rfl) (by rfl) (by rfl) ?_;go_wp2_with fail;obtain⟨V4,hV⟩:∃ x,V3.alloc (.cells #[.bool false,.slice none 0 0,.slice none 0 0] 57)=x:=⟨_,rfl⟩;have hb:Below V3.heap.size V3 V4:=by rw[← hV];exact (Below.refl _ _).alloc (Nat.le_refl _) _
     have XS:=hid (show Blk V4 V3.heap.size #[.bool false,.slice none 0 0,.slice none 0 0] 57 by rw[← hV];exact Blk.new _ _ _);have BV4:=hid (a0a BV3.out hb);have GS:=hid (show W.heap.size≤V3.heap.size from BV3.out.size);have NE_A_S:=hid (show V3.heap.size≠V2.heap.size from Nat.ne_of_gt XA.out.lt);have NE_S_A:=hid (show V2.heap.size≠V3.heap.size from Nat.ne_of_lt XA.out.lt);have CA:=hid (CA.out.call hb);have CS:=hid (CS.out.call hb);have XA:=hid (XA.out.call hb);rw[hV];clear hb hV;refine⟨KK.out _ BV4.out,?_⟩;refine a0b (i:=8) (by kernel_rfl) (by rfl) (by rfl) ?_;have r0:=XA.out.cell 0;have r1:=XA.out.cell 1;have r2:=XA.out.cell 2;have f0:=XA.out.free 0;have f1:=XA.out.free 1;have f2:=XA.out.free 2;simp at r0 r1 r2;have FBA:=hid (FB.put XA.out CA.out);have BV5:=hid (((BV4.out.setCell (p:=⟨V2.heap.size,0,none⟩) GA.out (.bool mA)).setCell (p:=⟨V2.heap.size,1,none⟩) GA.out (.slice aA nA cA)).setCell (p:=⟨V2.heap.size,2,none⟩) GA.out (.slice bA dA eA));have KP:=hid (a0X XA.out mA aA bA nA cA dA eA);have CS:=hid (KP.out.isQ CS.out);have XS:=hid (show Blk _ (V3.heap.size) _ _ from (a0g V4 (V2.heap.size) (.bool mA) (.slice aA nA cA) (.slice bA dA eA) (g:=V3.heap.size) NE_A_S.out).trans XS.out);clear KP;go_wp2_with fail;refine⟨KK.out _ BV5.out,?_⟩;obtain⟨V5,hV⟩:∃ x,((V4.setCell ⟨V2.heap.size,0,none⟩ (.bool mA)).setCell ⟨V2.heap.size,1,none⟩ (.slice aA nA cA)).setCell ⟨V2.heap.size,2,none⟩ (.slice bA dA eA)=x:=⟨_,rfl⟩;clear r0 r1 r2 f0 f1 f2;rw[hV]at BV5 FBA CS XS ⊢;clear hV;refine a0b (i:=9) (by kernel_rfl) (by rfl) (by rfl) ?_;have r0:=XS.out.cell 0;have r1:=XS.out.cell 1;have r2:=XS.out.cell 2;have f0:=XS.out.free 0;have f1:=XS.out.free 1;have f2:=XS.out.free 2;simp at r0 r1 r2;have FBS:=hid (FB.put XS.out CS.out);have BV6:=hid (((BV5.out.setCell (p:=⟨V3.heap.size,0,none⟩) GS.out (.bool mS)).setCell (p:=⟨V3.heap.size,1,none⟩) GS.out (.slice aS nS cS)).setCell (p:=⟨V3.heap.size,2,none⟩) GS.out (.slice bS dS eS));have KP:=hid (a0X XS.out mS aS bS nS cS dS eS);have FBA:=hid (FBA.out.keep KP.out (a0g V5 (V3.heap.size) (.bool mS) (.slice aS nS cS) (.slice bS dS eS) (g:=V2.heap.size) NE_S_A.out));clear KP;go_wp2_with fail;refine⟨KK.out _ BV6.out,?_⟩;refine wpAnyH_done (by kernel_rfl) ?_ _;simp only[a0o];go_wp2_with fail
     go_meet
     exact⟨_,_,rfl,rfl,GA,GS,hid NE_A_S.out,FBA,FBS,BV6⟩
    ·skip
     go_wp2_with fail;obtain⟨V7,hV⟩:∃ x,V2.alloc (.cells #[.bool false,.slice none 0 0,.slice none 0 0] 57)=x:=⟨_,rfl⟩;have hb:Below V2.heap.size V2 V7:=by rw[← hV];exact (Below.refl _ _).alloc (Nat.le_refl _) _
     have XS:=hid (show Blk V7 V2.heap.size #[.bool false,.slice none 0 0,.slice none 0 0] 57 by rw[← hV];exact Blk.new _ _ _);have BV7:=hid (a0a BV2.out hb);have GS:=hid (show W.heap.size≤V2.heap.size from BV2.out.size);have CA:=hid (CA.out.call hb);have CS:=hid (CS.out.call hb);rw[hV];clear hb hV;refine⟨KK.out _ BV7.out,?_⟩;refine a0b (i:=6) (by kernel_rfl) (by rfl) (by rfl) ?_;go_wp2_with fail;obtain⟨V8,hV⟩:∃ x,V7.alloc (.cells #[.bool false,.slice none 0 0,.slice none 0 0] 57)=x:=⟨_,rfl⟩;have hb:Below V7.heap.size V7 V8:=by rw[← hV];exact (Below.refl _ _).alloc (Nat.le_refl _) _
     have XA:=hid (show Blk V8 V7.heap.size #[.bool false,.slice none 0 0,.slice none 0 0] 57 by rw[← hV];exact Blk.new _ _ _);have BV8:=hid (a0a BV7.out hb);have GA:=hid (show W.heap.size≤V7.heap.size from BV7.out.size);have NE_S_A:=hid (show V7.heap.size≠V2.heap.size from Nat.ne_of_gt XS.out.lt);have NE_A_S:=hid (show V2.heap.size≠V7.heap.size from Nat.ne_of_lt XS.out.lt);have CA:=hid (CA.out.call hb);have CS:=hid (CS.out.call hb);have XS:=hid (XS.out.call hb);rw[hV];clear hb hV;refine⟨KK.out _ BV8.out,?_⟩;refine a0b (i:=8) (by kernel_rfl) (by rfl) (by rfl) ?_;have r0:=XA.out.cell 0;have r1:=XA.out.cell 1;have r2:=XA.out.cell 2;have f0:=XA.out.free 0;have f1:=XA.out.free 1;have f2:=XA.out.free 2;simp at r0 r1 r2;have FBA:=hid (FB.put XA.out CA.out);have BV9:=hid (((BV8.out.setCell (p:=⟨V7.heap.size,0,none⟩) GA.out (.bool mA)).setCell (p:=⟨V7.heap.size,1,none⟩) GA.out (.slice aA nA cA)).setCell (p:=⟨V7.heap.size,2,none⟩) GA.out (.slice bA dA eA));have KP:=hid (a0X XA.out mA aA bA nA cA dA eA);have CS:=hid (KP.out.isQ CS.out);have XS:=hid (show Blk _ (V2.heap.size) _ _ from (a0g V8 (V7.heap.size) (.bool mA) (.slice aA nA cA) (.slice bA dA eA) (g:=V2.heap.size) NE_A_S.out).trans XS.out);clear KP;go_wp2_with fail;refine⟨KK.out _ BV9.out,?_⟩;obtain⟨V9,hV⟩:∃ x,((V8.setCell ⟨V7.heap.size,0,none⟩ (.bool mA)).setCell ⟨V7.heap.size,1,none⟩ (.slice aA nA cA)).setCell ⟨V7.heap.size,2,none⟩ (.slice bA dA eA)=x:=⟨_,rfl⟩;clear r0 r1 r2 f0 f1 f2;rw[hV]at BV9 FBA CS XS ⊢;clear hV;refine a0b (i:=9) (by kernel_rfl) (by rfl) (by rfl) ?_;have r0:=XS.out.cell 0;have r1:=XS.out.cell 1;have r2:=XS.out.cell 2;have f0:=XS.out.free 0;have f1:=XS.out.free 1;have f2:=XS.out.free 2;simp at r0 r1 r2;have FBS:=hid (FB.put XS.out CS.out);have BV10:=hid (((BV9.out.setCell (p:=⟨V2.heap.size,0,none⟩) GS.out (.bool mS)).setCell (p:=⟨V2.heap.size,1,none⟩) GS.out (.slice aS nS cS)).setCell (p:=⟨V2.heap.size,2,none⟩) GS.out (.slice bS dS eS));have KP:=hid (a0X XS.out mS aS bS nS cS dS eS);have FBA:=hid (FBA.out.keep KP.out (a0g V9 (V2.heap.size) (.bool mS) (.slice aS nS cS) (.slice bS dS eS) (g:=V7.heap.size) NE_S_A.out));clear KP;go_wp2_with fail;refine⟨KK.out _ BV10.out,?_⟩;refine wpAnyH_done (by kernel_rfl) ?_ _;simp only[a0o];go_wp2_with fail
     go_meet
     exact⟨_,_,rfl,rfl,GA,GS,hid NE_A_S.out,FBA,FBS,BV10⟩
   ·skip
    go_wp2_with fail;obtain⟨V11,hV⟩:∃ x,V1.alloc (.cells #[.bool false,.slice none 0 0,.slice none 0 0] 57)=x:=⟨_,rfl⟩;have hb:Below V1.heap.size V1 V11:=by rw[← hV];exact (Below.refl _ _).alloc (Nat.le_refl _) _
    have XA:=hid (show Blk V11 V1.heap.size #[.bool false,.slice none 0 0,.slice none 0 0] 57 by rw[← hV];exact Blk.new _ _ _);have BV11:=hid (a0a BV1.out hb);have GA:=hid (show W.heap.size≤V1.heap.size from BV1.out.size);have CA:=hid (CA.out.call hb);rw[hV];clear hb hV;refine⟨KK.out _ BV11.out,?_⟩;refine a0k (i:=5) (j:=7) (by kernel_rfl) (by rfl) (by rfl) (by rfl) (by rfl) ?_ ?_
    ·skip
     go_wp2_with fail;refine (HZr V11).out.mono ?_;rintro e V12 ⟨⟨u12,rfl,hv⟩,hb⟩;obtain⟨mS,aS,nS,cS,bS,dS,eS,rfl⟩:=hv.qv;have BV12:=hid (a0a BV11.out hb);have CA:=hid (CA.out.call hb);have XA:=hid (XA.out.call hb);have CS:=hid hv;clear hb hv;go_wp2_with fail;refine⟨KK.out _ BV12.out,?_⟩;refine a0b (i:=7) (by kernel_rfl) (by rfl) (by rfl) ?_;go_wp2_with fail;obtain⟨V13,hV⟩:∃ x,V12.alloc (.cells #[.bool false,.slice none 0 0,.slice none 0 0] 57)=x:=⟨_,rfl⟩;have hb:Below V12.heap.size V12 V13:=by rw[← hV];exact (Below.refl _ _).alloc (Nat.le_refl _) _
     have XS:=hid (show Blk V13 V12.heap.size #[.bool false,.slice none 0 0,.slice none 0 0] 57 by rw[← hV];exact Blk.new _ _ _);have BV13:=hid (a0a BV12.out hb);have GS:=hid (show W.heap.size≤V12.heap.size from BV12.out.size);have NE_A_S:=hid (show V12.heap.size≠V1.heap.size from Nat.ne_of_gt XA.out.lt);have NE_S_A:=hid (show V1.heap.size≠V12.heap.size from Nat.ne_of_lt XA.out.lt);have CA:=hid (CA.out.call hb);have CS:=hid (CS.out.call hb);have XA:=hid (XA.out.call hb);rw[hV];clear hb hV;refine⟨KK.out _ BV13.out,?_⟩;refine a0b (i:=8) (by kernel_rfl) (by rfl) (by rfl) ?_;have r0:=XA.out.cell 0;have r1:=XA.out.cell 1;have r2:=XA.out.cell 2;have f0:=XA.out.free 0;have f1:=XA.out.free 1;have f2:=XA.out.free 2;simp at r0 r1 r2;have FBA:=hid (FB.put XA.out CA.out);have BV14:=hid (((BV13.out.setCell (p:=⟨V1.heap.size,0,none⟩) GA.out (.bool mA)).setCell (p:=⟨V1.heap.size,1,none⟩) GA.out (.slice aA nA cA)).setCell (p:=⟨V1.heap.size,2,none⟩) GA.out (.slice bA dA eA));have KP:=hid (a0X XA.out mA aA bA nA cA dA eA);have CS:=hid (KP.out.isQ CS.out);have XS:=hid (show Blk _ (V12.heap.size) _ _ from (a0g V13 (V1.heap.size) (.bool mA) (.slice aA nA cA) (.slice bA dA eA) (g:=V12.heap.size) NE_A_S.out).trans XS.out);clear KP;go_wp2_with fail;refine⟨KK.out _ BV14.out,?_⟩;obtain⟨V14,hV⟩:∃ x,((V13.setCell ⟨V1.heap.size,0,none⟩ (.bool mA)).setCell ⟨V1.heap.size,1,none⟩ (.slice aA nA cA)).setCell ⟨V1.heap.size,2,none⟩ (.slice bA dA eA)=x:=⟨_,rfl⟩;clear r0 r1 r2 f0 f1 f2;rw[hV]at BV14 FBA CS XS ⊢;clear hV;refine a0b (i:=9) (by kernel_rfl) (by rfl) (by rfl) ?_;have r0:=XS.out.cell 0;have r1:=XS.out.cell 1;have r2:=XS.out.cell 2;have f0:=XS.out.free 0;have f1:=XS.out.free 1;have f2:=XS.out.free 2;simp at r0 r1 r2;have FBS:=hid (FB.put XS.out CS.out);have BV15:=hid (((BV14.out.setCell (p:=⟨V12.heap.size,0,none⟩) GS.out (.bool mS)).setCell (p:=⟨V12.heap.size,1,none⟩) GS.out (.slice aS nS cS)).setCell (p:=⟨V12.heap.size,2,none⟩) GS.out (.slice bS dS eS));have KP:=hid (a0X XS.out mS aS bS nS cS dS eS);have FBA:=hid (FBA.out.keep KP.out (a0g V14 (V12.heap.size) (.bool mS) (.slice aS nS cS) (.slice bS dS eS) (g:=V1.heap.size) NE_S_A.out));clear KP;go_wp2_with fail;refine⟨KK.out _ BV15.out,?_⟩;refine wpAnyH_done (by kernel_rfl) ?_ _;simp only[a0o];go_wp2_with fail
     go_meet
     exact⟨_,_,rfl,rfl,GA,GS,hid NE_A_S.out,FBA,FBS,BV15⟩
    ·skip
     go_wp2_with fail;obtain⟨V16,hV⟩:∃ x,V11.alloc (.cells #[.bool false,.slice none 0 0,.slice none 0 0] 57)=x:=⟨_,rfl⟩;have hb:Below V11.heap.size V11 V16:=by rw[← hV];exact (Below.refl _ _).alloc (Nat.le_refl _) _
     have XS:=hid (show Blk V16 V11.heap.size #[.bool false,.slice none 0 0,.slice none 0 0] 57 by rw[← hV];exact Blk.new _ _ _);have BV16:=hid (a0a BV11.out hb);have GS:=hid (show W.heap.size≤V11.heap.size from BV11.out.size);have NE_A_S:=hid (show V11.heap.size≠V1.heap.size from Nat.ne_of_gt XA.out.lt);have NE_S_A:=hid (show V1.heap.size≠V11.heap.size from Nat.ne_of_lt XA.out.lt);have CA:=hid (CA.out.call hb);have XA:=hid (XA.out.call hb);rw[hV];clear hb hV;refine⟨KK.out _ BV16.out,?_⟩;refine a0b (i:=5) (by kernel_rfl) (by rfl) (by rfl) ?_;go_wp2_with fail;refine (HZr V16).out.mono ?_;rintro e V17 ⟨⟨u17,rfl,hv⟩,hb⟩;obtain⟨mS,aS,nS,cS,bS,dS,eS,rfl⟩:=hv.qv;have BV17:=hid (a0a BV16.out hb);have CA:=hid (CA.out.call hb);have XA:=hid (XA.out.call hb);have XS:=hid (XS.out.call hb);have CS:=hid hv;clear hb hv;go_wp2_with fail;refine⟨KK.out _ BV17.out,?_⟩;refine a0b (i:=8) (by kernel_rfl) (by rfl) (by rfl) ?_;have r0:=XA.out.cell 0;have r1:=XA.out.cell 1;have r2:=XA.out.cell 2;have f0:=XA.out.free 0;have f1:=XA.out.free 1;have f2:=XA.out.free 2;simp at r0 r1 r2;have FBA:=hid (FB.put XA.out CA.out);have BV18:=hid (((BV17.out.setCell (p:=⟨V1.heap.size,0,none⟩) GA.out (.bool mA)).setCell (p:=⟨V1.heap.size,1,none⟩) GA.out (.slice aA nA cA)).setCell (p:=⟨V1.heap.size,2,none⟩) GA.out (.slice bA dA eA));have KP:=hid (a0X XA.out mA aA bA nA cA dA eA);have CS:=hid (KP.out.isQ CS.out);have XS:=hid (show Blk _ (V11.heap.size) _ _ from (a0g V17 (V1.heap.size) (.bool mA) (.slice aA nA cA) (.slice bA dA eA) (g:=V11.heap.size) NE_A_S.out).trans XS.out);clear KP;go_wp2_with fail;refine⟨KK.out _ BV18.out,?_⟩;obtain⟨V18,hV⟩:∃ x,((V17.setCell ⟨V1.heap.size,0,none⟩ (.bool mA)).setCell ⟨V1.heap.size,1,none⟩ (.slice aA nA cA)).setCell ⟨V1.heap.size,2,none⟩ (.slice bA dA eA)=x:=⟨_,rfl⟩;clear r0 r1 r2 f0 f1 f2;rw[hV]at BV18 FBA CS XS ⊢;clear hV;refine a0b (i:=9) (by kernel_rfl) (by rfl) (by rfl) ?_;have r0:=XS.out.cell 0;have r1:=XS.out.cell 1;have r2:=XS.out.cell 2;have f0:=XS.out.free 0;have f1:=XS.out.free 1;have f2:=XS.out.free 2;simp at r0 r1 r2;have FBS:=hid (FB.put XS.out CS.out);have BV19:=hid (((BV18.out.setCell (p:=⟨V11.heap.size,0,none⟩) GS.out (.bool mS)).setCell (p:=⟨V11.heap.size,1,none⟩) GS.out (.slice aS nS cS)).setCell (p:=⟨V11.heap.size,2,none⟩) GS.out (.slice bS dS eS));have KP:=hid (a0X XS.out mS aS bS nS cS dS eS);have FBA:=hid (FBA.out.keep KP.out (a0g V18 (V11.heap.size) (.bool mS) (.slice aS nS cS) (.slice bS dS eS) (g:=V1.heap.size) NE_S_A.out));clear KP;go_wp2_with fail;refine⟨KK.out _ BV19.out,?_⟩;refine wpAnyH_done (by kernel_rfl) ?_ _;simp only[a0o];go_wp2_with fail
     go_meet
     exact⟨_,_,rfl,rfl,GA,GS,hid NE_A_S.out,FBA,FBS,BV19⟩
   ·skip
    go_wp2_with fail;obtain⟨V20,hV⟩:∃ x,V1.alloc (.cells #[.bool false,.slice none 0 0,.slice none 0 0] 57)=x:=⟨_,rfl⟩;have hb:Below V1.heap.size V1 V20:=by rw[← hV];exact (Below.refl _ _).alloc (Nat.le_refl _) _
    have XS:=hid (show Blk V20 V1.heap.size #[.bool false,.slice none 0 0,.slice none 0 0] 57 by rw[← hV];exact Blk.new _ _ _);have BV20:=hid (a0a BV1.out hb);have GS:=hid (show W.heap.size≤V1.heap.size from BV1.out.size);have CA:=hid (CA.out.call hb);rw[hV];clear hb hV;refine⟨KK.out _ BV20.out,?_⟩;refine a0k (i:=5) (j:=6) (by kernel_rfl) (by rfl) (by rfl) (by rfl) (by rfl) ?_ ?_
    ·skip
     go_wp2_with fail;refine (HZr V20).out.mono ?_;rintro e V21 ⟨⟨u21,rfl,hv⟩,hb⟩;obtain⟨mS,aS,nS,cS,bS,dS,eS,rfl⟩:=hv.qv;have BV21:=hid (a0a BV20.out hb);have CA:=hid (CA.out.call hb);have XS:=hid (XS.out.call hb);have CS:=hid hv;clear hb hv;go_wp2_with fail;refine⟨KK.out _ BV21.out,?_⟩;refine a0b (i:=6) (by kernel_rfl) (by rfl) (by rfl) ?_;go_wp2_with fail;obtain⟨V22,hV⟩:∃ x,V21.alloc (.cells #[.bool false,.slice none 0 0,.slice none 0 0] 57)=x:=⟨_,rfl⟩;have hb:Below V21.heap.size V21 V22:=by rw[← hV];exact (Below.refl _ _).alloc (Nat.le_refl _) _
     have XA:=hid (show Blk V22 V21.heap.size #[.bool false,.slice none 0 0,.slice none 0 0] 57 by rw[← hV];exact Blk.new _ _ _);have BV22:=hid (a0a BV21.out hb);have GA:=hid (show W.heap.size≤V21.heap.size from BV21.out.size);have NE_S_A:=hid (show V21.heap.size≠V1.heap.size from Nat.ne_of_gt XS.out.lt);have NE_A_S:=hid (show V1.heap.size≠V21.heap.size from Nat.ne_of_lt XS.out.lt);have CA:=hid (CA.out.call hb);have CS:=hid (CS.out.call hb);have XS:=hid (XS.out.call hb);rw[hV];clear hb hV;refine⟨KK.out _ BV22.out,?_⟩;refine a0b (i:=8) (by kernel_rfl) (by rfl) (by rfl) ?_;have r0:=XA.out.cell 0;have r1:=XA.out.cell 1;have r2:=XA.out.cell 2;have f0:=XA.out.free 0;have f1:=XA.out.free 1;have f2:=XA.out.free 2;simp at r0 r1 r2;have FBA:=hid (FB.put XA.out CA.out);have BV23:=hid (((BV22.out.setCell (p:=⟨V21.heap.size,0,none⟩) GA.out (.bool mA)).setCell (p:=⟨V21.heap.size,1,none⟩) GA.out (.slice aA nA cA)).setCell (p:=⟨V21.heap.size,2,none⟩) GA.out (.slice bA dA eA));have KP:=hid (a0X XA.out mA aA bA nA cA dA eA);have CS:=hid (KP.out.isQ CS.out);have XS:=hid (show Blk _ (V1.heap.size) _ _ from (a0g V22 (V21.heap.size) (.bool mA) (.slice aA nA cA) (.slice bA dA eA) (g:=V1.heap.size) NE_A_S.out).trans XS.out);clear KP;go_wp2_with fail;refine⟨KK.out _ BV23.out,?_⟩;obtain⟨V23,hV⟩:∃ x,((V22.setCell ⟨V21.heap.size,0,none⟩ (.bool mA)).setCell ⟨V21.heap.size,1,none⟩ (.slice aA nA cA)).setCell ⟨V21.heap.size,2,none⟩ (.slice bA dA eA)=x:=⟨_,rfl⟩;clear r0 r1 r2 f0 f1 f2;rw[hV]at BV23 FBA CS XS ⊢;clear hV;refine a0b (i:=9) (by kernel_rfl) (by rfl) (by rfl) ?_;have r0:=XS.out.cell 0;have r1:=XS.out.cell 1;have r2:=XS.out.cell 2;have f0:=XS.out.free 0;have f1:=XS.out.free 1;have f2:=XS.out.free 2;simp at r0 r1 r2;have FBS:=hid (FB.put XS.out CS.out);have BV24:=hid (((BV23.out.setCell (p:=⟨V1.heap.size,0,none⟩) GS.out (.bool mS)).setCell (p:=⟨V1.heap.size,1,none⟩) GS.out (.slice aS nS cS)).setCell (p:=⟨V1.heap.size,2,none⟩) GS.out (.slice bS dS eS));have KP:=hid (a0X XS.out mS aS bS nS cS dS eS);have FBA:=hid (FBA.out.keep KP.out (a0g V23 (V1.heap.size) (.bool mS) (.slice aS nS cS) (.slice bS dS eS) (g:=V21.heap.size) NE_S_A.out));clear KP;go_wp2_with fail;refine⟨KK.out _ BV24.out,?_⟩;refine wpAnyH_done (by kernel_rfl) ?_ _;simp only[a0o];go_wp2_with fail
     go_meet
     exact⟨_,_,rfl,rfl,GA,GS,hid NE_A_S.out,FBA,FBS,BV24⟩
    ·skip
     go_wp2_with fail;obtain⟨V25,hV⟩:∃ x,V20.alloc (.cells #[.bool false,.slice none 0 0,.slice none 0 0] 57)=x:=⟨_,rfl⟩;have hb:Below V20.heap.size V20 V25:=by rw[← hV];exact (Below.refl _ _).alloc (Nat.le_refl _) _
     have XA:=hid (show Blk V25 V20.heap.size #[.bool false,.slice none 0 0,.slice none 0 0] 57 by rw[← hV];exact Blk.new _ _ _);have BV25:=hid (a0a BV20.out hb);have GA:=hid (show W.heap.size≤V20.heap.size from BV20.out.size);have NE_S_A:=hid (show V20.heap.size≠V1.heap.size from Nat.ne_of_gt XS.out.lt);have NE_A_S:=hid (show V1.heap.size≠V20.heap.size from Nat.ne_of_lt XS.out.lt);have CA:=hid (CA.out.call hb);have XS:=hid (XS.out.call hb);rw[hV];clear hb hV;refine⟨KK.out _ BV25.out,?_⟩;refine a0b (i:=5) (by kernel_rfl) (by rfl) (by rfl) ?_;go_wp2_with fail;refine (HZr V25).out.mono ?_;rintro e V26 ⟨⟨u26,rfl,hv⟩,hb⟩;obtain⟨mS,aS,nS,cS,bS,dS,eS,rfl⟩:=hv.qv;have BV26:=hid (a0a BV25.out hb);have CA:=hid (CA.out.call hb);have XS:=hid (XS.out.call hb);have XA:=hid (XA.out.call hb);have CS:=hid hv;clear hb hv;go_wp2_with fail;refine⟨KK.out _ BV26.out,?_⟩;refine a0b (i:=8) (by kernel_rfl) (by rfl) (by rfl) ?_;have r0:=XA.out.cell 0;have r1:=XA.out.cell 1;have r2:=XA.out.cell 2;have f0:=XA.out.free 0;have f1:=XA.out.free 1;have f2:=XA.out.free 2;simp at r0 r1 r2;have FBA:=hid (FB.put XA.out CA.out);have BV27:=hid (((BV26.out.setCell (p:=⟨V20.heap.size,0,none⟩) GA.out (.bool mA)).setCell (p:=⟨V20.heap.size,1,none⟩) GA.out (.slice aA nA cA)).setCell (p:=⟨V20.heap.size,2,none⟩) GA.out (.slice bA dA eA));have KP:=hid (a0X XA.out mA aA bA nA cA dA eA);have CS:=hid (KP.out.isQ CS.out);have XS:=hid (show Blk _ (V1.heap.size) _ _ from (a0g V26 (V20.heap.size) (.bool mA) (.slice aA nA cA) (.slice bA dA eA) (g:=V1.heap.size) NE_A_S.out).trans XS.out);clear KP;go_wp2_with fail;refine⟨KK.out _ BV27.out,?_⟩;obtain⟨V27,hV⟩:∃ x,((V26.setCell ⟨V20.heap.size,0,none⟩ (.bool mA)).setCell ⟨V20.heap.size,1,none⟩ (.slice aA nA cA)).setCell ⟨V20.heap.size,2,none⟩ (.slice bA dA eA)=x:=⟨_,rfl⟩;clear r0 r1 r2 f0 f1 f2;rw[hV]at BV27 FBA CS XS ⊢;clear hV;refine a0b (i:=9) (by kernel_rfl) (by rfl) (by rfl) ?_;have r0:=XS.out.cell 0;have r1:=XS.out.cell 1;have r2:=XS.out.cell 2;have f0:=XS.out.free 0;have f1:=XS.out.free 1;have f2:=XS.out.free 2;simp at r0 r1 r2;have FBS:=hid (FB.put XS.out CS.out);have BV28:=hid (((BV27.out.setCell (p:=⟨V1.heap.size,0,none⟩) GS.out (.bool mS)).setCell (p:=⟨V1.heap.size,1,none⟩) GS.out (.slice aS nS cS)).setCell (p:=⟨V1.heap.size,2,none⟩) GS.out (.slice bS dS eS));have KP:=hid (a0X XS.out mS aS bS nS cS dS eS);have FBA:=hid (FBA.out.keep KP.out (a0g V27 (V1.heap.size) (.bool mS) (.slice aS nS cS) (.slice bS dS eS) (g:=V20.heap.size) NE_S_A.out));clear KP;go_wp2_with fail;refine⟨KK.out _ BV28.out,?_⟩;refine wpAnyH_done (by kernel_rfl) ?_ _;simp only[a0o];go_wp2_with fail
     go_meet
     exact⟨_,_,rfl,rfl,GA,GS,hid NE_A_S.out,FBA,FBS,BV28⟩
  ·skip
   go_wp2_with fail;obtain⟨V29,hV⟩:∃ x,V0.alloc (.cells #[.bool false,.slice none 0 0,.slice none 0 0] 57)=x:=⟨_,rfl⟩;have hb:Below V0.heap.size V0 V29:=by rw[← hV];exact (Below.refl _ _).alloc (Nat.le_refl _) _
   have XA:=hid (show Blk V29 V0.heap.size #[.bool false,.slice none 0 0,.slice none 0 0] 57 by rw[← hV];exact Blk.new _ _ _);have BV29:=hid (a0a BV0.out hb);have GA:=hid (show W.heap.size≤V0.heap.size from BV0.out.size);rw[hV];clear hb hV;refine⟨KK.out _ BV29.out,?_⟩;refine a0k (i:=4) (j:=7) (by kernel_rfl) (by rfl) (by rfl) (by rfl) (by rfl) ?_ ?_
   ·skip
    go_wp2_with fail;refine (HSb0 V29 _ _ (QD0.out.call BV29.out) (QT.out.call BV29.out)).out.mono ?_;rintro e V30 ⟨⟨u30,rfl,hv⟩,hb⟩;obtain⟨mA,aA,nA,cA,bA,dA,eA,rfl⟩:=hv.qv;have BV30:=hid (a0a BV29.out hb);have XA:=hid (XA.out.call hb);have CA:=hid hv;clear hb hv;go_wp2_with fail;refine⟨KK.out _ BV30.out,?_⟩;refine a0k (i:=5) (j:=7) (by kernel_rfl) (by rfl) (by rfl) (by rfl) (by rfl) ?_ ?_
    ·skip
     go_wp2_with fail;refine (HZr V30).out.mono ?_;rintro e V31 ⟨⟨u31,rfl,hv⟩,hb⟩;obtain⟨mS,aS,nS,cS,bS,dS,eS,rfl⟩:=hv.qv;have BV31:=hid (a0a BV30.out hb);have CA:=hid (CA.out.call hb);have XA:=hid (XA.out.call hb);have CS:=hid hv;clear hb hv;go_wp2_with fail;refine⟨KK.out _ BV31.out,?_⟩;refine a0b (i:=7) (by kernel_rfl) (by rfl) (by rfl) ?_;go_wp2_with fail;obtain⟨V32,hV⟩:∃ x,V31.alloc (.cells #[.bool false,.slice none 0 0,.slice none 0 0] 57)=x:=⟨_,rfl⟩;have hb:Below V31.heap.size V31 V32:=by rw[← hV];exact (Below.refl _ _).alloc (Nat.le_refl _) _
     have XS:=hid (show Blk V32 V31.heap.size #[.bool false,.slice none 0 0,.slice none 0 0] 57 by rw[← hV];exact Blk.new _ _ _);have BV32:=hid (a0a BV31.out hb);have GS:=hid (show W.heap.size≤V31.heap.size from BV31.out.size);have NE_A_S:=hid (show V31.heap.size≠V0.heap.size from Nat.ne_of_gt XA.out.lt);have NE_S_A:=hid (show V0.heap.size≠V31.heap.size from Nat.ne_of_lt XA.out.lt);have CA:=hid (CA.out.call hb);have CS:=hid (CS.out.call hb);have XA:=hid (XA.out.call hb);rw[hV];clear hb hV;refine⟨KK.out _ BV32.out,?_⟩;refine a0b (i:=8) (by kernel_rfl) (by rfl) (by rfl) ?_;have r0:=XA.out.cell 0;have r1:=XA.out.cell 1;have r2:=XA.out.cell 2;have f0:=XA.out.free 0;have f1:=XA.out.free 1;have f2:=XA.out.free 2;simp at r0 r1 r2;have FBA:=hid (FB.put XA.out CA.out);have BV33:=hid (((BV32.out.setCell (p:=⟨V0.heap.size,0,none⟩) GA.out (.bool mA)).setCell (p:=⟨V0.heap.size,1,none⟩) GA.out (.slice aA nA cA)).setCell (p:=⟨V0.heap.size,2,none⟩) GA.out (.slice bA dA eA));have KP:=hid (a0X XA.out mA aA bA nA cA dA eA);have CS:=hid (KP.out.isQ CS.out);have XS:=hid (show Blk _ (V31.heap.size) _ _ from (a0g V32 (V0.heap.size) (.bool mA) (.slice aA nA cA) (.slice bA dA eA) (g:=V31.heap.size) NE_A_S.out).trans XS.out);clear KP;go_wp2_with fail;refine⟨KK.out _ BV33.out,?_⟩;obtain⟨V33,hV⟩:∃ x,((V32.setCell ⟨V0.heap.size,0,none⟩ (.bool mA)).setCell ⟨V0.heap.size,1,none⟩ (.slice aA nA cA)).setCell ⟨V0.heap.size,2,none⟩ (.slice bA dA eA)=x:=⟨_,rfl⟩;clear r0 r1 r2 f0 f1 f2;rw[hV]at BV33 FBA CS XS ⊢;clear hV;refine a0b (i:=9) (by kernel_rfl) (by rfl) (by rfl) ?_;have r0:=XS.out.cell 0;have r1:=XS.out.cell 1;have r2:=XS.out.cell 2;have f0:=XS.out.free 0;have f1:=XS.out.free 1;have f2:=XS.out.free 2;simp at r0 r1 r2;have FBS:=hid (FB.put XS.out CS.out);have BV34:=hid (((BV33.out.setCell (p:=⟨V31.heap.size,0,none⟩) GS.out (.bool mS)).setCell (p:=⟨V31.heap.size,1,none⟩) GS.out (.slice aS nS cS)).setCell (p:=⟨V31.heap.size,2,none⟩) GS.out (.slice bS dS eS));have KP:=hid (a0X XS.out mS aS bS nS cS dS eS);have FBA:=hid (FBA.out.keep KP.out (a0g V33 (V31.heap.size) (.bool mS) (.slice aS nS cS) (.slice bS dS eS) (g:=V0.heap.size) NE_S_A.out));clear KP;go_wp2_with fail;refine⟨KK.out _ BV34.out,?_⟩;refine wpAnyH_done (by kernel_rfl) ?_ _;simp only[a0o];go_wp2_with fail
     go_meet
     exact⟨_,_,rfl,rfl,GA,GS,hid NE_A_S.out,FBA,FBS,BV34⟩
    ·skip
     go_wp2_with fail;obtain⟨V35,hV⟩:∃ x,V30.alloc (.cells #[.bool false,.slice none 0 0,.slice none 0 0] 57)=x:=⟨_,rfl⟩;have hb:Below V30.heap.size V30 V35:=by rw[← hV];exact (Below.refl _ _).alloc (Nat.le_refl _) _
     have XS:=hid (show Blk V35 V30.heap.size #[.bool false,.slice none 0 0,.slice none 0 0] 57 by rw[← hV];exact Blk.new _ _ _);have BV35:=hid (a0a BV30.out hb);have GS:=hid (show W.heap.size≤V30.heap.size from BV30.out.size);have NE_A_S:=hid (show V30.heap.size≠V0.heap.size from Nat.ne_of_gt XA.out.lt);have NE_S_A:=hid (show V0.heap.size≠V30.heap.size from Nat.ne_of_lt XA.out.lt);have CA:=hid (CA.out.call hb);have XA:=hid (XA.out.call hb);rw[hV];clear hb hV;refine⟨KK.out _ BV35.out,?_⟩;refine a0b (i:=5) (by kernel_rfl) (by rfl) (by rfl) ?_;go_wp2_with fail;refine (HZr V35).out.mono ?_;rintro e V36 ⟨⟨u36,rfl,hv⟩,hb⟩;obtain⟨mS,aS,nS,cS,bS,dS,eS,rfl⟩:=hv.qv;have BV36:=hid (a0a BV35.out hb);have CA:=hid (CA.out.call hb);have XA:=hid (XA.out.call hb);have XS:=hid (XS.out.call hb);have CS:=hid hv;clear hb hv;go_wp2_with fail;refine⟨KK.out _ BV36.out,?_⟩;refine a0b (i:=8) (by kernel_rfl) (by rfl) (by rfl) ?_;have r0:=XA.out.cell 0;have r1:=XA.out.cell 1;have r2:=XA.out.cell 2;have f0:=XA.out.free 0;have f1:=XA.out.free 1;have f2:=XA.out.free 2;simp at r0 r1 r2;have FBA:=hid (FB.put XA.out CA.out);have BV37:=hid (((BV36.out.setCell (p:=⟨V0.heap.size,0,none⟩) GA.out (.bool mA)).setCell (p:=⟨V0.heap.size,1,none⟩) GA.out (.slice aA nA cA)).setCell (p:=⟨V0.heap.size,2,none⟩) GA.out (.slice bA dA eA));have KP:=hid (a0X XA.out mA aA bA nA cA dA eA);have CS:=hid (KP.out.isQ CS.out);have XS:=hid (show Blk _ (V30.heap.size) _ _ from (a0g V36 (V0.heap.size) (.bool mA) (.slice aA nA cA) (.slice bA dA eA) (g:=V30.heap.size) NE_A_S.out).trans XS.out);clear KP;go_wp2_with fail;refine⟨KK.out _ BV37.out,?_⟩;obtain⟨V37,hV⟩:∃ x,((V36.setCell ⟨V0.heap.size,0,none⟩ (.bool mA)).setCell ⟨V0.heap.size,1,none⟩ (.slice aA nA cA)).setCell ⟨V0.heap.size,2,none⟩ (.slice bA dA eA)=x:=⟨_,rfl⟩;clear r0 r1 r2 f0 f1 f2;rw[hV]at BV37 FBA CS XS ⊢;clear hV;refine a0b (i:=9) (by kernel_rfl) (by rfl) (by rfl) ?_;have r0:=XS.out.cell 0;have r1:=XS.out.cell 1;have r2:=XS.out.cell 2;have f0:=XS.out.free 0;have f1:=XS.out.free 1;have f2:=XS.out.free 2;simp at r0 r1 r2;have FBS:=hid (FB.put XS.out CS.out);have BV38:=hid (((BV37.out.setCell (p:=⟨V30.heap.size,0,none⟩) GS.out (.bool mS)).setCell (p:=⟨V30.heap.size,1,none⟩) GS.out (.slice aS nS cS)).setCell (p:=⟨V30.heap.size,2,none⟩) GS.out (.slice bS dS eS));have KP:=hid (a0X XS.out mS aS bS nS cS dS eS);have FBA:=hid (FBA.out.keep KP.out (a0g V37 (V30.heap.size) (.bool mS) (.slice aS nS cS) (.slice bS dS eS) (g:=V0.heap.size) NE_S_A.out));clear KP;go_wp2_with fail;refine⟨KK.out _ BV38.out,?_⟩;refine wpAnyH_done (by kernel_rfl) ?_ _;simp only[a0o];go_wp2_with fail
     go_meet
     exact⟨_,_,rfl,rfl,GA,GS,hid NE_A_S.out,FBA,FBS,BV38⟩
   ·skip
    go_wp2_with fail;obtain⟨V39,hV⟩:∃ x,V29.alloc (.cells #[.bool false,.slice none 0 0,.slice none 0 0] 57)=x:=⟨_,rfl⟩;have hb:Below V29.heap.size V29 V39:=by rw[← hV];exact (Below.refl _ _).alloc (Nat.le_refl _) _
    have XS:=hid (show Blk V39 V29.heap.size #[.bool false,.slice none 0 0,.slice none 0 0] 57 by rw[← hV];exact Blk.new _ _ _);have BV39:=hid (a0a BV29.out hb);have GS:=hid (show W.heap.size≤V29.heap.size from BV29.out.size);have NE_A_S:=hid (show V29.heap.size≠V0.heap.size from Nat.ne_of_gt XA.out.lt);have NE_S_A:=hid (show V0.heap.size≠V29.heap.size from Nat.ne_of_lt XA.out.lt);have XA:=hid (XA.out.call hb);rw[hV];clear hb hV;refine⟨KK.out _ BV39.out,?_⟩;refine a0b (i:=4) (by kernel_rfl) (by rfl) (by rfl) ?_;go_wp2_with fail;refine (HSb0 V39 _ _ (QD0.out.call BV39.out) (QT.out.call BV39.out)).out.mono ?_;rintro e V40 ⟨⟨u40,rfl,hv⟩,hb⟩;obtain⟨mA,aA,nA,cA,bA,dA,eA,rfl⟩:=hv.qv;have BV40:=hid (a0a BV39.out hb);have XA:=hid (XA.out.call hb);have XS:=hid (XS.out.call hb);have CA:=hid hv;clear hb hv;go_wp2_with fail;refine⟨KK.out _ BV40.out,?_⟩;refine a0b (i:=5) (by kernel_rfl) (by rfl) (by rfl) ?_;go_wp2_with fail;refine (HZr V40).out.mono ?_;rintro e V41 ⟨⟨u41,rfl,hv⟩,hb⟩;obtain⟨mS,aS,nS,cS,bS,dS,eS,rfl⟩:=hv.qv;have BV41:=hid (a0a BV40.out hb);have CA:=hid (CA.out.call hb);have XA:=hid (XA.out.call hb);have XS:=hid (XS.out.call hb);have CS:=hid hv;clear hb hv;go_wp2_with fail;refine⟨KK.out _ BV41.out,?_⟩;refine a0b (i:=8) (by kernel_rfl) (by rfl) (by rfl) ?_;have r0:=XA.out.cell 0;have r1:=XA.out.cell 1;have r2:=XA.out.cell 2;have f0:=XA.out.free 0;have f1:=XA.out.free 1;have f2:=XA.out.free 2;simp at r0 r1 r2;have FBA:=hid (FB.put XA.out CA.out);have BV42:=hid (((BV41.out.setCell (p:=⟨V0.heap.size,0,none⟩) GA.out (.bool mA)).setCell (p:=⟨V0.heap.size,1,none⟩) GA.out (.slice aA nA cA)).setCell (p:=⟨V0.heap.size,2,none⟩) GA.out (.slice bA dA eA));have KP:=hid (a0X XA.out mA aA bA nA cA dA eA);have CS:=hid (KP.out.isQ CS.out);have XS:=hid (show Blk _ (V29.heap.size) _ _ from (a0g V41 (V0.heap.size) (.bool mA) (.slice aA nA cA) (.slice bA dA eA) (g:=V29.heap.size) NE_A_S.out).trans XS.out);clear KP;go_wp2_with fail;refine⟨KK.out _ BV42.out,?_⟩;obtain⟨V42,hV⟩:∃ x,((V41.setCell ⟨V0.heap.size,0,none⟩ (.bool mA)).setCell ⟨V0.heap.size,1,none⟩ (.slice aA nA cA)).setCell ⟨V0.heap.size,2,none⟩ (.slice bA dA eA)=x:=⟨_,rfl⟩;clear r0 r1 r2 f0 f1 f2;rw[hV]at BV42 FBA CS XS ⊢;clear hV;refine a0b (i:=9) (by kernel_rfl) (by rfl) (by rfl) ?_;have r0:=XS.out.cell 0;have r1:=XS.out.cell 1;have r2:=XS.out.cell 2;have f0:=XS.out.free 0;have f1:=XS.out.free 1;have f2:=XS.out.free 2;simp at r0 r1 r2;have FBS:=hid (FB.put XS.out CS.out);have BV43:=hid (((BV42.out.setCell (p:=⟨V29.heap.size,0,none⟩) GS.out (.bool mS)).setCell (p:=⟨V29.heap.size,1,none⟩) GS.out (.slice aS nS cS)).setCell (p:=⟨V29.heap.size,2,none⟩) GS.out (.slice bS dS eS));have KP:=hid (a0X XS.out mS aS bS nS cS dS eS);have FBA:=hid (FBA.out.keep KP.out (a0g V42 (V29.heap.size) (.bool mS) (.slice aS nS cS) (.slice bS dS eS) (g:=V0.heap.size) NE_S_A.out));clear KP;go_wp2_with fail;refine⟨KK.out _ BV43.out,?_⟩;refine wpAnyH_done (by kernel_rfl) ?_ _;simp only[a0o];go_wp2_with fail
    go_meet
    exact⟨_,_,rfl,rfl,GA,GS,hid NE_A_S.out,FBA,FBS,BV43⟩
  ·skip
   go_wp2_with fail;obtain⟨V44,hV⟩:∃ x,V0.alloc (.cells #[.bool false,.slice none 0 0,.slice none 0 0] 57)=x:=⟨_,rfl⟩;have hb:Below V0.heap.size V0 V44:=by rw[← hV];exact (Below.refl _ _).alloc (Nat.le_refl _) _
   have XS:=hid (show Blk V44 V0.heap.size #[.bool false,.slice none 0 0,.slice none 0 0] 57 by rw[← hV];exact Blk.new _ _ _);have BV44:=hid (a0a BV0.out hb);have GS:=hid (show W.heap.size≤V0.heap.size from BV0.out.size);rw[hV];clear hb hV;refine⟨KK.out _ BV44.out,?_⟩;refine a0k (i:=4) (j:=6) (by kernel_rfl) (by rfl) (by rfl) (by rfl) (by rfl) ?_ ?_
   ·skip
    go_wp2_with fail;refine (HSb0 V44 _ _ (QD0.out.call BV44.out) (QT.out.call BV44.out)).out.mono ?_;rintro e V45 ⟨⟨u45,rfl,hv⟩,hb⟩;obtain⟨mA,aA,nA,cA,bA,dA,eA,rfl⟩:=hv.qv;have BV45:=hid (a0a BV44.out hb);have XS:=hid (XS.out.call hb);have CA:=hid hv;clear hb hv;go_wp2_with fail;refine⟨KK.out _ BV45.out,?_⟩;refine a0k (i:=5) (j:=6) (by kernel_rfl) (by rfl) (by rfl) (by rfl) (by rfl) ?_ ?_
    ·skip
     go_wp2_with fail;refine (HZr V45).out.mono ?_;rintro e V46 ⟨⟨u46,rfl,hv⟩,hb⟩;obtain⟨mS,aS,nS,cS,bS,dS,eS,rfl⟩:=hv.qv;have BV46:=hid (a0a BV45.out hb);have CA:=hid (CA.out.call hb);have XS:=hid (XS.out.call hb);have CS:=hid hv;clear hb hv;go_wp2_with fail;refine⟨KK.out _ BV46.out,?_⟩;refine a0b (i:=6) (by kernel_rfl) (by rfl) (by rfl) ?_;go_wp2_with fail;obtain⟨V47,hV⟩:∃ x,V46.alloc (.cells #[.bool false,.slice none 0 0,.slice none 0 0] 57)=x:=⟨_,rfl⟩;have hb:Below V46.heap.size V46 V47:=by rw[← hV];exact (Below.refl _ _).alloc (Nat.le_refl _) _
     have XA:=hid (show Blk V47 V46.heap.size #[.bool false,.slice none 0 0,.slice none 0 0] 57 by rw[← hV];exact Blk.new _ _ _);have BV47:=hid (a0a BV46.out hb);have GA:=hid (show W.heap.size≤V46.heap.size from BV46.out.size);have NE_S_A:=hid (show V46.heap.size≠V0.heap.size from Nat.ne_of_gt XS.out.lt);have NE_A_S:=hid (show V0.heap.size≠V46.heap.size from Nat.ne_of_lt XS.out.lt);have CA:=hid (CA.out.call hb);have CS:=hid (CS.out.call hb);have XS:=hid (XS.out.call hb);rw[hV];clear hb hV;refine⟨KK.out _ BV47.out,?_⟩;refine a0b (i:=8) (by kernel_rfl) (by rfl) (by rfl) ?_;have r0:=XA.out.cell 0;have r1:=XA.out.cell 1;have r2:=XA.out.cell 2;have f0:=XA.out.free 0;have f1:=XA.out.free 1;have f2:=XA.out.free 2;simp at r0 r1 r2;have FBA:=hid (FB.put XA.out CA.out);have BV48:=hid (((BV47.out.setCell (p:=⟨V46.heap.size,0,none⟩) GA.out (.bool mA)).setCell (p:=⟨V46.heap.size,1,none⟩) GA.out (.slice aA nA cA)).setCell (p:=⟨V46.heap.size,2,none⟩) GA.out (.slice bA dA eA));have KP:=hid (a0X XA.out mA aA bA nA cA dA eA);have CS:=hid (KP.out.isQ CS.out);have XS:=hid (show Blk _ (V0.heap.size) _ _ from (a0g V47 (V46.heap.size) (.bool mA) (.slice aA nA cA) (.slice bA dA eA) (g:=V0.heap.size) NE_A_S.out).trans XS.out);clear KP;go_wp2_with fail;refine⟨KK.out _ BV48.out,?_⟩;obtain⟨V48,hV⟩:∃ x,((V47.setCell ⟨V46.heap.size,0,none⟩ (.bool mA)).setCell ⟨V46.heap.size,1,none⟩ (.slice aA nA cA)).setCell ⟨V46.heap.size,2,none⟩ (.slice bA dA eA)=x:=⟨_,rfl⟩;clear r0 r1 r2 f0 f1 f2;rw[hV]at BV48 FBA CS XS ⊢;clear hV;refine a0b (i:=9) (by kernel_rfl) (by rfl) (by rfl) ?_;have r0:=XS.out.cell 0;have r1:=XS.out.cell 1;have r2:=XS.out.cell 2;have f0:=XS.out.free 0;have f1:=XS.out.free 1;have f2:=XS.out.free 2;simp at r0 r1 r2;have FBS:=hid (FB.put XS.out CS.out);have BV49:=hid (((BV48.out.setCell (p:=⟨V0.heap.size,0,none⟩) GS.out (.bool mS)).setCell (p:=⟨V0.heap.size,1,none⟩) GS.out (.slice aS nS cS)).setCell (p:=⟨V0.heap.size,2,none⟩) GS.out (.slice bS dS eS));have KP:=hid (a0X XS.out mS aS bS nS cS dS eS);have FBA:=hid (FBA.out.keep KP.out (a0g V48 (V0.heap.size) (.bool mS) (.slice aS nS cS) (.slice bS dS eS) (g:=V46.heap.size) NE_S_A.out));clear KP;go_wp2_with fail;refine⟨KK.out _ BV49.out,?_⟩;refine wpAnyH_done (by kernel_rfl) ?_ _;simp only[a0o];go_wp2_with fail
     go_meet
     exact⟨_,_,rfl,rfl,GA,GS,hid NE_A_S.out,FBA,FBS,BV49⟩
    ·skip
     go_wp2_with fail;obtain⟨V50,hV⟩:∃ x,V45.alloc (.cells #[.bool false,.slice none 0 0,.slice none 0 0] 57)=x:=⟨_,rfl⟩;have hb:Below V45.heap.size V45 V50:=by rw[← hV];exact (Below.refl _ _).alloc (Nat.le_refl _) _
     have XA:=hid (show Blk V50 V45.heap.size #[.bool false,.slice none 0 0,.slice none 0 0] 57 by rw[← hV];exact Blk.new _ _ _);have BV50:=hid (a0a BV45.out hb);have GA:=hid (show W.heap.size≤V45.heap.size from BV45.out.size);have NE_S_A:=hid (show V45.heap.size≠V0.heap.size from Nat.ne_of_gt XS.out.lt);have NE_A_S:=hid (show V0.heap.size≠V45.heap.size from Nat.ne_of_lt XS.out.lt);have CA:=hid (CA.out.call hb);have XS:=hid (XS.out.call hb);rw[hV];clear hb hV;refine⟨KK.out _ BV50.out,?_⟩;refine a0b (i:=5) (by kernel_rfl) (by rfl) (by rfl) ?_;go_wp2_with fail;refine (HZr V50).out.mono ?_;rintro e V51 ⟨⟨u51,rfl,hv⟩,hb⟩;obtain⟨mS,aS,nS,cS,bS,dS,eS,rfl⟩:=hv.qv;have BV51:=hid (a0a BV50.out hb);have CA:=hid (CA.out.call hb);have XS:=hid (XS.out.call hb);have XA:=hid (XA.out.call hb);have CS:=hid hv;clear hb hv;go_wp2_with fail;refine⟨KK.out _ BV51.out,?_⟩;refine a0b (i:=8) (by kernel_rfl) (by rfl) (by rfl) ?_;have r0:=XA.out.cell 0;have r1:=XA.out.cell 1;have r2:=XA.out.cell 2;have f0:=XA.out.free 0;have f1:=XA.out.free 1;have f2:=XA.out.free 2;simp at r0 r1 r2;have FBA:=hid (FB.put XA.out CA.out);have BV52:=hid (((BV51.out.setCell (p:=⟨V45.heap.size,0,none⟩) GA.out (.bool mA)).setCell (p:=⟨V45.heap.size,1,none⟩) GA.out (.slice aA nA cA)).setCell (p:=⟨V45.heap.size,2,none⟩) GA.out (.slice bA dA eA));have KP:=hid (a0X XA.out mA aA bA nA cA dA eA);have CS:=hid (KP.out.isQ CS.out);have XS:=hid (show Blk _ (V0.heap.size) _ _ from (a0g V51 (V45.heap.size) (.bool mA) (.slice aA nA cA) (.slice bA dA eA) (g:=V0.heap.size) NE_A_S.out).trans XS.out);clear KP;go_wp2_with fail;refine⟨KK.out _ BV52.out,?_⟩;obtain⟨V52,hV⟩:∃ x,((V51.setCell ⟨V45.heap.size,0,none⟩ (.bool mA)).setCell ⟨V45.heap.size,1,none⟩ (.slice aA nA cA)).setCell ⟨V45.heap.size,2,none⟩ (.slice bA dA eA)=x:=⟨_,rfl⟩;clear r0 r1 r2 f0 f1 f2;rw[hV]at BV52 FBA CS XS ⊢;clear hV;refine a0b (i:=9) (by kernel_rfl) (by rfl) (by rfl) ?_;have r0:=XS.out.cell 0;have r1:=XS.out.cell 1;have r2:=XS.out.cell 2;have f0:=XS.out.free 0;have f1:=XS.out.free 1;have f2:=XS.out.free 2;simp at r0 r1 r2;have FBS:=hid (FB.put XS.out CS.out);have BV53:=hid (((BV52.out.setCell (p:=⟨V0.heap.size,0,none⟩) GS.out (.bool mS)).setCell (p:=⟨V0.heap.size,1,none⟩) GS.out (.slice aS nS cS)).setCell (p:=⟨V0.heap.size,2,none⟩) GS.out (.slice bS dS eS));have KP:=hid (a0X XS.out mS aS bS nS cS dS eS);have FBA:=hid (FBA.out.keep KP.out (a0g V52 (V0.heap.size) (.bool mS) (.slice aS nS cS) (.slice bS dS eS) (g:=V45.heap.size) NE_S_A.out));clear KP;go_wp2_with fail;refine⟨KK.out _ BV53.out,?_⟩;refine wpAnyH_done (by kernel_rfl) ?_ _;simp only[a0o];go_wp2_with fail
     go_meet
     exact⟨_,_,rfl,rfl,GA,GS,hid NE_A_S.out,FBA,FBS,BV53⟩
   ·skip
    go_wp2_with fail;obtain⟨V54,hV⟩:∃ x,V44.alloc (.cells #[.bool false,.slice none 0 0,.slice none 0 0] 57)=x:=⟨_,rfl⟩;have hb:Below V44.heap.size V44 V54:=by rw[← hV];exact (Below.refl _ _).alloc (Nat.le_refl _) _
    have XA:=hid (show Blk V54 V44.heap.size #[.bool false,.slice none 0 0,.slice none 0 0] 57 by rw[← hV];exact Blk.new _ _ _);have BV54:=hid (a0a BV44.out hb);have GA:=hid (show W.heap.size≤V44.heap.size from BV44.out.size);have NE_S_A:=hid (show V44.heap.size≠V0.heap.size from Nat.ne_of_gt XS.out.lt);have NE_A_S:=hid (show V0.heap.size≠V44.heap.size from Nat.ne_of_lt XS.out.lt);have XS:=hid (XS.out.call hb);rw[hV];clear hb hV;refine⟨KK.out _ BV54.out,?_⟩;refine a0b (i:=4) (by kernel_rfl) (by rfl) (by rfl) ?_;go_wp2_with fail;refine (HSb0 V54 _ _ (QD0.out.call BV54.out) (QT.out.call BV54.out)).out.mono ?_;rintro e V55 ⟨⟨u55,rfl,hv⟩,hb⟩;obtain⟨mA,aA,nA,cA,bA,dA,eA,rfl⟩:=hv.qv;have BV55:=hid (a0a BV54.out hb);have XS:=hid (XS.out.call hb);have XA:=hid (XA.out.call hb);have CA:=hid hv;clear hb hv;go_wp2_with fail;refine⟨KK.out _ BV55.out,?_⟩;refine a0b (i:=5) (by kernel_rfl) (by rfl) (by rfl) ?_;go_wp2_with fail;refine (HZr V55).out.mono ?_;rintro e V56 ⟨⟨u56,rfl,hv⟩,hb⟩;obtain⟨mS,aS,nS,cS,bS,dS,eS,rfl⟩:=hv.qv;have BV56:=hid (a0a BV55.out hb);have CA:=hid (CA.out.call hb);have XS:=hid (XS.out.call hb);have XA:=hid (XA.out.call hb);have CS:=hid hv;clear hb hv;go_wp2_with fail;refine⟨KK.out _ BV56.out,?_⟩;refine a0b (i:=8) (by kernel_rfl) (by rfl) (by rfl) ?_;have r0:=XA.out.cell 0;have r1:=XA.out.cell 1;have r2:=XA.out.cell 2;have f0:=XA.out.free 0;have f1:=XA.out.free 1;have f2:=XA.out.free 2;simp at r0 r1 r2;have FBA:=hid (FB.put XA.out CA.out);have BV57:=hid (((BV56.out.setCell (p:=⟨V44.heap.size,0,none⟩) GA.out (.bool mA)).setCell (p:=⟨V44.heap.size,1,none⟩) GA.out (.slice aA nA cA)).setCell (p:=⟨V44.heap.size,2,none⟩) GA.out (.slice bA dA eA));have KP:=hid (a0X XA.out mA aA bA nA cA dA eA);have CS:=hid (KP.out.isQ CS.out);have XS:=hid (show Blk _ (V0.heap.size) _ _ from (a0g V56 (V44.heap.size) (.bool mA) (.slice aA nA cA) (.slice bA dA eA) (g:=V0.heap.size) NE_A_S.out).trans XS.out);clear KP;go_wp2_with fail;refine⟨KK.out _ BV57.out,?_⟩;obtain⟨V57,hV⟩:∃ x,((V56.setCell ⟨V44.heap.size,0,none⟩ (.bool mA)).setCell ⟨V44.heap.size,1,none⟩ (.slice aA nA cA)).setCell ⟨V44.heap.size,2,none⟩ (.slice bA dA eA)=x:=⟨_,rfl⟩;clear r0 r1 r2 f0 f1 f2;rw[hV]at BV57 FBA CS XS ⊢;clear hV;refine a0b (i:=9) (by kernel_rfl) (by rfl) (by rfl) ?_;have r0:=XS.out.cell 0;have r1:=XS.out.cell 1;have r2:=XS.out.cell 2;have f0:=XS.out.free 0;have f1:=XS.out.free 1;have f2:=XS.out.free 2;simp at r0 r1 r2;have FBS:=hid (FB.put XS.out CS.out);have BV58:=hid (((BV57.out.setCell (p:=⟨V0.heap.size,0,none⟩) GS.out (.bool mS)).setCell (p:=⟨V0.heap.size,1,none⟩) GS.out (.slice aS nS cS)).setCell (p:=⟨V0.heap.size,2,none⟩) GS.out (.slice bS dS eS));have KP:=hid (a0X XS.out mS aS bS nS cS dS eS);have FBA:=hid (FBA.out.keep KP.out (a0g V57 (V0.heap.size) (.bool mS) (.slice aS nS cS) (.slice bS dS eS) (g:=V44.heap.size) NE_S_A.out));clear KP;go_wp2_with fail;refine⟨KK.out _ BV58.out,?_⟩;refine wpAnyH_done (by kernel_rfl) ?_ _;simp only[a0o];go_wp2_with fail
    go_meet
    exact⟨_,_,rfl,rfl,GA,GS,hid NE_A_S.out,FBA,FBS,BV58⟩
 case rest=>
  obtain⟨g10,g11,rfl,rfl,hg10,hg11,hne,hFA,hFS,hBc⟩:=hcut;obtain⟨wq,hwq⟩:∃ x,x=wc:=⟨_,rfl⟩;subst hwq;have HNE:=hid (show g10≠gv by have:=GVL.out;have:=hg10.out;omega)
  have I0:=hid (show SxI w wq gv gd g7 g10 g11 N cv cd qs ds tt (d0-tt) (rs (ds.take 0)) from
   ⟨RV.out.call hBc.out,RD.out.call hBc.out,(show FB W g7 tt from⟨m1,a1,n1,c1,a2,n2,c2,XT.out,QT.out⟩).call hBc.out,hFA.out,hFS.out,a0a yW.out hBc.out,
    ⟨Nat.le_trans yW.out.size hg10.out,by have:=GVL.out;have:=hg10.out;omega,by have:=GDL.out;have:=hg10.out;omega,by have:=XT.out.lt;have:=hg10.out;omega,hne.out⟩,
    ⟨Nat.le_trans yW.out.size hg11.out,by have:=GVL.out;have:=hg11.out;omega,by have:=GDL.out;have:=hg11.out;omega,by have:=XT.out.lt;have:=hg11.out;omega,fun e=>hne.out e.symm⟩⟩)
  have A00:=hid (show smA tt 0 (rs (ds.take 0)) (d0-tt) (ds.drop 0)=AM from HAM.out);go_wp2_with fail
  go_step3
  go_wp2_with fail
  go_loopw [12,13,14,44] (fun s12 s13 s14 s44 wr=>∃ (i:Nat) (A:Rat),s44=.int .i64 (i:Nat)∧i≤N∧Hid (SxI w wr gv gd g7 g10 g11 N cv cd qs ds tt A (rs (ds.take i)))∧Hid (smA tt i (rs (ds.take i)) A (ds.drop i)=AM)) (fun s12 s13 s14 s44 wr=>N-(intOf s44).toNat)
  case atStart=>exact⟨0,_,rfl,Nat.zero_le _,I0,A00⟩
  case round=>
   obtain⟨i,A,rfl,hi,hI,hA⟩:=hrel;by_cases hlt:i<N
   ·obtain⟨x,hx⟩:∃ x,ds[i]?=some x:=⟨_,List.getElem?_eq_getElem (by rw[HDL.out];exact hlt)⟩;obtain⟨g',mx,ax,nx,cx,bx,dx,ex,e,-,-,k0,k1,k2,hQx⟩:=hI.out.d.at hx;obtain rfl:gd=g':=by simpa using e
    have HSM:=hid (show AM=if x≤(rs (ds.take i)+x-tt) / ((i+1:Nat):Rat) then A else smA tt (i+1) (rs (ds.take i)+x) ((rs (ds.take i)+x-tt) / ((i+1:Nat):Rat)) (ds.drop (i+1)) by
     have hd:ds.drop i=x::ds.drop (i+1):=by
      rw[List.drop_eq_getElem_cons (by rw[HDL.out];exact hlt)]
      congr 1
      exact (List.getElem?_eq_some_iff.1 hx).2
     rw[← hA.out,hd,smA])
    have HRS:=hid (b0H hx);rw[← HRS.out]at HSM;have LX:=hid (HLD.out x (List.mem_of_getElem? hx));have LS1:=hid (HLS.out i);have LS2:=hid (HLS.out (i+1));have LR:=hid (show Lim ((rs (ds.take (i+1))-tt) / ((i+1:Nat):Rat)) from (HLR.out i).resolve_right (by have:=HNN.out;omega));have A1:=hid ((Below.refl wr.heap.size wr).alloc (Nat.le_refl _) (.cells #[.bool mx,.slice ax nx cx,.slice bx dx ex] 57));have X1:=hid (Blk.new wr #[.bool mx,.slice ax nx cx,.slice bx dx ex] 57);have I1:=hid (hI.out.call A1.out);have QX1:=hid (hQx.call A1.out);obtain⟨ms,sa,ns,cs,bs,dd,es,hbs,hqs⟩:=I1.out.s;have BS:=hid hbs;have QS:=hid hqs;have b0:=hbs.cell 0;have b1:=hbs.cell 1;have b2:=hbs.cell 2;simp at b0 b1 b2;have f1:(0:Int)≤(i:Int):=by omega
    have f2:(i:Int)<(N:Int):=by omega
    have wi:IntKind.i64.wrap ((i:Int)+1)=((i+1:Nat):Int):=by have:=HNN.out;rw[IntWalk.i64_in _ ⟨by omega,by omega⟩];omega
    have HLT:=hid hlt;have HSI:=hid (show g11<wr.heap.size∧g10<wr.heap.size from⟨hI.out.s.lt,hI.out.a.lt⟩);clear hx e hQx hbs hqs hlt hi;go_wp2_with fail;refine (l0P _ _ _ _ _ QS.out QX1.out LS1.out.1.1 LS1.out.1.2 LX.out.1 LX.out.2).mono ?_;rintro e w6 ⟨⟨v6,rfl,hv6⟩,hb6⟩;obtain⟨m7,a7,n7,c7,a8,n8,c8,rfl⟩:=hv6.qv;rw[← HRS.out]at hv6;have B6:=BS.out.call hb6;have t0:=B6.cell 0;have t1:=B6.cell 1;have t2:=B6.cell 2;have t3:=B6.free 0;have t4:=B6.free 1;have t5:=B6.free 2;simp at t0 t1 t2;have I6:=hid ((I1.out.call hb6).putS B6 hv6);have QS6:=hid (b0Z B6 m7 a7 a8 n7 c7 n8 c8 hv6);have BS6:=hid (b0d B6 m7 a7 a8 n7 c7 n8 c8).2;have X6:=hid (show Blk _ wr.heap.size #[.bool mx,.slice ax nx cx,.slice bx dx ex] 57 from (a0g w6 g11 (.bool m7) (.slice a7 n7 c7) (.slice a8 n8 c8) (g:=wr.heap.size) (by have:=HSI.out.1;omega)).trans (X1.out.call hb6));have QX6:=hid ((a0X B6 m7 a7 a8 n7 c7 n8 c8).isQ (QX1.out.call hb6));obtain⟨mt,ta,nt,ct,bt,dtt,et,hbt,hqt⟩:=I6.out.t;have QT6:=hid hqt;have u0:=hbt.cell 0;have u1:=hbt.cell 1;have u2:=hbt.cell 2;have u3:=BS6.out.cell 0;have u4:=BS6.out.cell 1;have u5:=BS6.out.cell 2;simp at u0 u1 u2 u3 u4 u5;clear hb6 hv6 B6 hbt hqt;go_wp2_with fail;obtain⟨W6,hW6⟩:∃ x,((w6.setCell ⟨g11,0,none⟩ (.bool m7)).setCell ⟨g11,1,none⟩ (.slice a7 n7 c7)).setCell ⟨g11,2,none⟩ (.slice a8 n8 c8)=x:=⟨_,rfl⟩;rw[hW6]at I6 QS6 BS6 X6 QX6 QT6 ⊢;clear hW6 t0 t1 t2 t3 t4 t5 u0 u1 u2 u3 u4 u5 b0 b1 b2;refine (j0O _ _ _ _ _ QS6.out QT6.out LS2.out.1.1 LS2.out.1.2 LTT.out.1 LTT.out.2).mono ?_;rintro e w8 ⟨⟨v8,rfl,hv8⟩,hb8⟩;obtain⟨m9,a9,n9,c9,b9,d9,e9,rfl⟩:=hv8.qv;have Q8:=hid hv8;have I8:=hid (I6.out.call hb8);have X8:=hid (X6.out.call hb8);have QX8:=hid (QX6.out.call hb8);clear hb8 hv8;go_wp2_with fail;refine (e0m _ (i+1) (by have:=HLT.out;have:=HNN.out;omega)).mono ?_;rintro e w9 ⟨⟨v9,rfl,hv9⟩,hb9⟩;obtain⟨mn,an,nn,cn,bn,dn,en,rfl⟩:=hv9.qv;have Q9:=hid hv9;have Q8':=hid (Q8.out.call hb9);have I9:=hid (I8.out.call hb9);have X9:=hid (X8.out.call hb9);have QX9:=hid (QX8.out.call hb9);clear hb9 hv9;have LK:=hid (show Lim ((i+1:Nat):Rat) from Lim.of (K:=2) ⟨by rw[Rat.num_natCast];have:=HLT.out;have:=HNN.out;simp;omega,by rw[Rat.den_natCast];omega⟩ (by omega));go_wp2_with fail;refine (p0S _ _ _ _ _ Q8'.out Q9.out (b0N (by omega)) LS2.out.2.1 LS2.out.2.2 LK.out.1 LK.out.2).mono ?_;rintro e w10 ⟨⟨v10,rfl,hv10⟩,hb10⟩;obtain⟨mr,ar,nr,cr,br,dr,er,rfl⟩:=hv10.qv;have A11:=hid ((Below.refl w10.heap.size w10).alloc (Nat.le_refl _) (.cells #[.bool mr,.slice ar nr cr,.slice br dr er] 57));have X11:=hid ((X9.out.call hb10).call A11.out);have QX11:=hid ((QX9.out.call hb10).call A11.out);have I11:=hid ((I9.out.call hb10).call A11.out);have R11:=hid (Blk.new w10 #[.bool mr,.slice ar nr cr,.slice br dr er] 57);have QR11:=hid (hv10.call A11.out);obtain⟨R,hR⟩:∃ R,(rs (ds.take (i+1))-tt) / ((i+1:Nat):Rat)=R:=⟨_,rfl⟩;rw[hR]at QR11 HSM LR;have u0:=X11.out.cell 0;have u1:=X11.out.cell 1;have u2:=X11.out.cell 2;have u3:=R11.out.cell 0;have u4:=R11.out.cell 1;have u5:=R11.out.cell 2;simp at u0 u1 u2 u3 u4 u5;clear hb10 hv10 hR;go_wp2_with fail;refine (l0O _ _ _ _ _ QX11.out QR11.out LX.out.1 LX.out.2 LR.out.1 LR.out.2).mono ?_;rintro e w12 ⟨rfl,hb12⟩;have I12:=hid (I11.out.call hb12);have R12:=hid (R11.out.call hb12);have QR12:=hid (QR11.out.call hb12);clear hb12 u0 u1 u2 u3 u4 u5;by_cases hle:x≤R
    ·have t8:decide (cmF x R≤0)=true:=decide_eq_true (m0l.2 hle);have HAA:=hid (show AM=A by rw[HSM.out,if_pos hle]);have I13:=hid (show SxI w w12 gv gd g7 g10 g11 N cv cd qs ds tt AM (rs (ds.take (i+1))) by rw[HAA.out];exact I12.out);obtain⟨z,hz⟩:∃ z,cmF x R=z:=⟨_,rfl⟩;rw[hz]at t8 ⊢;clear hle hz;have RV0:=hid (show VRow w.heap.size w12 (.slice (some ⟨gv,0,none⟩) N cv) (d0j X qs 0) by rw[f0S];exact I13.out.v);have FA0:=hid I13.out.a;have BB0:=hid I13.out.b;go_wp2_with fail
     go_loopw [15,16,67] (fun s15 s16 s67 wx=>∃ i:Nat,s67=.int .i64 (i:Nat)∧i≤N∧Hid (VRow w.heap.size wx (.slice (some ⟨gv,0,none⟩) N cv) (d0j X qs i))∧Hid (FB wx g10 AM)∧Hid (Below w.heap.size w wx)) (fun s15 s16 s67 wx=>N-(intOf s67).toNat)
     case atStart=>exact⟨0,rfl,Nat.zero_le _,RV0,FA0,BB0⟩
     case round=>
      obtain⟨p,rfl,hp,hR,hF,hB⟩:=hrel;by_cases hltp:p<N
      ·obtain⟨q,hq⟩:∃ q,qs[p]?=some q:=⟨_,List.getElem?_eq_getElem (by rw[HN.out];exact hltp)⟩;obtain⟨g',mq,aq,nq,cq,aq',nq',cq',e,-,-,k0,k1,k2,hQQ⟩:=hR.out.at (g0L HXl.out hq);obtain rfl:gv=g':=by simpa using e
       have A1:=hid ((Below.refl wr.heap.size wr).alloc (Nat.le_refl _) (.cells #[.bool mq,.slice aq nq cq,.slice aq' nq' cq'] 57));obtain⟨m5,a5,n5,c5,a6,n6,c6,hb5,hq5⟩:=hF.out.call A1.out;have b0:=hb5.cell 0;have b1:=hb5.cell 1;have b2:=hb5.cell 2;simp at b0 b1 b2;have Q1:=hid (hQQ.call A1.out);have Q5:=hid hq5;have HQP:=hid hq;have QM:=hid (List.mem_of_getElem? hq);have HXi:=hid (HXat.out p q hq);have f1:(0:Int)≤(p:Int):=by omega
       have f2:(p:Int)<(N:Int):=by omega
       have wi:IntKind.i64.wrap ((p:Int)+1)=((p+1:Nat):Int):=by have:=HNN.out;rw[IntWalk.i64_in _ ⟨by omega,by omega⟩];omega
       have HLTP:=hid hltp;have B1:=hid (a0a hB.out A1.out);have R1:=hid (hR.out.call A1.out);have F1:=hid (hF.out.call A1.out);clear hq e hQQ hb5 hq5 hltp hp;go_wp2_with fail;refine (HSB _ _ _ q QM.out Q1.out Q5.out).out.mono ?_;rintro e w6 ⟨⟨v6,rfl,hv6⟩,hb6⟩;obtain⟨m7,a7,n7,c7,a8,n8,c8,rfl⟩:=hv6.qv;have V6:=hid hv6;have R6:=hid (R1.out.call hb6);have F6:=hid (F1.out.call hb6);have B6:=hid (a0a B1.out hb6);obtain⟨g',mr,ar,nr,cr,ar',nr',cr',e,-,-,z0,z1,z2,-⟩:=R6.out.at (g0L HXl.out HQP.out);obtain rfl:gv=g':=by simpa using e
       have y0:=R6.out.free (p*3);have y1:=R6.out.free (p*3+1);have y2:=R6.out.free (p*3+2);have hpl:p<(d0j X qs p).length:=by rw[h0J HXl.out,HN.out];exact HLTP.out
       obtain⟨P1,P2⟩:=R6.out.put (i:=p) hpl V6.out;have hne:g10≠gv:=HNE.out;have F7:=hid (F6.out.keep P2 (by rw[Below.heap_setCell _ _ _ _ hne,Below.heap_setCell _ _ _ _ hne,Below.heap_setCell _ _ _ _ hne]));have B7:=hid (((B6.out.setCell (p:=⟨gv,p*3,none⟩) HGB.out (.bool m7)).setCell (p:=⟨gv,p*3+1,none⟩) HGB.out (.slice a7 n7 c7)).setCell (p:=⟨gv,p*3+2,none⟩) HGB.out (.slice a8 n8 c8));have R7:=hid P1;obtain⟨g',ms,sa,sn,sc,sa',sn',sc',e2,-,-,x0,x1,x2,hQ7⟩:=R7.out.at (show ((d0j X qs p).set p (q-AM))[p]?=some (q-AM) from List.getElem?_set_self hpl);obtain rfl:gv=g':=by simpa using e2
       have Q7:=hid hQ7;have u0:=R7.out.free (p*3);have u1:=R7.out.free (p*3+1);have u2:=R7.out.free (p*3+2);clear hb6 hv6 P1 P2 hne e e2 hQ7 k0 k1 k2 b0 b1 b2;go_wp2_with fail;obtain⟨W7,hW7⟩:∃ x,((w6.setCell ⟨gv,p*3,none⟩ (.bool m7)).setCell ⟨gv,p*3+1,none⟩ (.slice a7 n7 c7)).setCell ⟨gv,p*3+2,none⟩ (.slice a8 n8 c8)=x:=⟨_,rfl⟩;rw[hW7]at F7 B7 R7 Q7 x0 x1 x2 u0 u1 u2 ⊢;clear hW7 z0 z1 z2 y0 y1 y2;refine (HSG _ _ (q-AM) Q7.out).out.mono ?_;rintro e w8 ⟨rfl,hb8⟩;have F8:=hid (F7.out.call hb8);have B8:=hid (a0a B7.out hb8);have R8:=hid (R7.out.call hb8);have x0':=(hb8.cell (p:=⟨gv,p*3,none⟩) (a0z x0)).trans x0;have x1':=(hb8.cell (p:=⟨gv,p*3+1,none⟩) (a0z x1)).trans x1;have x2':=(hb8.cell (p:=⟨gv,p*3+2,none⟩) (a0z x2)).trans x2;clear hb8 x0 x1 x2 u0 u1 u2;by_cases hneg:q-AM<0
       ·have t9:decide (sgQ (q-AM)<0)=true:=decide_eq_true (f0f.2 hneg);have HX9:=hid (show ((d0j X qs p).set p (q-AM)).set p 0=d0j X qs (p+1) by rw[List.set_set];exact e0x HXl.out (by have h:=HXi.out;rw[show pos (q-AM)=0 from if_pos hneg]at h;exact h));obtain⟨sz,hsz⟩:∃ s,sgQ (q-AM)=s:=⟨_,rfl⟩;rw[hsz]at t9 ⊢;clear hneg hsz;go_wp2_with fail;refine (HZr _).out.mono ?_;rintro e w9 ⟨⟨v9,rfl,hv9⟩,hb9⟩;obtain⟨m9,a9,n9,c9,a10,n10,c10,rfl⟩:=hv9.qv;have R9:=hid (R8.out.call hb9);have F9:=hid (F8.out.call hb9);have B9:=hid (a0a B8.out hb9);have x0:=(hb9.cell (p:=⟨gv,p*3,none⟩) (a0z x0')).trans x0';have x1:=(hb9.cell (p:=⟨gv,p*3+1,none⟩) (a0z x1')).trans x1';have x2:=(hb9.cell (p:=⟨gv,p*3+2,none⟩) (a0z x2')).trans x2';have u0:=R9.out.free (p*3);have u1:=R9.out.free (p*3+1);have u2:=R9.out.free (p*3+2);obtain⟨P1,P2⟩:=R9.out.put (i:=p) (by rw[List.length_set];exact hpl) hv9;rw[HX9.out]at P1;have hne:g10≠gv:=HNE.out;have FN:=hid (F9.out.keep P2 (by rw[Below.heap_setCell _ _ _ _ hne,Below.heap_setCell _ _ _ _ hne,Below.heap_setCell _ _ _ _ hne]));have BN:=hid (((B9.out.setCell (p:=⟨gv,p*3,none⟩) HGB.out (.bool m9)).setCell (p:=⟨gv,p*3+1,none⟩) HGB.out (.slice a9 n9 c9)).setCell (p:=⟨gv,p*3+2,none⟩) HGB.out (.slice a10 n10 c10));have RN:=hid P1;clear hb9 hv9 P1 P2 hne hpl;go_wp2_with fail;go_roundw
        case rel=>exact⟨p+1,by go_num,by have:=HLTP.out;omega,RN,FN,BN⟩
        case measure=>simp[intOf]<;>(have:=HLTP.out;omega)
       ·have t9:decide (sgQ (q-AM)<0)=false:=decide_eq_false fun e=>hneg (f0f.1 e)
        have RN:=hid (show VRow w.heap.size w8 (.slice (some ⟨gv,0,none⟩) N cv) (d0j X qs (p+1)) by
         rw[← e0x HXl.out (by have h:=HXi.out;rw[show pos (q-AM)=q-AM from if_neg hneg]at h;exact h)];exact R8.out)
        obtain⟨sz,hsz⟩:∃ s,sgQ (q-AM)=s:=⟨_,rfl⟩;rw[hsz]at t9 ⊢;clear hneg hsz hpl;go_wp2_with fail;go_roundw
        case rel=>exact⟨p+1,by go_num,by have:=HLTP.out;omega,RN,F8,B8⟩
        case measure=>simp[intOf]<;>(have:=HLTP.out;omega)
      ·obtain rfl:p=N:=by omega
       have q9:decide ((p:Int)<(p:Int))=false:=by simp
       have RE:=hid (show VRow w.heap.size wr (.slice (some ⟨gv,0,none⟩) p cv) X by have h:=hR.out;rw[show d0j X qs p=X by rw[← HN.out];exact h0K HXl.out]at h;exact h);clear hltp hp hR;go_wp2_with fail;refine (HWR _ _ RE.out (HL.out.call hB.out)).out.mono ?_;rintro e w8 ⟨⟨u,rfl,hu⟩,hb8⟩;have y8:=hid (a0a hB.out hb8);have U8:=hid hu;clear hb8 hu;go_wp2_with fail
       try rw[Exit.noGoto_ret]
       go_ret2
       exact⟨⟨_,rfl,U8.out⟩,y8.out⟩
    ·have t8:decide (cmF x R≤0)=false:=decide_eq_false fun e=>hle (m0l.1 e)
     have HAA:=hid (show smA tt (i+1) (rs (ds.take (i+1))) R (ds.drop (i+1))=AM by rw[HSM.out,if_neg hle]);obtain⟨z,hz⟩:∃ z,cmF x R=z:=⟨_,rfl⟩;rw[hz]at t8 ⊢;obtain⟨ma,aa,na,ca,ba,da,ea,hba,hqa⟩:=I12.out.a;have t0:=hba.cell 0;have t1:=hba.cell 1;have t2:=hba.cell 2;have t3:=hba.free 0;have t4:=hba.free 1;have t5:=hba.free 2;simp at t0 t1 t2;have u3:=R12.out.cell 0;have u4:=R12.out.cell 1;have u5:=R12.out.cell 2;simp at u3 u4 u5;have IN:=hid (I12.out.putA hba QR12.out);clear hle hz hba hqa;go_wp2_with fail;go_roundw
     case rel=>exact⟨i+1,R,by go_num,by have:=HLT.out;omega,IN,HAA⟩
     case measure=>simp[intOf]<;>(have:=HLT.out;omega)
   ·obtain rfl:N=i:=by omega
    have q9:decide ((N:Int)<(N:Int))=false:=by simp
    have HAA:=hid (show AM=A by
     have h:=hA.out;rw[List.drop_of_length_le (by rw[HDL.out];exact Nat.le_refl _),smA]at h;exact h.symm)
    have I13:=hid (show SxI w wr gv gd g7 g10 g11 N cv cd qs ds tt AM (rs (ds.take N)) by rw[HAA.out];exact hI.out);clear hlt hi hI hA;have RV0:=hid (show VRow w.heap.size wr (.slice (some ⟨gv,0,none⟩) N cv) (d0j X qs 0) by rw[f0S];exact I13.out.v);have FA0:=hid I13.out.a;have BB0:=hid I13.out.b;go_wp2_with fail
    go_loopw [15,16,67] (fun s15 s16 s67 wx=>∃ i:Nat,s67=.int .i64 (i:Nat)∧i≤N∧Hid (VRow w.heap.size wx (.slice (some ⟨gv,0,none⟩) N cv) (d0j X qs i))∧Hid (FB wx g10 AM)∧Hid (Below w.heap.size w wx)) (fun s15 s16 s67 wx=>N-(intOf s67).toNat)
    case atStart=>exact⟨0,rfl,Nat.zero_le _,RV0,FA0,BB0⟩
    case round=>
     obtain⟨p,rfl,hp,hR,hF,hB⟩:=hrel;by_cases hltp:p<N
     ·obtain⟨q,hq⟩:∃ q,qs[p]?=some q:=⟨_,List.getElem?_eq_getElem (by rw[HN.out];exact hltp)⟩;obtain⟨g',mq,aq,nq,cq,aq',nq',cq',e,-,-,k0,k1,k2,hQQ⟩:=hR.out.at (g0L HXl.out hq);obtain rfl:gv=g':=by simpa using e
      have A1:=hid ((Below.refl wr.heap.size wr).alloc (Nat.le_refl _) (.cells #[.bool mq,.slice aq nq cq,.slice aq' nq' cq'] 57));obtain⟨m5,a5,n5,c5,a6,n6,c6,hb5,hq5⟩:=hF.out.call A1.out;have b0:=hb5.cell 0;have b1:=hb5.cell 1;have b2:=hb5.cell 2;simp at b0 b1 b2;have Q1:=hid (hQQ.call A1.out);have Q5:=hid hq5;have HQP:=hid hq;have QM:=hid (List.mem_of_getElem? hq);have HXi:=hid (HXat.out p q hq);have f1:(0:Int)≤(p:Int):=by omega
      have f2:(p:Int)<(N:Int):=by omega
      have wi:IntKind.i64.wrap ((p:Int)+1)=((p+1:Nat):Int):=by have:=HNN.out;rw[IntWalk.i64_in _ ⟨by omega,by omega⟩];omega
      have HLTP:=hid hltp;have B1:=hid (a0a hB.out A1.out);have R1:=hid (hR.out.call A1.out);have F1:=hid (hF.out.call A1.out);clear hq e hQQ hb5 hq5 hltp hp;go_wp2_with fail;refine (HSB _ _ _ q QM.out Q1.out Q5.out).out.mono ?_;rintro e w6 ⟨⟨v6,rfl,hv6⟩,hb6⟩;obtain⟨m7,a7,n7,c7,a8,n8,c8,rfl⟩:=hv6.qv;have V6:=hid hv6;have R6:=hid (R1.out.call hb6);have F6:=hid (F1.out.call hb6);have B6:=hid (a0a B1.out hb6);obtain⟨g',mr,ar,nr,cr,ar',nr',cr',e,-,-,z0,z1,z2,-⟩:=R6.out.at (g0L HXl.out HQP.out);obtain rfl:gv=g':=by simpa using e
      have y0:=R6.out.free (p*3);have y1:=R6.out.free (p*3+1);have y2:=R6.out.free (p*3+2);have hpl:p<(d0j X qs p).length:=by rw[h0J HXl.out,HN.out];exact HLTP.out
      obtain⟨P1,P2⟩:=R6.out.put (i:=p) hpl V6.out;have hne:g10≠gv:=HNE.out;have F7:=hid (F6.out.keep P2 (by rw[Below.heap_setCell _ _ _ _ hne,Below.heap_setCell _ _ _ _ hne,Below.heap_setCell _ _ _ _ hne]));have B7:=hid (((B6.out.setCell (p:=⟨gv,p*3,none⟩) HGB.out (.bool m7)).setCell (p:=⟨gv,p*3+1,none⟩) HGB.out (.slice a7 n7 c7)).setCell (p:=⟨gv,p*3+2,none⟩) HGB.out (.slice a8 n8 c8));have R7:=hid P1;obtain⟨g',ms,sa,sn,sc,sa',sn',sc',e2,-,-,x0,x1,x2,hQ7⟩:=R7.out.at (show ((d0j X qs p).set p (q-AM))[p]?=some (q-AM) from List.getElem?_set_self hpl);obtain rfl:gv=g':=by simpa using e2
      have Q7:=hid hQ7;have u0:=R7.out.free (p*3);have u1:=R7.out.free (p*3+1);have u2:=R7.out.free (p*3+2);clear hb6 hv6 P1 P2 hne e e2 hQ7 k0 k1 k2 b0 b1 b2;go_wp2_with fail;obtain⟨W7,hW7⟩:∃ x,((w6.setCell ⟨gv,p*3,none⟩ (.bool m7)).setCell ⟨gv,p*3+1,none⟩ (.slice a7 n7 c7)).setCell ⟨gv,p*3+2,none⟩ (.slice a8 n8 c8)=x:=⟨_,rfl⟩;rw[hW7]at F7 B7 R7 Q7 x0 x1 x2 u0 u1 u2 ⊢;clear hW7 z0 z1 z2 y0 y1 y2;refine (HSG _ _ (q-AM) Q7.out).out.mono ?_;rintro e w8 ⟨rfl,hb8⟩;have F8:=hid (F7.out.call hb8);have B8:=hid (a0a B7.out hb8);have R8:=hid (R7.out.call hb8);have x0':=(hb8.cell (p:=⟨gv,p*3,none⟩) (a0z x0)).trans x0;have x1':=(hb8.cell (p:=⟨gv,p*3+1,none⟩) (a0z x1)).trans x1;have x2':=(hb8.cell (p:=⟨gv,p*3+2,none⟩) (a0z x2)).trans x2;clear hb8 x0 x1 x2 u0 u1 u2;by_cases hneg:q-AM<0
      ·have t9:decide (sgQ (q-AM)<0)=true:=decide_eq_true (f0f.2 hneg);have HX9:=hid (show ((d0j X qs p).set p (q-AM)).set p 0=d0j X qs (p+1) by rw[List.set_set];exact e0x HXl.out (by have h:=HXi.out;rw[show pos (q-AM)=0 from if_pos hneg]at h;exact h));obtain⟨sz,hsz⟩:∃ s,sgQ (q-AM)=s:=⟨_,rfl⟩;rw[hsz]at t9 ⊢;clear hneg hsz;go_wp2_with fail;refine (HZr _).out.mono ?_;rintro e w9 ⟨⟨v9,rfl,hv9⟩,hb9⟩;obtain⟨m9,a9,n9,c9,a10,n10,c10,rfl⟩:=hv9.qv;have R9:=hid (R8.out.call hb9);have F9:=hid (F8.out.call hb9);have B9:=hid (a0a B8.out hb9);have x0:=(hb9.cell (p:=⟨gv,p*3,none⟩) (a0z x0')).trans x0';have x1:=(hb9.cell (p:=⟨gv,p*3+1,none⟩) (a0z x1')).trans x1';have x2:=(hb9.cell (p:=⟨gv,p*3+2,none⟩) (a0z x2')).trans x2';have u0:=R9.out.free (p*3);have u1:=R9.out.free (p*3+1);have u2:=R9.out.free (p*3+2);obtain⟨P1,P2⟩:=R9.out.put (i:=p) (by rw[List.length_set];exact hpl) hv9;rw[HX9.out]at P1;have hne:g10≠gv:=HNE.out;have FN:=hid (F9.out.keep P2 (by rw[Below.heap_setCell _ _ _ _ hne,Below.heap_setCell _ _ _ _ hne,Below.heap_setCell _ _ _ _ hne]));have BN:=hid (((B9.out.setCell (p:=⟨gv,p*3,none⟩) HGB.out (.bool m9)).setCell (p:=⟨gv,p*3+1,none⟩) HGB.out (.slice a9 n9 c9)).setCell (p:=⟨gv,p*3+2,none⟩) HGB.out (.slice a10 n10 c10));have RN:=hid P1;clear hb9 hv9 P1 P2 hne hpl;go_wp2_with fail;go_roundw
       case rel=>exact⟨p+1,by go_num,by have:=HLTP.out;omega,RN,FN,BN⟩
       case measure=>simp[intOf]<;>(have:=HLTP.out;omega)
      ·have t9:decide (sgQ (q-AM)<0)=false:=decide_eq_false fun e=>hneg (f0f.1 e)
       have RN:=hid (show VRow w.heap.size w8 (.slice (some ⟨gv,0,none⟩) N cv) (d0j X qs (p+1)) by
        rw[← e0x HXl.out (by have h:=HXi.out;rw[show pos (q-AM)=q-AM from if_neg hneg]at h;exact h)];exact R8.out)
       obtain⟨sz,hsz⟩:∃ s,sgQ (q-AM)=s:=⟨_,rfl⟩;rw[hsz]at t9 ⊢;clear hneg hsz hpl;go_wp2_with fail;go_roundw
       case rel=>exact⟨p+1,by go_num,by have:=HLTP.out;omega,RN,F8,B8⟩
       case measure=>simp[intOf]<;>(have:=HLTP.out;omega)
     ·obtain rfl:p=N:=by omega
      have q9:decide ((p:Int)<(p:Int))=false:=by simp
      have RE:=hid (show VRow w.heap.size wr (.slice (some ⟨gv,0,none⟩) p cv) X by have h:=hR.out;rw[show d0j X qs p=X by rw[← HN.out];exact h0K HXl.out]at h;exact h);clear hltp hp hR;go_wp2_with fail;refine (HWR _ _ RE.out (HL.out.call hB.out)).out.mono ?_;rintro e w8 ⟨⟨u,rfl,hu⟩,hb8⟩;have y8:=hid (a0a hB.out hb8);have U8:=hid hu;clear hb8 hu;go_wp2_with fail
      try rw[Exit.noGoto_ret]
      go_ret2
      exact⟨⟨_,rfl,U8.out⟩,y8.out⟩
end Go.Proofs.YtlimaehdmcnjaaaGreatDoor
namespace Go.Proofs.YtlimaehdmcnjaaaGreatDoor
open Go.RowKit
theorem s0d:smE [⟨#[51]⟩,⟨#[45,49]⟩,⟨#[49]⟩] ⟨#[51]⟩=0:=by kernel_rfl
theorem r0i:smR [⟨#[51]⟩,⟨#[45,49]⟩,⟨#[49]⟩] ⟨#[51]⟩ = [⟨#[53,47,50]⟩,⟨#[48]⟩,⟨#[49,47,50]⟩]:=by kernel_rfl
theorem s0f:mnE [⟨#[49]⟩,⟨#[51]⟩,⟨#[50]⟩,⟨#[50]⟩,⟨#[53]⟩]=0:=by kernel_rfl
theorem r0k:mnR [⟨#[49]⟩,⟨#[51]⟩,⟨#[50]⟩,⟨#[50]⟩,⟨#[53]⟩] = [⟨#[49]⟩,⟨#[55,47,51]⟩,⟨#[55,47,51]⟩,⟨#[55,47,51]⟩,⟨#[53]⟩]:=by kernel_rfl
theorem s0e:rdE [⟨#[52,47,51]⟩,⟨#[52,47,51]⟩,⟨#[52,47,51]⟩]=0:=by kernel_rfl
theorem r0j:e0p [⟨#[52,47,51]⟩,⟨#[52,47,51]⟩,⟨#[52,47,51]⟩] = [2,1,1]:=by kernel_rfl
open Go.Shelf
theorem g0w (w:World)(v:Value)(l:List ByteArray)(t:ByteArray)(hv:Row w v (a0T l))(hs:∀ s∈l,s.size≤1000000)(ht:t.size≤1000000)(hL:Lay w)(h12:l.length≤12):
 Calls Tryz.prog 12 #[v,.string t] w fun e w'=>(∃ u,e=.returned (.tuple #[u,.int .i64 (smE l t)])∧Row w' u (a0T (smR l t)))∧Below w.heap.size w w':=by
 by_cases h0:btE l t=0
 ·by_cases h1:vQ t<0
  ·exact o0b w v l t hv hs ht hL (.inr h1)
  ·exact o0F w v l t hv hs ht hL h0 h1 h12
 ·exact o0b w v l t hv hs ht hL (.inl h0)
open Go.Lib (decDigits nDigits)
def IRow (B:Nat)(W:World)(g c N:Nat)(ns:List Nat):Prop:=W.ownsRow B 3 1 (.slice (some ⟨g,0,none⟩) N c) N (ints .i64 ns)
theorem IRow.at_ {B:Nat}{W:World}{g c N:Nat}{ns:List Nat}(h:IRow B W g c N ns)(hN:ns.length=N){i x:Nat}(hx:ns[i]?=some x):W.cell? ⟨g,i,none⟩=some (.int .i64 (x:Nat)):=by
 have hi:=(List.getElem?_eq_some_iff.1 hx).1;rw[World.ownsRow.cellAt h i (by omega)];unfold ints;rw[List.getElem?_map,hx];rfl
theorem IRow.call {B:Nat}{W W':World}{g c N:Nat}{ns:List Nat}(h:IRow B W g c N ns)(hb:Below W.heap.size W W'):IRow B W' g c N ns:=b0q h hb
theorem IRow.put {B:Nat}{W:World}{g c N:Nat}{ns:List Nat}(h:IRow B W g c N ns)(i x:Nat):IRow B (W.setCell ⟨g,i,none⟩ (.int .i64 (x:Nat))) g c N (ns.set i x):=by
 have:=h0B h i (.int .i64 (x:Nat));rw[d0n]at this;exact this
theorem IRow.lt {B:Nat}{W:World}{g c N:Nat}{ns:List Nat}(h:IRow B W g c N ns):B≤g∧g<W.heap.size:=World.ownsRow.lt h g rfl
theorem f0r {W:World}{g j:Nat}(x:Value):W.grownBy (W.setCell ⟨g,j,none⟩ x) (some g):=by
 refine⟨rfl,rfl,rfl,by simp[World.setCell],fun k hk hne=>?_⟩;have h:k≠g:=fun e=>hne (by rw[e])
 rw[Below.heap_setCell _ _ _ _ h]
theorem k0u (key:Nat→Rat)(qs:List Nat):a0r key (qs.take 1)++qs.drop 1=qs:=by
 cases qs with
 | nil=>rfl
 | cons a r=>rfl
theorem q0M (w:World)(B g c gp:Nat)(key:Nat→Rat)(qs:List Nat)(N:Nat)(hN:qs.length=N)(hv:IRow B w g c N qs)(hl:N≤12)(hcl:N≤c∧c≤9223372036854775807)
 (hd:∀ V x y,w.grownBy V (some g)→x∈qs→y∈qs→Calls Tryz.prog 69 #[.int .i64 (x:Nat),.int .i64 (y:Nat),.pointer (some ⟨gp,0,none⟩)] V fun e w'=>e=.returned (.int .i64 (cmF (key y) (key x)))∧Below V.heap.size V w'):
 Calls Tryz.prog 161 #[.slice (some ⟨g,0,none⟩) N c,.int .i64 0,.int .i64 (N:Nat),.func (.func 69) #[] #[.pointer (some ⟨gp,0,none⟩)]] w fun e w'=>e=.returned (.tuple #[])∧IRow B w' g c N (a0r key qs)∧w.grownBy w' (some g):=by
 have HV:=hid hv;have HN:=hid hN;have HL:=hid hl;have HD:=hid hd;obtain⟨c1,c2⟩:=hcl;clear hv hN hl hd;go_enter Tryz.func161,Tryz.ntmps161;go_wp2_with fail
 go_loopw [8,9] (fun s8 s9 wr=>∃ i:Nat,s8=.int .i64 (i:Nat)∧1≤i∧i≤N+1∧Hid (IRow B wr g c N (a0r key (qs.take i)++qs.drop i))∧Hid (w.grownBy wr (some g))) (fun s8 s9 wr=>N+1-(intOf s8).toNat)
 case atStart=>exact⟨1,rfl,Nat.le_refl _,by omega,by rw[k0u];exact HV,⟨rfl,rfl,rfl,Nat.le_refl _,fun _ _ _=>rfl⟩⟩
 case round=>
  obtain⟨i,rfl,hi1,hi2,hR,hG⟩:=hrel;by_cases hlt:i<N
  ·obtain⟨x,hx⟩:∃ x,qs[i]?=some x:=⟨_,List.getElem?_eq_getElem (by rw[HN.out];exact hlt)⟩;have HX:=hid hx;have HLT:=hid hlt;have HI1:=hid hi1;have R0:=hid (show IRow B wr g c N (e0U key qs i i x) by rw[i0M hx];exact hR.out);have wi:IntKind.i64.wrap ((i:Int)+1)=((i+1:Nat):Int):=by have:=HL.out;rw[IntWalk.i64_in _ ⟨by omega,by omega⟩];omega
   have t0:decide ((i:Int)<(N:Int))=true:=decide_eq_true (by omega);have t0':decide (i<N)=true:=decide_eq_true hlt;obtain⟨wo,hwo⟩:∃ q,q=wr:=⟨_,rfl⟩;subst hwo;clear hx hlt hi1 hi2 hR;go_wp2_with fail
   go_loopw [9] (fun s9 wx=>∃ j:Nat,s9=.int .i64 (j:Nat)∧j≤i∧Hid (IRow B wx g c N (e0U key qs i j x))∧Hid (∀ e∈(a0r key (qs.take i)).drop j,key e<key x)∧Hid (w.grownBy wx (some g))) (fun s9 wx=>i-((i:Int)-intOf s9).toNat)
   case atStart=>exact⟨i,rfl,Nat.le_refl _,R0,hid (fun e he=>by rw[List.drop_of_length_le (by rw[a0N,List.length_take];omega)]at he;cases he),hG⟩
   case round=>
    obtain⟨j,rfl,hj,hRj,hLs,hGj⟩:=hrel;cases j with
    | zero=>
     have FIN:=hid (show IRow B wr g c N (a0r key (qs.take (i+1))++qs.drop (i+1)) by rw[← e0d HX.out (Nat.zero_le _) hLs.out (fun k y h=>by omega)];exact hRj.out);clear hj hRj hLs R0;have GD:=hid (show w.grownBy wr.drew (some g) from⟨hGj.out.os,hGj.out.tape,hGj.out.output,hGj.out.size,hGj.out.block⟩);have FD:=hid (FIN.out.call (Below.refl _ _).drew);go_wp2_with fail;refine a0f [0,1,2,3,4,5,6,7,8,9,10,11,12,13,14,15,16] 0 (fun _=>True) (by kernel_rfl) (by kernel_rfl) (by kernel_rfl) (by kernel_rfl) trivial ?_
     iterate 17
      refine⟨_,rfl,?_⟩;apply Exists.intro
      first
       | (refine⟨.inl ⟨by rfl,?_⟩,?_⟩
          ·(intro W' hW';clear hW';go_simp;try (with_reducible rfl)))
       | refine⟨.inr ⟨by rfl,rfl⟩,?_⟩
      (dsimp only[Act.put];try simp only[List.setIfInBounds_toArray,List.set_cons_zero,List.set_cons_succ])
     refine wpAnyH_done (by kernel_rfl) ?_ _;simp only[a0o];go_wp2_with fail;go_roundw
     case rel=>exact⟨i+1,by go_num,by have:=HI1.out;omega,by have:=HLT.out;omega,FD,GD⟩
     case measure=>simp[intOf]<;>(have:=HLT.out;omega)
    | succ k=>
     obtain⟨y,hy,hy2,hsw⟩:=f0p (key:=key) (x:=x) (l:=qs) (i:=i) (j:=k) (by rw[HN.out];exact HLT.out) (by omega);have hself:=g0S (key:=key) (x:=x) (l:=qs) (i:=i) (j:=k+1) (by rw[HN.out];exact HLT.out) hj;have k0:=hRj.out.at_ (by rw[g0a (by rw[HN.out];exact HLT.out),HN.out]) hself;have k3:=hRj.out.at_ (by rw[g0a (by rw[HN.out];exact HLT.out),HN.out]) hy2;have hglt:=hRj.out.lt.2;have hyq:y∈qs:=List.mem_of_mem_take ((a0I key (qs.take i)).mem_iff.1 (List.mem_of_getElem? hy));have hxq:x∈qs:=List.mem_of_getElem? HX.out;have PL:=fun V h=>hid (HD.out V x y h hxq hyq)
     have hcz:cmF (key y) (key x)<0↔key y<key x:=o0v;obtain⟨z,hz⟩:∃ z,cmF (key y) (key x)=z:=⟨_,rfl⟩;rw[hz]at PL hcz;have HCZ:=hid hcz;clear hcz hz;have HY:=hid hy;have HSW:=hid hsw;have HJ:=hid hj;have hN12:=HL.out;have hLT:=HLT.out;have t1:(0:Int)<((k+1:Nat):Int):=by omega
     have t1':(0:Int)<(k:Int)+1:=by omega
     obtain⟨J,hJJ⟩:∃ J,k+1=J:=⟨_,rfl⟩;have wj:IntKind.i64.wrap ((J:Int)-1)=(k:Int):=by rw[IntWalk.i64_in _ ⟨by omega,by omega⟩];omega
     rw[hJJ]at k0 t1 ⊢;have HJJ:=hid hJJ;have t3:decide ((0:Int)<(J:Int))=true:=decide_eq_true t1;have t4:0<J:=by omega
     have t5:decide (0<J)=true:=decide_eq_true t4;have f0:(0:Int)≤(J:Int):=by omega
     have f1:(J:Int)<(N:Int):=by omega
     have f2:(0:Int)≤(k:Int):=by omega
     have f3:(k:Int)<(N:Int):=by omega
     have KK:Hid (∀ V,Below wr.heap.size wr V→V.cell? ⟨g,J,none⟩=some (.int .i64 (x:Nat))∧V.cell? ⟨g,k,none⟩=some (.int .i64 (y:Nat))):=fun V hV=>
      ⟨(hV.cell (p:=⟨g,J,none⟩) hglt).trans k0,(hV.cell (p:=⟨g,k,none⟩) hglt).trans k3⟩
     clear hy hy2 hsw hself hyq hxq hglt k0 k3 hJJ hj t1' hN12 hLT R0;go_wp2_with fail;refine a0f [0,1,2,3,4,5,6,7,8,9,10,11,12,13] 3 (fun V=>V.cell? ⟨g,J,none⟩=some (.int .i64 (x:Nat))∧V.cell? ⟨g,k,none⟩=some (.int .i64 (y:Nat))) (by kernel_rfl) (by kernel_rfl) (by kernel_rfl) (by kernel_rfl) (KK.out _ (Below.refl _ _).drew) ?_
     iterate 14
      refine⟨_,rfl,?_⟩;apply Exists.intro
      refine⟨.inl ⟨by rfl,?_⟩,?_⟩
      ·(intro W' hW';obtain⟨z1,z2⟩:=hW';go_simp;try (with_reducible rfl))
      (dsimp only[Act.put];try simp only[List.setIfInBounds_toArray,List.set_cons_zero,List.set_cons_succ])
     refine b0r (i:=14) (by kernel_rfl) (by rfl) (by rfl) ?_;go_wp2_with fail;refine (PL _ (hGj.out.trans (b0c (r:=some g) (Below.refl _ _).drew))).out.mono ?_;rintro e w6 ⟨rfl,hb6⟩;have x6:=hid (show Below wr.heap.size wr w6 from (Below.refl _ _).drew.trans hb6);clear hb6;by_cases hyx:key y<key x
     ·have q0:decide (z<0)=true:=decide_eq_true (HCZ.out.2 hyx);have LS:=hid (h0e (key:=key) HY.out hyx (by have h:=hLs.out;exact h));clear hyx;go_wp2_with fail;refine⟨KK.out _ x6.out,?_⟩;refine a0d (is:=[15,16]) (g:=0) (by kernel_rfl) rfl (KK.out _ x6.out) (by kernel_rfl) ?_
      iterate 2
       refine⟨_,rfl,?_⟩;apply Exists.intro
       refine⟨.inl ⟨by rfl,?_⟩,?_⟩
       ·(intro W' hW';obtain⟨z1,z2⟩:=hW';go_simp;try (with_reducible rfl))
       (dsimp only[Act.put];try simp only[List.setIfInBounds_toArray,List.set_cons_zero,List.set_cons_succ])
      refine wpAnyH_done (by kernel_rfl) ?_ _;simp only[a0o];have R6:=hid (hRj.out.call x6.out);obtain⟨z1,z2⟩:=KK.out _ x6.out;have h1:=World.ownsRow.frozenAt R6.out J;have h2:=World.ownsRow.frozenAt R6.out k;go_wp2_with fail;have ne0:(J=k)=False:=by have:=HJJ.out;simp;omega
      have ne00:(k=J)=False:=by have:=HJJ.out;simp;omega
      go_region
      have HSW2:((e0U key qs i (k+1) x).set J y).set k x=e0U key qs i k x:=by rw[← HJJ.out];exact HSW.out
      have P3:=(R6.out.put J y).put k x;rw[HSW2]at P3;have RN:=hid (P3.call (Below.refl _ _).drew);have GN:=hid (f0s (((hGj.out.trans (b0c (r:=some g) x6.out)).trans (f0r (g:=g) (j:=J) (.int .i64 (y:Nat)))).trans (f0r (g:=g) (j:=k) (.int .i64 (x:Nat)))));clear P3 HSW2;go_wp2_with fail;go_roundw
      case rel=>exact⟨k,by go_num,by have:=HJ.out;omega,RN,LS,GN⟩
      case measure=>simp[intOf]<;>(have:=HJ.out;have:=HJJ.out;omega)
     ·have q0:decide (z<0)=false:=decide_eq_false fun e=>hyx (HCZ.out.1 e)
      have FIN:=hid (show IRow B wr g c N (a0r key (qs.take (i+1))++qs.drop (i+1)) by
       rw[← e0d HX.out HJ.out hLs.out (fun k2 y2 h h2=>by
        obtain rfl:k=k2:=by omega
        rw[HY.out]at h2;rw[← Option.some.inj h2];exact hyx)]
       exact hRj.out)
      have FD:=hid (FIN.out.call x6.out);have GD:=hid (hGj.out.trans (b0c (r:=some g) x6.out));clear hyx;go_wp2_with fail;refine⟨KK.out _ x6.out,?_⟩;refine a0d (is:=[15,16]) (g:=0) (by kernel_rfl) rfl (KK.out _ x6.out) (by kernel_rfl) ?_
      iterate 2
       refine⟨_,rfl,?_⟩;apply Exists.intro
       refine⟨.inl ⟨by rfl,?_⟩,?_⟩
       ·(intro W' hW';obtain⟨z1,z2⟩:=hW';go_simp;try (with_reducible rfl))
       (dsimp only[Act.put];try simp only[List.setIfInBounds_toArray,List.set_cons_zero,List.set_cons_succ])
      refine wpAnyH_done (by kernel_rfl) ?_ _;simp only[a0o];go_wp2_with fail;go_roundw
      case rel=>exact⟨i+1,by go_num,by have:=HI1.out;omega,by have:=HLT.out;omega,FD,GD⟩
      case measure=>simp[intOf]<;>(have:=HLT.out;omega)
  ·have t0:decide ((i:Int)<(N:Int))=false:=decide_eq_false (by omega);have t0':decide (i<N)=false:=decide_eq_false hlt
   have FIN:=hid (show IRow B wr g c N (a0r key qs) by
    have h:=hR.out;rw[List.take_of_length_le (by rw[HN.out];omega),List.drop_of_length_le (by rw[HN.out];omega),List.append_nil]at h;exact h)
   clear hlt hi1 hi2 hR;go_wp2_with fail;exact⟨rfl,.tuple #[],results_none (by kernel_rfl) _ _ _,rfl,FIN.out,hG.out⟩
theorem q0N (w:World)(B gp:Nat)(v:Value)(ps:List Rat)(a b:Nat)(x y:Rat)(hv:VRow B w v ps)(hl:ps.length≤64)(hc:w.cell? ⟨gp,0,none⟩=some v)(ha:ps[a]?=some x)(hb:ps[b]?=some y)(lx:Lim x)(ly:Lim y):
 Calls Tryz.prog 69 #[.int .i64 (a:Nat),.int .i64 (b:Nat),.pointer (some ⟨gp,0,none⟩)] w fun e w'=>e=.returned (.int .i64 (cmF y x))∧Below w.heap.size w w':=by
 obtain⟨a0,c,rfl,c1,c2⟩:=hv.slice;obtain⟨N,hN⟩:∃ n,ps.length=n:=⟨_,rfl⟩;have ia:=(List.getElem?_eq_some_iff.1 ha).1;have ib:=(List.getElem?_eq_some_iff.1 hb).1;rw[hN]at hv c1 hl hc ia ib;obtain⟨g,m1,a1,n1,p1,b1,d1,e1,rfl,-,hg,k0,k1,k2,hQx⟩:=hv.at ha;obtain⟨g',m2,a2,n2,p2,b2,d2,e2,ee,-,-,k3,k4,k5,hQy⟩:=hv.at hb;obtain rfl:g=g':=by simpa using ee
 have hgp:=a0z hc;have PL:=fun V u v hu hv=>hid (l0O V u v y x hu hv ly.1 ly.2 lx.1 lx.2)
 obtain⟨z,hz⟩:∃ z,cmF y x=z:=⟨_,rfl⟩;rw[hz]at PL;rw[hz];have f0:(0:Int)≤(a:Int):=by omega
 have f1:(a:Int)<(N:Int):=by omega
 have f2:(0:Int)≤(b:Int):=by omega
 have f3:(b:Int)<(N:Int):=by omega
 have KK:Hid (∀ V,Below w.heap.size w V→V.cell? ⟨gp,0,none⟩=some (.slice (some ⟨g,0,none⟩) N c)∧V.cell? ⟨g,a*3,none⟩=some (.bool m1)∧V.cell? ⟨g,a*3+1,none⟩=some (.slice a1 n1 p1)∧V.cell? ⟨g,a*3+2,none⟩=some (.slice b1 d1 e1)∧V.cell? ⟨g,b*3,none⟩=some (.bool m2)∧V.cell? ⟨g,b*3+1,none⟩=some (.slice a2 n2 p2)∧V.cell? ⟨g,b*3+2,none⟩=some (.slice b2 d2 e2)):=fun V hV=>
  ⟨(hV.cell (p:=⟨gp,0,none⟩) hgp).trans hc,(hV.cell (p:=⟨g,a*3,none⟩) hg).trans k0,(hV.cell (p:=⟨g,a*3+1,none⟩) hg).trans k1,(hV.cell (p:=⟨g,a*3+2,none⟩) hg).trans k2,(hV.cell (p:=⟨g,b*3,none⟩) hg).trans k3,(hV.cell (p:=⟨g,b*3+1,none⟩) hg).trans k4,(hV.cell (p:=⟨g,b*3+2,none⟩) hg).trans k5⟩
 have QX:=hid hQx;have QY:=hid hQy;clear hv hl hc ha hb lx ly hN ia ib ee hQx hQy hz k0 k1 k2 k3 k4 k5 hgp hg;go_enter Tryz.func69,Tryz.ntmps69;go_wp2_with fail;refine a0f [0,1,2,3,4,5,6,7] 2 (fun V=>V.cell? ⟨gp,0,none⟩=some (.slice (some ⟨g,0,none⟩) N c)∧V.cell? ⟨g,a*3,none⟩=some (.bool m1)∧V.cell? ⟨g,a*3+1,none⟩=some (.slice a1 n1 p1)∧V.cell? ⟨g,a*3+2,none⟩=some (.slice b1 d1 e1)∧V.cell? ⟨g,b*3,none⟩=some (.bool m2)∧V.cell? ⟨g,b*3+1,none⟩=some (.slice a2 n2 p2)∧V.cell? ⟨g,b*3+2,none⟩=some (.slice b2 d2 e2)) (by kernel_rfl) (by kernel_rfl) (by kernel_rfl) (by kernel_rfl) (KK.out _ (Below.refl _ _).drew) ?_
 iterate 8
  refine⟨_,rfl,?_⟩;apply Exists.intro
  refine⟨.inl ⟨by rfl,?_⟩,?_⟩
  ·(intro W' hW';obtain⟨z1,z2,z3,z4,z5,z6,z7⟩:=hW';go_simp;try (with_reducible rfl))
  (dsimp only[Act.put];try simp only[List.setIfInBounds_toArray,List.set_cons_zero,List.set_cons_succ])
 refine a0b (i:=8) (by kernel_rfl) (by rfl) (by rfl) ?_;go_wp2_with fail;refine (PL _ _ _ (QY.out.call (Below.refl _ _).drew) (QX.out.call (Below.refl _ _).drew)).out.mono ?_;rintro e w6 ⟨rfl,hb6⟩;have x6:=hid (show Below w.heap.size w w6 from (Below.refl _ _).drew.trans hb6);clear hb6;go_wp2_with fail;refine⟨KK.out _ x6.out,?_⟩;refine a0d (is:=[9]) (g:=0) (by kernel_rfl) rfl (KK.out _ x6.out) (by kernel_rfl) ?_
 iterate 1
  refine⟨_,rfl,?_⟩;apply Exists.intro
  refine⟨.inl ⟨by rfl,?_⟩,?_⟩
  ·(intro W' hW';obtain⟨z1,z2,z3,z4,z5,z6,z7⟩:=hW';go_simp;try (with_reducible rfl))
  (dsimp only[Act.put];try simp only[List.setIfInBounds_toArray,List.set_cons_zero,List.set_cons_succ])
 refine wpAnyH_done (by kernel_rfl) ?_ _;simp only[a0o];go_wp2_with fail;go_ret
 exact⟨rfl,x6.out⟩
theorem m0R (w:World)(g c gp:Nat)(N:Nat)(S:World→Prop)
 (hI:Calls Tryz.prog 161 #[.slice (some ⟨g,0,none⟩) N c,.int .i64 0,.int .i64 (N:Nat),.func (.func 69) #[] #[.pointer (some ⟨gp,0,none⟩)]] w fun e w'=>e=.returned (.tuple #[])∧S w') (hl:N≤12):
 Calls Tryz.prog 117 #[.slice (some ⟨g,0,none⟩) N c,.int .i64 (N:Nat),.func (.func 69) #[] #[.pointer (some ⟨gp,0,none⟩)]] w fun e w'=>e=.returned (.tuple #[])∧S w':=by
 have HI:=hid hI;have t0:decide ((20:Int)≤(N:Int))=false:=decide_eq_false (by omega);have t1:decide (20≤N)=false:=decide_eq_false (by omega);have t2:decide ((20:Int)<(N:Int))=false:=decide_eq_false (by omega);have t3:decide (20<N)=false:=decide_eq_false (by omega);clear hI hl;go_enter Tryz.func117,Tryz.ntmps117;go_wp2_with fail
 go_loopw [7,8] (fun s7 s8 wr=>s7=.int .i64 0∧s8=.int .i64 20∧w=wr) (fun s7 s8 wr=>1)
 case atStart=>exact⟨rfl,rfl,rfl⟩
 case round=>
  obtain⟨rfl,rfl,rfl⟩:=hrel;go_wp2_with fail;refine HI.out.mono ?_;rintro e w1 ⟨rfl,hs⟩;have HS:=hid hs;clear hs;go_wp2_with fail
  go_loopw [6,7,8,9] (fun s6 s7 s8 s9 wr=>s6=.int .i64 20∧w1=wr) (fun s6 s7 s8 s9 wr=>1)
  case atStart=>exact⟨rfl,rfl⟩
  case round=>
   obtain⟨rfl,rfl⟩:=hrel;go_wp2_with fail;exact⟨rfl,.tuple #[],results_none (by kernel_rfl) _ _ _,rfl,HS.out⟩
theorem IRow.nok {B:Nat}{W:World}{g N:Nat}{ns:List Nat}(h:IRow B W g N N ns):∃ cur,Blk W g cur 3∧NoK .u64 cur:=by
 rcases h.2 with ⟨h0,-⟩ | ⟨g',cap,cur,e,h1,h2,h3,h4,h5,h6⟩
 ·cases h0
 ·injection e with e1 e2 e3
  have eg:g=g':=by simpa using e1
  subst eg e3;refine⟨cur,h2,NoK.of fun x hx=>?_⟩;have hl:cur.toList=ints .i64 ns:=by
   rw[← h6,List.take_of_length_le (by rw[Array.length_toList,h5];omega)]
  rw[hl]at hx;unfold ints at hx;obtain⟨y,-,hy⟩:=List.mem_map.1 hx;cases hy
theorem IRow.keeps {B:Nat}{W V:World}{g N:Nat}{ns:List Nat}(h:IRow B W g N N ns)(hV:W.grownBy V (some g)):KeepK .u64 W V:=by
 obtain⟨cur,h1,h2⟩:=h.nok;exact KeepK.grown h1 h2 hV
theorem VRow.grown {B:Nat}{W V:World}{v:Value}{qs:List Rat}{g:Nat}(h:VRow B W v qs)(hk:KeepK .u64 W V)(hV:W.grownBy V (some g))(hne:v.ownBlock≠some g):VRow B V v qs:=by
 obtain⟨cs,h1,h2⟩:=h.ex;exact⟨cs,h1.keep fun g' hg'=>hV.block g' (h1.own.lt g' hg').2 (fun e=>hne (by rw[hg',← e])),h2.keep hk⟩
theorem o0P (w:World)(B B2 g gp:Nat)(v:Value)(ps:List Rat)(qs:List Nat)(N:Nat)(hN:qs.length=N)(hv:IRow B w g N N qs)(hl:N≤12)
 (hp:VRow B2 w v ps) (hpl:ps.length≤64) (hpd:∀ q∈ps,Lim q) (hc:w.cell? ⟨gp,0,none⟩=some v) (hne:gp≠g) (hne2:v.ownBlock≠some g) (hq:∀ x∈qs,x<ps.length):
 Calls Tryz.prog 68 #[.slice (some ⟨g,0,none⟩) N N,.func (.func 69) #[] #[.pointer (some ⟨gp,0,none⟩)]] w fun e w'=>e=.returned (.tuple #[])∧IRow B w' g N N (a0r (fun i=>ps.getD i 0) qs)∧w.grownBy w' (some g):=by
 have HI:=hid (m0R w g N gp N (fun w'=>IRow B w' g N N (a0r (fun i=>ps.getD i 0) qs)∧w.grownBy w' (some g)) (q0M w B g N gp (fun i=>ps.getD i 0) qs N hN hv hl ⟨by omega,by omega⟩ (fun V x y hV hx hy=>by
  have hgx:=a0z hc;have hp2:VRow B2 V v ps:=hp.grown (hv.keeps hV) hV hne2;have hc2:V.cell? ⟨gp,0,none⟩=some v:=hV.cell hc (fun e=>hne (by simpa using e));have hx2:ps[x]?=some (ps.getD x 0):=by rw[List.getD_eq_getElem?_getD,List.getElem?_eq_getElem (hq x hx)];rfl
  have hy2:ps[y]?=some (ps.getD y 0):=by rw[List.getD_eq_getElem?_getD,List.getElem?_eq_getElem (hq y hy)];rfl
  exact q0N V B2 gp v ps x y _ _ hp2 hpl hc2 hx2 hy2 (hpd _ (List.mem_of_getElem? hx2)) (hpd _ (List.mem_of_getElem? hy2)))) hl)
 clear hv hN hl hp hpl hpd hc hq;go_enter Tryz.func68,Tryz.ntmps68;go_wp2_with fail;refine HI.out.mono ?_;rintro e w1 ⟨rfl,hr,hg⟩;have HR:=hid hr;have HG:=hid hg;clear hr hg;go_wp2_with fail
 go_end0
 exact⟨rfl,HR.out,HG.out⟩
end Go.Proofs.YtlimaehdmcnjaaaGreatDoor
