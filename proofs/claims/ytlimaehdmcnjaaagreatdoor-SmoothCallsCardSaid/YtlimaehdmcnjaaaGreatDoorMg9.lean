/- Texts that the proof rests on, merged: Rf5, Rqc, Rf6, R2z, R1mb, R1nb, R1p, Rf7, Rqd, Rf8. -/
import Derived.Test.YtlimaehdmcnjaaaGreatDoorMg8
import Derived.Deep.DeepCutAuto
set_option linter.unusedVariables false
set_option linter.unusedSimpArgs false
set_option linter.unusedSectionVars false
set_option maxRecDepth 100000
set_option maxHeartbeats 8000000
namespace Go.Proofs.YtlimaehdmcnjaaaGreatDoor
open Go.RowKit
open Go.Shelf
open Go.Lib (decDigits nDigits)
theorem e0D {W:World}{b:Nat}{m0:Bool}{a0 b0:Option Addr}{n0 c0 n1 c1:Nat}{t:TypeId}(hb:Blk W b #[.bool m0,.slice a0 n0 c0,.slice b0 n1 c1] t)(m:Bool)(a a':Option Addr)(k e k' e':Nat):
 KeepK .i64 W (((W.setCell ⟨b,0,none⟩ (.bool m)).setCell ⟨b,1,none⟩ (.slice a k e)).setCell ⟨b,2,none⟩ (.slice a' k' e')):=by
 have n1:NoK .i64 #[.bool m0,.slice a0 n0 c0,.slice b0 n1 c1]:=by
  intro i x hx
  match i with
  | 0=>simp at hx
  | 1=>simp at hx
  | 2=>simp at hx
  | i+3=>simp at hx
 have k1:=KeepK.set hb n1 0 (.bool m);have b1:=Blk.set hb 0 (.bool m);have n2:=n1.set 0 (u:=.bool m) (fun x e=>by cases e);have k2:=KeepK.set b1 n2 1 (.slice a k e);have b2:=Blk.set b1 1 (.slice a k e);have n3:=n2.set 1 (u:=.slice a k e) (fun x e=>by cases e);exact (k1.trans k2).trans (KeepK.set b2 n3 2 (.slice a' k' e'))
theorem b0D {p q:Rat}:0<d0V p q↔q<p:=by
 have:=c0N (p:=p) (q:=q)
 constructor
 ·intro h;have h2:¬ p≤q:=fun e=>by have:=this.2 e;omega
  grind
 ·intro h;apply Classical.byContradiction
  intro hn;have:=this.1 (by omega)
  grind
theorem m0N (w:World)(v:Value)(l:List ByteArray)(t:ByteArray)(hv:Row w v (a0T l))(hs:∀ s∈l,s.size≤20)(ht:t.size≤20)(h0:btE l t≠0):
 Calls Tryz.prog 33 #[v,.string t] w fun e w'=>(∃ u,e=.returned (.tuple #[u,.int .i64 (smE l t)])∧Row w' u (a0T (smR l t)))∧Below w.heap.size w w':=by
 have HC:=hid (d0c w v l t hv (fun s hs'=>by have:=hs s hs';omega) (by omega));have e1:smE l t=btE l t:=by unfold smE;rw[if_neg h0]
 have e2:smR l t = []:=by unfold smR;rw[if_neg h0]
 rw[e1,e2];obtain⟨E,hE⟩:∃ x,btE l t=x:=⟨_,rfl⟩;rw[hE]at HC h0 ⊢;have t2:(E==0)=false:=by simpa using h0
 have t3:(E != 0)=true:=by simpa using h0
 obtain⟨a,c,rfl,-,-,-⟩:=hv.openS;clear hv hs ht hE h0 e1 e2;go_enter Tryz.func33,Tryz.ntmps33;go_wp2_with fail;refine HC.out.mono ?_;rintro e w1 ⟨rfl,hb1⟩;have y1:=hid hb1;clear hb1;go_wp2_with fail;go_ret2
 exact⟨⟨_,rfl,Row.nil _⟩,y1.out⟩
theorem o0H (w:World)(v:Value)(l:List ByteArray)(t:ByteArray)(hv:Row w v (a0T l))(hs:∀ s∈l,s.size≤20)(hl:l.length≤12)(ht:t.size≤20)(h0:btE l t=0)(hn:vQ t<0):
 Calls Tryz.prog 33 #[v,.string t] w fun e w'=>(∃ u,e=.returned (.tuple #[u,.int .i64 (smE l t)])∧Row w' u (a0T (smR l t)))∧Below w.heap.size w w':=by
 have z1:∀ s∈l,s.size≤1000000:=fun s hs'=>by have:=hs s hs';omega
 have HC:=hid (d0c w v l t hv z1 (by omega));obtain⟨hve,hqt⟩:=m0t h0;have V1:=j0j hve hs hl;have e1:smE l t=2:=by unfold smE;rw[if_pos h0,if_pos hn]
 have e2:smR l t = []:=by unfold smR;rw[if_pos h0,if_pos hn]
 rw[e1,e2];rw[h0]at HC;have PR:=fun V x hx=>hid (b0Q V x l hx z1 V1.q (by omega))
 have PT:=fun V=>hid (b0x V t (by omega) hqt)
 have HM:=hid (show decide ((vQ t).num<0)=true by rw[l0k];exact decide_eq_true hn);have HV:=hid hv;obtain⟨a1,c1,rfl,-,-,-⟩:=hv.openS;clear hv hs hl ht z1 h0 hn e1 e2 hve hqt V1;go_enter Tryz.func33,Tryz.ntmps33;go_wp2_with fail;refine HC.out.mono ?_;rintro e w1 ⟨rfl,hb1⟩;have y1:=hid hb1;clear hb1;go_wp2_with fail;refine (PT _).out.mono ?_;rintro e w2 ⟨⟨u2,rfl,hu2⟩,hb2⟩;have y2:=hid (a0a y1.out hb2);obtain⟨m2,a2,n2,k2,a3,n3,k3,rfl⟩:=hu2.qv;have hm:m2=true:=by rw[d0m hu2,HM.out]
 subst hm;clear hb2 hu2;go_wp2_with fail;refine (PR _ _ (HV.out.call y2.out)).out.mono ?_;rintro e w3 ⟨⟨u3,rfl,hu3⟩,hb3⟩;have y3:=hid (a0a y2.out hb3);obtain⟨a4,c4,rfl,-,-⟩:=hu3.slice;clear hb3 hu3;go_wp2_with fail;go_ret2
 exact⟨⟨_,rfl,Row.nil _⟩,y3.out.alloc y3.out.size _⟩
theorem q0I (w:World)(v:Value)(l:List ByteArray)(t:ByteArray)(hv:Row w v (a0T l))(hs:∀ s∈l,s.size≤20)(hl:l.length≤12)(ht:t.size≤20)(h0:btE l t=0)(hneg:¬ vQ t<0):
 Calls Tryz.prog 33 #[v,.string t] w fun e w'=>(∃ u,e=.returned (.tuple #[u,.int .i64 (smE l t)])∧Row w' u (a0T (smR l t)))∧Below w.heap.size w w':=by
 have z1:∀ s∈l,s.size≤1000000:=fun s hs'=>by have:=hs s hs';omega
 have HC:=hid (d0c w v l t hv z1 (by omega));obtain⟨hve,hqt⟩:=m0t h0;have V1:=j0j hve hs hl;have HLT:=LT.of V1 hqt ht;have e1:smE l t=wrE (smQ (l.map vQ) (vQ t)):=by unfold smE;rw[if_pos h0,if_neg hneg]
 have e2:smR l t=wrL (smQ (l.map vQ) (vQ t)):=by unfold smR;rw[if_pos h0,if_neg hneg]
 rw[e1,e2];rw[h0]at HC;have PR:=fun V x hx=>hid (b0Q V x l hx z1 V1.q (by omega))
 have PT:=fun V=>hid (b0x V t (by omega) hqt)
 have PZ:=fun V=>hid (b0x V ⟨#[48]⟩ (by decide) q0Z)
 rw[q0z]at PZ;have HM:=hid (show decide ((vQ t).num<0)=false by rw[l0k];exact decide_eq_false hneg);obtain⟨T,hT⟩:∃ T,vQ t=T:=⟨_,rfl⟩;rw[hT]at HLT PT HM ⊢;obtain⟨L,hL⟩:∃ L,l.map vQ=L:=⟨_,rfl⟩;rw[hL]at HLT PR ⊢;obtain⟨D,hD⟩:∃ D,vD l*T.den=D:=⟨_,rfl⟩;rw[hD]at HLT;have dl:∀ q∈L,Dig 4000 q:=fun q hq=>HLT.dig (HLT.dv q hq) (by omega)
 have PSo:=fun V x hx=>hid (j0t V x L hx HLT.n dl)
 rw[q0J];have hperm:=a0I (fun q:Rat=>q) L;have hdl0:(a0r (fun q=>q) L).length=L.length:=a0N _ L;have hdm0:∀ q∈a0r (fun q=>q) L,q∈L:=fun q hq=>hperm.mem_iff.1 hq
 obtain⟨d,hd⟩:∃ d,a0r (fun q=>q) L=d:=⟨_,rfl⟩;rw[hd]at PSo hdl0 hdm0 ⊢;obtain⟨n,hn⟩:∃ n,l.length=n:=⟨_,rfl⟩;have hLn:L.length=n:=by rw[← hL,List.length_map,hn]
 have hp:=V1.pos;have hdn:d.length=n:=by omega
 have dK:=o0c HLT hdm0 (by omega) (by omega);rw[hdn]at dK ⊢;have GK:=hid (fun k (h:k≤n)=>HLT.dig12 (dK k h) (show 23≤40 by omega));obtain⟨d0,hd0⟩:∃ x,d[0]?=some x:=⟨_,List.getElem?_eq_getElem (by omega)⟩;have hK0:smK T d 0=d0-T:=by
  rw[smK];cases d with
  | nil=>simp at hd0
  | cons x r=>simp at hd0;subst hd0;rfl
 have dT:Dig 4000 T:=HLT.dig HLT.dT (by omega);have PM1:=fun V x y hx hy=>hid (d0b V x y d0 T hx hy (dl d0 (hdm0 _ (List.mem_of_getElem? hd0))) dT)
 rw[← hK0]at PM1;have dS:=fun k=>HLT.sum (s:=d.take k) (fun q hq=>hdm0 q (List.mem_of_mem_take hq)) (by rw[List.length_take];omega)
 have PSU:=hid (fun (k:Nat) V x hx=>hid (e0q V x (d.take k) hx (by rw[List.length_take];omega) (fun i _=>HLT.dig (HLT.sum (s:=(d.take k).take i) (fun q hq=>hdm0 q (List.mem_of_mem_take (List.mem_of_mem_take hq))) (by rw[List.length_take,List.length_take];omega)) (by omega)) (fun q hq=>dl q (hdm0 q (List.mem_of_mem_take hq)))));have PM2':=hid (fun (k:Nat) V x y hx hy=>hid (d0b V x y (rs (d.take k)) T hx hy (HLT.dig (dS k) (by omega)) dT));have PO':=hid (fun (k:Nat) (h1:0<k) (h2:k≤n) V x hx=>hid (f0M V x (rs (d.take k)-T) k hx (HLT.dig ((dS k).sub10 (HLT.dT.up10 (by omega))) (by omega)) h1 (by omega)));have GR:=hid (fun (k:Nat) (h1:0<k) (h2:k≤n)=>HLT.dig12 (((dS k).sub10 (HLT.dT.up10 (by omega))).over12 h1 (by omega)) (show 23≤40 by omega));have GD:=hid (fun q (h:q∈d)=>dl q (hdm0 q h));have PM3:=hid (fun V x y (q:Rat) (hq:q∈L) hx hy=>hid (d0b V x y q (smK T d n) hx hy (dl q hq) (HLT.dig12 (dK n (Nat.le_refl _)) (by omega))))
 have PW:=fun V x hx=>hid (d0x V x (L.map fun x=>Go.Proofs.YtlimaehdmcnjaaaGreatDoor.pos (x-smK T d n)) hx (by rw[List.length_map];omega) (fun q hq=>by
  obtain⟨a,ha,rfl⟩:=List.mem_map.1 hq;have h1:=((HLT.up (HLT.dv a ha) (show 20≤23 by omega)).sub10 (dK n (Nat.le_refl _))).posQ;exact e0z (HLT.dig12 h1 (by omega))))
 obtain⟨f,hf⟩:∃ f:Rat→Rat,(fun x=>Go.Proofs.YtlimaehdmcnjaaaGreatDoor.pos (x-smK T d n))=f:=⟨_,rfl⟩;rw[hf]at PW ⊢;have HF:=hid (fun a=>(show f a=Go.Proofs.YtlimaehdmcnjaaaGreatDoor.pos (a-smK T d n) by rw[← hf]));have KST:=hid (fun (j:Nat)=>(show smK T d (j+1)=if (rs (d.take (j+1))-T) / ((j+1:Nat):Rat)<d.getD j 0 then (rs (d.take (j+1))-T) / ((j+1:Nat):Rat) else smK T d j from by rw[smK]));have HV:=hid hv;obtain⟨a1,c1,rfl,q1,q2,-⟩:=hv.openS;rw[hn]at q1 HV HC ⊢;have HLN:=hid hLn;have HDN:=hid hdn;have HN12:=hid (show n≤12 by omega);have HN0:=hid (show 0<n by omega);have HD0:=hid hd0;clear hv hs hl ht z1 h0 hneg e1 e2 hve hqt V1 HLT hT hL hD dl hd hperm hdl0 hdm0 hn hLn hp hdn dK hd0 hK0 dT dS hf;go_enter Tryz.func33,Tryz.ntmps33;go_wp2_with fail;refine HC.out.mono ?_;rintro e w1 ⟨rfl,hb1⟩;have y1:=hid hb1;clear hb1;go_wp2_with fail;refine (PT _).out.mono ?_;rintro e w2 ⟨⟨u2,rfl,hu2⟩,hb2⟩;have y2:=hid (a0a y1.out hb2);obtain⟨mT,aT,nT,kT,bT,oT,lT,rfl⟩:=hu2.qv;have hm:mT=false:=by rw[d0m hu2,HM.out]
 subst hm;have Q2:=hid hu2;clear hb2 hu2;go_wp2_with fail;refine (PR _ _ (HV.out.call y2.out)).out.mono ?_;rintro e w3 ⟨⟨u3,rfl,hu3⟩,hb3⟩;have y3:=hid (a0a y2.out hb3);have R3:=hid (hu3.low (C:=w.heap.size) y2.out.size);have Q3:=hid (Q2.out.call hb3);have QBT:=hid (QB.new Q3.out);have BT:=hid (Blk.new w3 #[.bool false,.slice aT nT kT,.slice bT oT lT] 79);have A3:=hid ((Below.refl w3.heap.size w3).alloc (Nat.le_refl _) (.cells #[.bool false,.slice aT nT kT,.slice bT oT lT] 79));obtain⟨a3,c3,rfl,r1,r2⟩:=hu3.slice;rw[HLN.out]at R3 r1 ⊢;have R3A:=hid (R3.out.call A3.out);have Q3A:=hid (Q3.out.call A3.out);clear hb3 hu3;go_wp2_with fail;refine (PSo _ _ R3A.out.rd).out.mono ?_;rintro e W ⟨⟨u4,rfl,hu4⟩,hb4⟩;have yW:=hid (a0a (a0a y3.out A3.out) hb4);have RS:=hid hu4;have RV:=hid (R3A.out.call hb4);have QT:=hid (Q3A.out.call hb4);have BTW:=hid (BT.out.call hb4);obtain⟨aS,cS,rfl,s1,s2⟩:=hu4.slice;rw[HDN.out]at RS s1 ⊢;obtain⟨gs,os,mD,aD,nD,kD,bD,oD,lD,eS,hgs,k0,k1,k2,hQD⟩:=RS.out.at HD0.out;subst eS;rw[Nat.zero_mul,Nat.add_zero]at k0 k1 k2;have QD0:=hid hQD;have KK:Hid (∀ V,Below W.heap.size W V→(V.cell? ⟨gs,os,none⟩=some (.bool mD)∧V.cell? ⟨gs,os+1,none⟩=some (.slice aD nD kD)∧V.cell? ⟨gs,os+2,none⟩=some (.slice bD oD lD))∧(V.cell? ⟨w3.heap.size,0,none⟩=some (.bool false)∧V.cell? ⟨w3.heap.size,1,none⟩=some (.slice aT nT kT)∧V.cell? ⟨w3.heap.size,2,none⟩=some (.slice bT oT lT))):=fun V h=>
  ⟨⟨(h.cell (p:=⟨gs,_,none⟩) hgs).trans k0,(h.cell (p:=⟨gs,_,none⟩) hgs).trans k1,(h.cell (p:=⟨gs,_,none⟩) hgs).trans k2⟩,(BTW.out.call h).cell 0,(BTW.out.call h).cell 1,(BTW.out.call h).cell 2⟩
 have i0:(0:Int)≤0:=by omega
 have i1:(0:Int)<(n:Int):=by have:=HN0.out;omega
 have i2:0<n:=HN0.out;clear hb4 hu4 hgs k0 k1 k2 hQD
 go_upto_region 8 with fail
 go_cut [10] (fun s10 wx=>∃ g,s10=.pointer (some ⟨g,0,none⟩)∧Hid (W.heap.size≤g)∧Hid (QB wx g (smK T d 0))∧Hid (Below W.heap.size W wx))
 case first=>
  refine a0f [0,1,2,3] 3 (fun V=>(V.cell? ⟨gs,os,none⟩=some (.bool mD)∧V.cell? ⟨gs,os+1,none⟩=some (.slice aD nD kD)∧V.cell? ⟨gs,os+2,none⟩=some (.slice bD oD lD))∧(V.cell? ⟨w3.heap.size,0,none⟩=some (.bool false)∧V.cell? ⟨w3.heap.size,1,none⟩=some (.slice aT nT kT)∧V.cell? ⟨w3.heap.size,2,none⟩=some (.slice bT oT lT))) (by kernel_rfl) (by kernel_rfl) (by kernel_rfl) (by kernel_rfl) (KK.out _ (Below.refl _ _).drew) ?_
  iterate 4
   refine⟨_,rfl,?_⟩;apply Exists.intro
   refine⟨.inl ⟨by rfl,?_⟩,?_⟩
   ·(intro W' hW';obtain⟨⟨z1,z2,z3⟩,z4,z5,z6⟩:=hW';go_simp;try (with_reducible rfl))
   (dsimp only[Act.put];try simp only[List.setIfInBounds_toArray,List.set_cons_zero,List.set_cons_succ])
  obtain⟨V0,hV0⟩:∃ x,W.drew=x:=⟨_,rfl⟩;have BV0:=hid (show Below W.heap.size W V0 by rw[← hV0];exact (Below.refl _ _).drew);rw[hV0];clear hV0;refine a0k (i:=4) (j:=5) (by kernel_rfl) (by rfl) (by rfl) (by rfl) (by rfl) ?_ ?_
  ·skip
   go_wp2_with fail;refine (PM1 V0 _ _ (QD0.out.call BV0.out) (QT.out.call BV0.out)).out.mono ?_;rintro e V1 ⟨⟨u1,rfl,hv⟩,hb⟩;obtain⟨mA,aA,nA,cA,bA,dA,eA,rfl⟩:=hv.qv;have BV1:=hid (a0a BV0.out hb);have CA:=hid hv;clear hb hv;go_wp2_with fail;refine⟨KK.out _ BV1.out,?_⟩;refine a0b (i:=5) (by kernel_rfl) (by rfl) (by rfl) ?_;go_wp2_with fail;obtain⟨V2,hV⟩:∃ x,V1.alloc (.cells #[.bool false,.slice none 0 0,.slice none 0 0] 79)=x:=⟨_,rfl⟩;have hb:Below V1.heap.size V1 V2:=by rw[← hV];exact (Below.refl _ _).alloc (Nat.le_refl _) _
   have XA:=hid (show Blk V2 V1.heap.size #[.bool false,.slice none 0 0,.slice none 0 0] 79 by rw[← hV];exact Blk.new _ _ _);have BV2:=hid (a0a BV1.out hb);have GA:=hid (show W.heap.size≤V1.heap.size from BV1.out.size);have CA:=hid (CA.out.call hb);rw[hV];clear hb hV;refine⟨KK.out _ BV2.out,?_⟩;refine a0b (i:=6) (by kernel_rfl) (by rfl) (by rfl) ?_;have r0:=XA.out.cell 0;have r1:=XA.out.cell 1;have r2:=XA.out.cell 2;have f0:=XA.out.free 0;have f1:=XA.out.free 1;have f2:=XA.out.free 2;simp at r0 r1 r2;have FBA:=hid (QB.put XA.out CA.out);have BV3:=hid (((BV2.out.setCell (p:=⟨V1.heap.size,0,none⟩) GA.out (.bool mA)).setCell (p:=⟨V1.heap.size,1,none⟩) GA.out (.slice aA nA cA)).setCell (p:=⟨V1.heap.size,2,none⟩) GA.out (.slice bA dA eA));have KP:=hid (e0D XA.out mA aA bA nA cA dA eA);clear KP;go_wp2_with fail;refine⟨KK.out _ BV3.out,?_⟩;refine wpAnyH_done (by kernel_rfl) ?_ _;simp only[a0o];go_wp2_with fail
   go_meet
   exact⟨_,rfl,GA,FBA,BV3⟩
  ·skip
   go_wp2_with fail;obtain⟨V4,hV⟩:∃ x,V0.alloc (.cells #[.bool false,.slice none 0 0,.slice none 0 0] 79)=x:=⟨_,rfl⟩;have hb:Below V0.heap.size V0 V4:=by rw[← hV];exact (Below.refl _ _).alloc (Nat.le_refl _) _
   have XA:=hid (show Blk V4 V0.heap.size #[.bool false,.slice none 0 0,.slice none 0 0] 79 by rw[← hV];exact Blk.new _ _ _);have BV4:=hid (a0a BV0.out hb);have GA:=hid (show W.heap.size≤V0.heap.size from BV0.out.size);rw[hV];clear hb hV;refine⟨KK.out _ BV4.out,?_⟩;refine a0b (i:=4) (by kernel_rfl) (by rfl) (by rfl) ?_;go_wp2_with fail;refine (PM1 V4 _ _ (QD0.out.call BV4.out) (QT.out.call BV4.out)).out.mono ?_;rintro e V5 ⟨⟨u5,rfl,hv⟩,hb⟩;obtain⟨mA,aA,nA,cA,bA,dA,eA,rfl⟩:=hv.qv;have BV5:=hid (a0a BV4.out hb);have XA:=hid (XA.out.call hb);have CA:=hid hv;clear hb hv;go_wp2_with fail;refine⟨KK.out _ BV5.out,?_⟩;refine a0b (i:=6) (by kernel_rfl) (by rfl) (by rfl) ?_;have r0:=XA.out.cell 0;have r1:=XA.out.cell 1;have r2:=XA.out.cell 2;have f0:=XA.out.free 0;have f1:=XA.out.free 1;have f2:=XA.out.free 2;simp at r0 r1 r2;have FBA:=hid (QB.put XA.out CA.out);have BV6:=hid (((BV5.out.setCell (p:=⟨V0.heap.size,0,none⟩) GA.out (.bool mA)).setCell (p:=⟨V0.heap.size,1,none⟩) GA.out (.slice aA nA cA)).setCell (p:=⟨V0.heap.size,2,none⟩) GA.out (.slice bA dA eA));have KP:=hid (e0D XA.out mA aA bA nA cA dA eA);clear KP;go_wp2_with fail;refine⟨KK.out _ BV6.out,?_⟩;refine wpAnyH_done (by kernel_rfl) ?_ _;simp only[a0o];go_wp2_with fail
   go_meet
   exact⟨_,rfl,GA,FBA,BV6⟩
 case rest=>
  obtain⟨gA,rfl,HGA,HQA,HBA⟩:=hcut;clear KK i0 i1 i2;have BTH:=hid (show Blk W w3.heap.size #[.bool false,.slice aT nT kT,.slice bT oT lT] 79 from BTW.out);have HGT:=hid (show w3.heap.size<W.heap.size from BTW.out.lt);go_wp2_with fail
  go_loopw [11,12] (fun s11 s12 wr=>∃ k:Nat,s11=.int .i64 (k:Nat)∧1≤k∧k≤n+1∧Hid (QB wr gA (smK T d (k-1)))∧Hid (gA<wr.heap.size)∧Hid (Below W.heap.size W wr)) (fun s11 s12 wr=>n+1-(intOf s11).toNat)
  case atStart=>exact⟨1,rfl,Nat.le_refl _,by omega,HQA,hid (by obtain⟨m,a,n,c,a',n',c',h1,-⟩:=HQA.out;exact h1.lt),HBA⟩
  case round=>
   obtain⟨k,rfl,hk1,hk2,hQ,hGL,hB⟩:=hrel;by_cases hlt:k≤n
   ·obtain⟨j,hj⟩:∃ j,k=j+1:=⟨k-1,by omega⟩;have HJ:=hid hj;have HJ0:=hid (show smK T d (k-1)=smK T d j by rw[hj];rfl);rw[HJ0.out]at hQ;have HKN:=hid hlt;have HK1:=hid hk1;have PSu:=PSU.out k;have PM2:=PM2'.out k;have PO:=PO'.out k hk1 hlt;have RSk:=hid ((RS.out.cut hlt).call hB.out);have QTr:=hid (QT.out.call hB.out);have BTr:=hid (BTH.out.call hB.out);have KK:Hid (∀ V,Below wr.heap.size wr V→V.cell? ⟨w3.heap.size,0,none⟩=some (.bool false)∧V.cell? ⟨w3.heap.size,1,none⟩=some (.slice aT nT kT)∧V.cell? ⟨w3.heap.size,2,none⟩=some (.slice bT oT lT)):=fun V h=>⟨(BTr.out.call h).cell 0,(BTr.out.call h).cell 1,(BTr.out.call h).cell 2⟩
    have q0:(k:Int)≤(n:Int):=by omega
    have q1:(k:Int)≤(cS:Int):=by omega
    have q2:(0:Int)≤(k:Int):=by omega
    have q3:decide ((k:Int)≤(n:Int))=true:=decide_eq_true q0;have q4:decide (k≤n)=true:=decide_eq_true hlt;have HR:=hid ((RS.out.call hB.out).at (show d[j]?=some (d.getD j 0) by simp[List.getD_eq_getElem?_getD,show j<d.length by rw[HDN.out];omega]));have HKS:=hid (KST.out j);rw[← HJ.out]at HKS;have GRk:=hid (GR.out k hk1 hlt);have HDJ:=hid (GD.out (d.getD j 0) (List.mem_of_getElem? (show d[j]?=some (d.getD j 0) by simp[List.getD_eq_getElem?_getD,show j<d.length by rw[HDN.out];omega])));obtain⟨R,hR⟩:∃ R,(rs (d.take k)-T) / ((k:Nat):Rat)=R:=⟨_,rfl⟩;rw[hR]at PO GRk HKS;obtain⟨sj,hsj⟩:∃ x,d.getD j 0=x:=⟨_,rfl⟩;rw[hsj]at HR HDJ HKS;have wi:IntKind.i64.wrap ((k:Int)+1)=((k+1:Nat):Int):=by have:=HN12.out;rw[IntWalk.i64_in _ ⟨by omega,by omega⟩];omega
    have ws:IntKind.i64.wrap ((k:Int)-1)=(j:Int):=by have:=HN12.out;rw[IntWalk.i64_in _ ⟨by omega,by omega⟩];omega
    have j0:(0:Int)≤(j:Int):=by omega
    have j1:(j:Int)<(n:Int):=by omega
    clear hR hsj hj hk1 hk2 hlt;obtain⟨QT,hqt⟩:∃ Q,Q=QTr:=⟨_,rfl⟩;clear hqt
    go_upto_region 12 with fail
    go_cut [12] (fun s12 wx=>∃ g,s12=.pointer (some ⟨g,0,none⟩)∧Hid (wr.heap.size≤g)∧Hid (QB wx g R)∧Hid (Below wr.heap.size wr wx))
    case first=>
     refine a0f [0,1,2,4,6] 5 (fun V=>V.cell? ⟨w3.heap.size,0,none⟩=some (.bool false)∧V.cell? ⟨w3.heap.size,1,none⟩=some (.slice aT nT kT)∧V.cell? ⟨w3.heap.size,2,none⟩=some (.slice bT oT lT)) (by kernel_rfl) (by kernel_rfl) (by kernel_rfl) (by kernel_rfl) (KK.out _ (Below.refl _ _).drew) ?_
     iterate 5
      refine⟨_,rfl,?_⟩;apply Exists.intro
      refine⟨.inl ⟨by rfl,?_⟩,?_⟩
      ·(intro W' hW';obtain⟨z4,z5,z6⟩:=hW';go_simp;try (with_reducible rfl))
      (dsimp only[Act.put];try simp only[List.setIfInBounds_toArray,List.set_cons_zero,List.set_cons_succ])
     obtain⟨V0,hV0⟩:∃ x,wr.drew=x:=⟨_,rfl⟩;have BV0:=hid (show Below wr.heap.size wr V0 by rw[← hV0];exact (Below.refl _ _).drew);rw[hV0];clear hV0;refine a0k (i:=3) (j:=8) (by kernel_rfl) (by rfl) (by rfl) (by rfl) (by rfl) ?_ ?_
     ·skip
      go_wp2_with fail;refine (PSu V0 _ (RSk.out.call BV0.out)).out.mono ?_;rintro e V1 ⟨⟨u1,rfl,hv⟩,hb⟩;obtain⟨mS,aS,nS,cS,bS,dS,eS,rfl⟩:=hv.qv;have BV1:=hid (a0a BV0.out hb);have CS:=hid hv;clear hb hv;go_wp2_with fail;refine⟨KK.out _ BV1.out,?_⟩;refine a0k (i:=5) (j:=8) (by kernel_rfl) (by rfl) (by rfl) (by rfl) (by rfl) ?_ ?_
      ·skip
       go_wp2_with fail;refine (PM2 V1 _ _ CS.out (QT.out.call BV1.out)).out.mono ?_;rintro e V2 ⟨⟨u2,rfl,hv⟩,hb⟩;obtain⟨mM,aM,nM,cM,bM,dM,eM,rfl⟩:=hv.qv;have BV2:=hid (a0a BV1.out hb);have CS:=hid (CS.out.call hb);have CM:=hid hv;clear hb hv;go_wp2_with fail;refine⟨KK.out _ BV2.out,?_⟩;refine a0k (i:=7) (j:=8) (by kernel_rfl) (by rfl) (by rfl) (by rfl) (by rfl) ?_ ?_
       ·skip
        go_wp2_with fail;refine (PO V2 _ CM.out).out.mono ?_;rintro e V3 ⟨⟨u3,rfl,hv⟩,hb⟩;obtain⟨mY,aY,nY,cY,bY,dY,eY,rfl⟩:=hv.qv;have BV3:=hid (a0a BV2.out hb);have CS:=hid (CS.out.call hb);have CM:=hid (CM.out.call hb);have CY:=hid hv;clear hb hv;go_wp2_with fail;refine⟨KK.out _ BV3.out,?_⟩;refine a0b (i:=8) (by kernel_rfl) (by rfl) (by rfl) ?_;go_wp2_with fail;obtain⟨V4,hV⟩:∃ x,V3.alloc (.cells #[.bool false,.slice none 0 0,.slice none 0 0] 79)=x:=⟨_,rfl⟩;have hb:Below V3.heap.size V3 V4:=by rw[← hV];exact (Below.refl _ _).alloc (Nat.le_refl _) _
        have XX:=hid (show Blk V4 V3.heap.size #[.bool false,.slice none 0 0,.slice none 0 0] 79 by rw[← hV];exact Blk.new _ _ _);have BV4:=hid (a0a BV3.out hb);have GX:=hid (show wr.heap.size≤V3.heap.size from BV3.out.size);have CS:=hid (CS.out.call hb);have CM:=hid (CM.out.call hb);have CY:=hid (CY.out.call hb);rw[hV];clear hb hV;refine⟨KK.out _ BV4.out,?_⟩;refine a0b (i:=9) (by kernel_rfl) (by rfl) (by rfl) ?_;have r0:=XX.out.cell 0;have r1:=XX.out.cell 1;have r2:=XX.out.cell 2;have f0:=XX.out.free 0;have f1:=XX.out.free 1;have f2:=XX.out.free 2;simp at r0 r1 r2;have FBX:=hid (QB.put XX.out CY.out);have BV5:=hid (((BV4.out.setCell (p:=⟨V3.heap.size,0,none⟩) GX.out (.bool mY)).setCell (p:=⟨V3.heap.size,1,none⟩) GX.out (.slice aY nY cY)).setCell (p:=⟨V3.heap.size,2,none⟩) GX.out (.slice bY dY eY));have KP:=hid (e0D XX.out mY aY bY nY cY dY eY);have CS:=hid (KP.out.isQ CS.out);have CM:=hid (KP.out.isQ CM.out);clear KP;go_wp2_with fail;refine⟨KK.out _ BV5.out,?_⟩;refine wpAnyH_done (by kernel_rfl) ?_ _;simp only[a0o];go_wp2_with fail
        go_meet
        exact⟨_,rfl,GX,FBX,BV5⟩
       ·skip
        go_wp2_with fail;obtain⟨V6,hV⟩:∃ x,V2.alloc (.cells #[.bool false,.slice none 0 0,.slice none 0 0] 79)=x:=⟨_,rfl⟩;have hb:Below V2.heap.size V2 V6:=by rw[← hV];exact (Below.refl _ _).alloc (Nat.le_refl _) _
        have XX:=hid (show Blk V6 V2.heap.size #[.bool false,.slice none 0 0,.slice none 0 0] 79 by rw[← hV];exact Blk.new _ _ _);have BV6:=hid (a0a BV2.out hb);have GX:=hid (show wr.heap.size≤V2.heap.size from BV2.out.size);have CS:=hid (CS.out.call hb);have CM:=hid (CM.out.call hb);rw[hV];clear hb hV;refine⟨KK.out _ BV6.out,?_⟩;refine a0b (i:=7) (by kernel_rfl) (by rfl) (by rfl) ?_;go_wp2_with fail;refine (PO V6 _ CM.out).out.mono ?_;rintro e V7 ⟨⟨u7,rfl,hv⟩,hb⟩;obtain⟨mY,aY,nY,cY,bY,dY,eY,rfl⟩:=hv.qv;have BV7:=hid (a0a BV6.out hb);have CS:=hid (CS.out.call hb);have CM:=hid (CM.out.call hb);have XX:=hid (XX.out.call hb);have CY:=hid hv;clear hb hv;go_wp2_with fail;refine⟨KK.out _ BV7.out,?_⟩;refine a0b (i:=9) (by kernel_rfl) (by rfl) (by rfl) ?_;have r0:=XX.out.cell 0;have r1:=XX.out.cell 1;have r2:=XX.out.cell 2;have f0:=XX.out.free 0;have f1:=XX.out.free 1;have f2:=XX.out.free 2;simp at r0 r1 r2;have FBX:=hid (QB.put XX.out CY.out);have BV8:=hid (((BV7.out.setCell (p:=⟨V2.heap.size,0,none⟩) GX.out (.bool mY)).setCell (p:=⟨V2.heap.size,1,none⟩) GX.out (.slice aY nY cY)).setCell (p:=⟨V2.heap.size,2,none⟩) GX.out (.slice bY dY eY));have KP:=hid (e0D XX.out mY aY bY nY cY dY eY);have CS:=hid (KP.out.isQ CS.out);have CM:=hid (KP.out.isQ CM.out);clear KP;go_wp2_with fail;refine⟨KK.out _ BV8.out,?_⟩;refine wpAnyH_done (by kernel_rfl) ?_ _;simp only[a0o];go_wp2_with fail
        go_meet
        exact⟨_,rfl,GX,FBX,BV8⟩
      ·skip
       go_wp2_with fail;obtain⟨V9,hV⟩:∃ x,V1.alloc (.cells #[.bool false,.slice none 0 0,.slice none 0 0] 79)=x:=⟨_,rfl⟩;have hb:Below V1.heap.size V1 V9:=by rw[← hV];exact (Below.refl _ _).alloc (Nat.le_refl _) _
       have XX:=hid (show Blk V9 V1.heap.size #[.bool false,.slice none 0 0,.slice none 0 0] 79 by rw[← hV];exact Blk.new _ _ _);have BV9:=hid (a0a BV1.out hb);have GX:=hid (show wr.heap.size≤V1.heap.size from BV1.out.size);have CS:=hid (CS.out.call hb);rw[hV];clear hb hV;refine⟨KK.out _ BV9.out,?_⟩;refine a0b (i:=5) (by kernel_rfl) (by rfl) (by rfl) ?_;go_wp2_with fail;refine (PM2 V9 _ _ CS.out (QT.out.call BV9.out)).out.mono ?_;rintro e V10 ⟨⟨u10,rfl,hv⟩,hb⟩;obtain⟨mM,aM,nM,cM,bM,dM,eM,rfl⟩:=hv.qv;have BV10:=hid (a0a BV9.out hb);have CS:=hid (CS.out.call hb);have XX:=hid (XX.out.call hb);have CM:=hid hv;clear hb hv;go_wp2_with fail;refine⟨KK.out _ BV10.out,?_⟩;refine a0b (i:=7) (by kernel_rfl) (by rfl) (by rfl) ?_;go_wp2_with fail;refine (PO V10 _ CM.out).out.mono ?_;rintro e V11 ⟨⟨u11,rfl,hv⟩,hb⟩;obtain⟨mY,aY,nY,cY,bY,dY,eY,rfl⟩:=hv.qv;have BV11:=hid (a0a BV10.out hb);have CS:=hid (CS.out.call hb);have CM:=hid (CM.out.call hb);have XX:=hid (XX.out.call hb);have CY:=hid hv;clear hb hv;go_wp2_with fail;refine⟨KK.out _ BV11.out,?_⟩;refine a0b (i:=9) (by kernel_rfl) (by rfl) (by rfl) ?_;have r0:=XX.out.cell 0;have r1:=XX.out.cell 1;have r2:=XX.out.cell 2;have f0:=XX.out.free 0;have f1:=XX.out.free 1;have f2:=XX.out.free 2;simp at r0 r1 r2;have FBX:=hid (QB.put XX.out CY.out);have BV12:=hid (((BV11.out.setCell (p:=⟨V1.heap.size,0,none⟩) GX.out (.bool mY)).setCell (p:=⟨V1.heap.size,1,none⟩) GX.out (.slice aY nY cY)).setCell (p:=⟨V1.heap.size,2,none⟩) GX.out (.slice bY dY eY));have KP:=hid (e0D XX.out mY aY bY nY cY dY eY);have CS:=hid (KP.out.isQ CS.out);have CM:=hid (KP.out.isQ CM.out);clear KP;go_wp2_with fail;refine⟨KK.out _ BV12.out,?_⟩;refine wpAnyH_done (by kernel_rfl) ?_ _;simp only[a0o];go_wp2_with fail
       go_meet
       exact⟨_,rfl,GX,FBX,BV12⟩
     ·skip
      go_wp2_with fail;obtain⟨V13,hV⟩:∃ x,V0.alloc (.cells #[.bool false,.slice none 0 0,.slice none 0 0] 79)=x:=⟨_,rfl⟩;have hb:Below V0.heap.size V0 V13:=by rw[← hV];exact (Below.refl _ _).alloc (Nat.le_refl _) _
      have XX:=hid (show Blk V13 V0.heap.size #[.bool false,.slice none 0 0,.slice none 0 0] 79 by rw[← hV];exact Blk.new _ _ _);have BV13:=hid (a0a BV0.out hb);have GX:=hid (show wr.heap.size≤V0.heap.size from BV0.out.size);rw[hV];clear hb hV;refine⟨KK.out _ BV13.out,?_⟩;refine a0b (i:=3) (by kernel_rfl) (by rfl) (by rfl) ?_;go_wp2_with fail;refine (PSu V13 _ (RSk.out.call BV13.out)).out.mono ?_;rintro e V14 ⟨⟨u14,rfl,hv⟩,hb⟩;obtain⟨mS,aS,nS,cS,bS,dS,eS,rfl⟩:=hv.qv;have BV14:=hid (a0a BV13.out hb);have XX:=hid (XX.out.call hb);have CS:=hid hv;clear hb hv;go_wp2_with fail;refine⟨KK.out _ BV14.out,?_⟩;refine a0b (i:=5) (by kernel_rfl) (by rfl) (by rfl) ?_;go_wp2_with fail;refine (PM2 V14 _ _ CS.out (QT.out.call BV14.out)).out.mono ?_;rintro e V15 ⟨⟨u15,rfl,hv⟩,hb⟩;obtain⟨mM,aM,nM,cM,bM,dM,eM,rfl⟩:=hv.qv;have BV15:=hid (a0a BV14.out hb);have CS:=hid (CS.out.call hb);have XX:=hid (XX.out.call hb);have CM:=hid hv;clear hb hv;go_wp2_with fail;refine⟨KK.out _ BV15.out,?_⟩;refine a0b (i:=7) (by kernel_rfl) (by rfl) (by rfl) ?_;go_wp2_with fail;refine (PO V15 _ CM.out).out.mono ?_;rintro e V16 ⟨⟨u16,rfl,hv⟩,hb⟩;obtain⟨mY,aY,nY,cY,bY,dY,eY,rfl⟩:=hv.qv;have BV16:=hid (a0a BV15.out hb);have CS:=hid (CS.out.call hb);have CM:=hid (CM.out.call hb);have XX:=hid (XX.out.call hb);have CY:=hid hv;clear hb hv;go_wp2_with fail;refine⟨KK.out _ BV16.out,?_⟩;refine a0b (i:=9) (by kernel_rfl) (by rfl) (by rfl) ?_;have r0:=XX.out.cell 0;have r1:=XX.out.cell 1;have r2:=XX.out.cell 2;have f0:=XX.out.free 0;have f1:=XX.out.free 1;have f2:=XX.out.free 2;simp at r0 r1 r2;have FBX:=hid (QB.put XX.out CY.out);have BV17:=hid (((BV16.out.setCell (p:=⟨V0.heap.size,0,none⟩) GX.out (.bool mY)).setCell (p:=⟨V0.heap.size,1,none⟩) GX.out (.slice aY nY cY)).setCell (p:=⟨V0.heap.size,2,none⟩) GX.out (.slice bY dY eY));have KP:=hid (e0D XX.out mY aY bY nY cY dY eY);have CS:=hid (KP.out.isQ CS.out);have CM:=hid (KP.out.isQ CM.out);clear KP;go_wp2_with fail;refine⟨KK.out _ BV17.out,?_⟩;refine wpAnyH_done (by kernel_rfl) ?_ _;simp only[a0o];go_wp2_with fail
      go_meet
      exact⟨_,rfl,GX,FBX,BV17⟩
    case rest=>
     obtain⟨gX,rfl,HGX,HQX,HBX⟩:=hcut;clear KK;obtain⟨gs2,os2,m2,a2,n2,k2,b2,o2,l2,e2,hgs2,z0,z1,z2,hQ2⟩:=HR.out;simp only[Option.some.injEq,Addr.mk.injEq,and_true]at e2;obtain⟨rfl,rfl⟩:=e2;obtain⟨mX,aX,nX,kX,bX,oX,lX,hBX,hQX⟩:=HQX.out;have BX:=hid hBX;have QX:=hid hQX;have QSj:=hid (hQ2.call HBX.out);have KK:Hid (∀ V,Below wc.heap.size wc V→(V.cell? ⟨gs,os+j*3,none⟩=some (.bool m2)∧V.cell? ⟨gs,os+j*3+1,none⟩=some (.slice a2 n2 k2)∧V.cell? ⟨gs,os+j*3+2,none⟩=some (.slice b2 o2 l2))∧(V.cell? ⟨gX,0,none⟩=some (.bool mX)∧V.cell? ⟨gX,1,none⟩=some (.slice aX nX kX)∧V.cell? ⟨gX,2,none⟩=some (.slice bX oX lX))):=fun V h=>
      ⟨⟨((a0a HBX.out h).cell (p:=⟨gs,_,none⟩) hgs2).trans z0,((a0a HBX.out h).cell (p:=⟨gs,_,none⟩) hgs2).trans z1,((a0a HBX.out h).cell (p:=⟨gs,_,none⟩) hgs2).trans z2⟩,(BX.out.call h).cell 0,(BX.out.call h).cell 1,(BX.out.call h).cell 2⟩
     have PE:=fun V v u h1 h2=>hid (b0V V v u sj R h1 h2 HDJ.out GRk.out)
     have HZC:=hid (b0D (p:=sj) (q:=R));obtain⟨B,hBB⟩:∃ B,d0V sj R=B:=⟨_,rfl⟩;rw[hBB]at PE HZC;clear hgs2 z0 z1 z2 hQ2 hBX hQX hBB;go_wp2_with fail;refine a0f [0,1,2,3,4,5] 2 (fun V=>(V.cell? ⟨gs,os+j*3,none⟩=some (.bool m2)∧V.cell? ⟨gs,os+j*3+1,none⟩=some (.slice a2 n2 k2)∧V.cell? ⟨gs,os+j*3+2,none⟩=some (.slice b2 o2 l2))∧(V.cell? ⟨gX,0,none⟩=some (.bool mX)∧V.cell? ⟨gX,1,none⟩=some (.slice aX nX kX)∧V.cell? ⟨gX,2,none⟩=some (.slice bX oX lX))) (by kernel_rfl) (by kernel_rfl) (by kernel_rfl) (by kernel_rfl) (KK.out _ (Below.refl _ _).drew) ?_
     iterate 6
      refine⟨_,rfl,?_⟩;apply Exists.intro
      refine⟨.inl ⟨by rfl,?_⟩,?_⟩
      ·(intro W' hW';obtain⟨⟨z1,z2,z3⟩,z4,z5,z6⟩:=hW';go_simp;try (with_reducible rfl))
      (dsimp only[Act.put];try simp only[List.setIfInBounds_toArray,List.set_cons_zero,List.set_cons_succ])
     refine a0b (i:=6) (by kernel_rfl) (by rfl) (by rfl) ?_;go_wp2_with fail;refine (PE _ _ _ (QSj.out.call (Below.refl _ _).drew) (QX.out.call (Below.refl _ _).drew)).out.mono ?_;rintro e w7 ⟨rfl,hb7⟩;have x7:=hid (show Below wc.heap.size wc w7 from (Below.refl _ _).drew.trans hb7);have b7:=hid (a0a HBX.out x7.out);clear hb7;by_cases hgt:R<sj
     ·have t0:decide ((0:Int)<B)=true:=decide_eq_true (HZC.out.2 hgt);have ESM:=hid (show smK T d k=R by rw[HKS.out,if_pos hgt]);obtain⟨mA,aA,nA,kA,bA,oA,lA,hBA,-⟩:=hQ.out;have BA7:=hid (hBA.call b7.out);have BX7:=hid (BX.out.call x7.out);have QX7:=hid (QX.out.call x7.out);obtain⟨-,x0,x1,x2⟩:=KK.out _ x7.out;have u0:=BA7.out.cell 0;have u1:=BA7.out.cell 1;have u2:=BA7.out.cell 2;have u3:=BA7.out.free 0;have u4:=BA7.out.free 1;have u5:=BA7.out.free 2;simp at u0 u1 u2;have QN:=hid (QB.put BA7.out QX7.out);rw[← ESM.out]at QN;have BN:=hid ((((a0a hB.out b7.out).setCell (p:=⟨gA,0,none⟩) HGA.out (.bool mX)).setCell (p:=⟨gA,1,none⟩) HGA.out (.slice aX nX kX)).setCell (p:=⟨gA,2,none⟩) HGA.out (.slice bX oX lX));have GN:=hid (show gA<w7.heap.size from BA7.out.lt);clear hgt hBA;go_wp2_with fail;refine⟨KK.out _ x7.out,?_⟩;refine a0d (is:=[7]) (g:=0) (by kernel_rfl) rfl (KK.out _ x7.out) (by kernel_rfl) ?_
      iterate 1
       refine⟨_,rfl,?_⟩;apply Exists.intro
       refine⟨.inl ⟨by rfl,?_⟩,?_⟩
       ·(intro W' hW';obtain⟨⟨z1,z2,z3⟩,z4,z5,z6⟩:=hW';go_simp;try (with_reducible rfl))
       (dsimp only[Act.put];try simp only[List.setIfInBounds_toArray,List.set_cons_zero,List.set_cons_succ])
      refine wpAnyH_done (by kernel_rfl) ?_ _;simp only[a0o];go_wp2_with fail;go_roundw
      case rel=>exact⟨k+1,by go_num,by omega,by have:=HKN.out;omega,QN,hid (by have:=GN.out;simp[World.setCell];omega),BN⟩
      case measure=>simp[intOf]<;>(have:=HKN.out;omega)
     ·have t0:decide ((0:Int)<B)=false:=decide_eq_false (fun h=>hgt (HZC.out.1 h));have ESM:=hid (show smK T d k=smK T d j by rw[HKS.out,if_neg hgt]);have QN:=hid (hQ.out.call b7.out);rw[← ESM.out]at QN;have BN:=hid (a0a hB.out b7.out);have GN:=hid (Nat.lt_of_lt_of_le hGL.out b7.out.size);clear hgt;go_wp2_with fail;refine⟨KK.out _ x7.out,?_⟩;refine a0d (is:=[7]) (g:=0) (by kernel_rfl) rfl (KK.out _ x7.out) (by kernel_rfl) ?_
      iterate 1
       refine⟨_,rfl,?_⟩;apply Exists.intro
       refine⟨.inl ⟨by rfl,?_⟩,?_⟩
       ·(intro W' hW';obtain⟨⟨z1,z2,z3⟩,z4,z5,z6⟩:=hW';go_simp;try (with_reducible rfl))
       (dsimp only[Act.put];try simp only[List.setIfInBounds_toArray,List.set_cons_zero,List.set_cons_succ])
      refine wpAnyH_done (by kernel_rfl) ?_ _;simp only[a0o];go_wp2_with fail;go_roundw
      case rel=>exact⟨k+1,by go_num,by omega,by have:=HKN.out;omega,QN,GN,BN⟩
      case measure=>simp[intOf]<;>(have:=HKN.out;omega)
   ·have q3:decide ((k:Int)≤(n:Int))=false:=decide_eq_false (by omega);have q3':(n:Int)<(k:Int):=by omega
    have q4:decide (k≤n)=false:=decide_eq_false (by omega);have q4':n<k:=by omega
    have hkn:=hid (show k-1=n by omega);rw[hkn.out]at hQ;obtain⟨A,hA⟩:∃ A,smK T d n=A:=⟨_,rfl⟩;rw[hA]at hQ PM3 HF;have RVr:=hid (RV.out.call hB.out);have BWr:=hid (a0a yW.out hB.out);have GL:=hid (fun g (h:Value.ownBlock (.slice a3 n c3)=some g)=>(show g<W.heap.size from RV.out.low' g h));clear hlt hA PSU PM2' PO' GR KST;go_wp2_with fail
    go_loopw [13] (fun s13 wx=>∃ i:Nat,s13=.int .i64 (i:Nat)∧i≤n∧Hid (WRow w.heap.size wx (.slice a3 n c3) ((L.take i).map f++L.drop i))∧Hid (QB wx gA A)∧Hid (Below w.heap.size w wx)) (fun s13 wx=>n-(intOf s13).toNat)
    case atStart=>exact⟨0,rfl,Nat.zero_le _,RVr,hQ,BWr⟩
    case round=>
     obtain⟨i,rfl,hi,hR,hQ,hB⟩:=hrel;by_cases hlt:i<n
     ·obtain⟨q,hq⟩:∃ q,L[i]?=some q:=⟨_,List.getElem?_eq_getElem (by rw[HLN.out];exact hlt)⟩;obtain⟨e1,e2⟩:=g0N (f:=f) hq;have E2:=hid e2;obtain⟨g,mq,aq,nq,cq,aq',nq',cq',rfl,hBg,hgl,k0,k1',k2',hQQ⟩:=hR.out.at e1;have QQ:=hid hQQ;have GG:=hid (show g<gA from Nat.lt_of_lt_of_le (GL.out g rfl) HGA.out);obtain⟨mM,aM,nM,cM,aM',nM',cM',hbM,hqM⟩:=hQ.out;have VM:=hid hqM;have BM:=hid hbM;have PPx:=fun V x y hx hy=>PM3.out V x y q (List.mem_of_getElem? hq) hx hy
      have EF:=hid (HF.out q);have KM:Hid (∀ V,Below wr.heap.size wr V→V.cell? ⟨gA,0,none⟩=some (.bool mM)∧V.cell? ⟨gA,1,none⟩=some (.slice aM nM cM)∧V.cell? ⟨gA,2,none⟩=some (.slice aM' nM' cM')):=fun V h=>⟨(BM.out.call h).cell 0,(BM.out.call h).cell 1,(BM.out.call h).cell 2⟩
      have KE:Hid (∀ V,Below wr.heap.size wr V→V.cell? ⟨g,i*3,none⟩=some (.bool mq)∧V.cell? ⟨g,i*3+1,none⟩=some (.slice aq nq cq)∧V.cell? ⟨g,i*3+2,none⟩=some (.slice aq' nq' cq')):=fun V h=>⟨(h.cell (p:=⟨g,_,none⟩) hgl).trans k0,(h.cell (p:=⟨g,_,none⟩) hgl).trans k1',(h.cell (p:=⟨g,_,none⟩) hgl).trans k2'⟩
      have f1:(0:Int)≤(i:Int):=by omega
      have f2:(i:Int)<(n:Int):=by omega
      have wi:IntKind.i64.wrap ((i:Int)+1)=((i+1:Nat):Int):=by have:=HN12.out;rw[IntWalk.i64_in _ ⟨by omega,by omega⟩];omega
      have HLT:=hid hlt;have HBG:=hid hBg;have hlen:=hid (show ((L.take i).map f++L.drop i).length=n by rw[List.length_append,List.length_map,List.length_take,List.length_drop,HLN.out];omega);obtain⟨z0,z1,z2⟩:=KE.out _ (Below.refl _ _).drew;clear hq e1 e2 k0 k1' k2' hQQ hbM hqM hlt hBg hgl hQ;go_wp2_with fail;refine a0f [0,1,2,3,4,6] 4 (fun V=>V.cell? ⟨gA,0,none⟩=some (.bool mM)∧V.cell? ⟨gA,1,none⟩=some (.slice aM nM cM)∧V.cell? ⟨gA,2,none⟩=some (.slice aM' nM' cM')) (by kernel_rfl) (by kernel_rfl) (by kernel_rfl) (by kernel_rfl) (KM.out _ (Below.refl _ _).drew) ?_
      iterate 6
       refine⟨_,rfl,?_⟩;apply Exists.intro
       refine⟨.inl ⟨by rfl,?_⟩,?_⟩
       ·(intro W' hW';obtain⟨p1,p2,p3⟩:=hW';go_simp;try (with_reducible rfl))
       (dsimp only[Act.put];try simp only[List.setIfInBounds_toArray,List.set_cons_zero,List.set_cons_succ])
      refine a0b (i:=5) (by kernel_rfl) (by rfl) (by rfl) ?_;go_wp2_with fail;refine⟨KM.out _ (Below.refl _ _).drew,?_⟩;refine a0b (i:=7) (by kernel_rfl) (by rfl) (by rfl) ?_;go_wp2_with fail;refine (PPx _ _ _ (QQ.out.call (Below.refl _ _).drew) (VM.out.call (Below.refl _ _).drew)).out.mono ?_;rintro e w7 ⟨⟨v7,rfl,hv7⟩,hb7⟩;obtain⟨m7,a7,n7,c7,a8,n8,c8,rfl⟩:=hv7.qv;have x7:=hid (show Below wr.heap.size wr w7 from (Below.refl _ _).drew.trans hb7);have V7:=hid hv7;have BM7:=hid (BM.out.call x7.out);have R7:=hid (hR.out.call x7.out);obtain⟨t0,t1,t2⟩:=KE.out _ x7.out;have t3:=R7.out.free (g:=g) (i*3);have t4:=R7.out.free (g:=g) (i*3+1);have t5:=R7.out.free (g:=g) (i*3+2);clear hb7 hv7 z0 z1 z2;go_wp2_with fail;refine⟨KM.out _ x7.out,?_⟩;refine a0b (i:=8) (by kernel_rfl) (by rfl) (by rfl) ?_;go_wp2_with fail;refine⟨KM.out _ x7.out,?_⟩;refine a0b (i:=9) (by kernel_rfl) (by rfl) (by rfl) ?_;go_wp2_with fail;obtain⟨RP,KP⟩:=R7.out.put (i:=i) (by rw[hlen.out];exact HLT.out) V7.out;have BN:=((BM7.out.other (a:=⟨g,i*3,none⟩) (by have h:=GG.out;show g≠gA;omega) (.bool m7)).other (a:=⟨g,i*3+1,none⟩) (by have h:=GG.out;show g≠gA;omega) (.slice a7 n7 c7)).other (a:=⟨g,i*3+2,none⟩) (by have h:=GG.out;show g≠gA;omega) (.slice a8 n8 c8);have QN:=hid (show QB _ gA A from⟨mM,aM,nM,cM,aM',nM',cM',BN,KP.isQ (VM.out.call x7.out)⟩);have RN:=hid RP;have B7:=hid (((((hB.out.trans (x7.out.mono hB.out.size)).setCell (p:=⟨g,i*3,none⟩) HBG.out (.bool m7)).setCell (p:=⟨g,i*3+1,none⟩) HBG.out (.slice a7 n7 c7)).setCell (p:=⟨g,i*3+2,none⟩) HBG.out (.slice a8 n8 c8)));refine⟨⟨BN.cell 0,BN.cell 1,BN.cell 2⟩,?_⟩;clear RP KP BN t0 t1 t2 t3 t4 t5;obtain⟨W8,hW8⟩:∃ x,((w7.setCell ⟨g,i*3,none⟩ (.bool m7)).setCell ⟨g,i*3+1,none⟩ (.slice a7 n7 c7)).setCell ⟨g,i*3+2,none⟩ (.slice a8 n8 c8)=x:=⟨_,rfl⟩;rw[hW8]at QN RN B7 ⊢;clear hW8;obtain⟨g9,m9,a9,n9,c9,b9,o9,l9,e9,-,hg9,k0,k1,k2,hQ9⟩:=RN.out.at (show (((L.take i).map f++L.drop i).set i (q-A))[i]?=some (q-A) from List.getElem?_set_self (by rw[hlen.out];exact HLT.out));simp only[Option.some.injEq,Addr.mk.injEq,and_true]at e9;subst e9;have hm9:=d0m hQ9;rcases k0R (q-A) with ⟨p1,p2⟩ | ⟨p1,p2⟩
      ·rw[p1]at hm9;subst hm9;have EF0:=hid (show f q=0 by rw[EF.out,p2]);have G9:=hid hg9;clear p1 p2 hQ9 hg9;refine wpAnyH_done (by kernel_rfl) ?_ _;simp only[a0o];go_wp2_with fail;refine (PZ _).out.mono ?_;rintro e w9 ⟨⟨v9,rfl,hv9⟩,hb9⟩;obtain⟨m5,a5,n5,c5,a6,n6,c6,rfl⟩:=hv9.qv;have V9:=hid hv9;have R9:=hid (RN.out.call hb9);have QN9:=hid (QN.out.call hb9);have B9:=hid (B7.out.trans (hb9.mono B7.out.size));have u0:=(hb9.cell (p:=⟨g,i*3,none⟩) G9.out).trans k0;have u1:=(hb9.cell (p:=⟨g,i*3+1,none⟩) G9.out).trans k1;have u2:=(hb9.cell (p:=⟨g,i*3+2,none⟩) G9.out).trans k2;have u3:=R9.out.free (g:=g) (i*3);have u4:=R9.out.free (g:=g) (i*3+1);have u5:=R9.out.free (g:=g) (i*3+2);obtain⟨RP,KP⟩:=R9.out.put (i:=i) (by rw[List.length_set,hlen.out];exact HLT.out) V9.out;rw[List.set_set,← EF0.out,E2.out]at RP;obtain⟨mZ,aZ,nZ,cZ,aZ',nZ',cZ',hbZ,hqZ⟩:=QN9.out;have BN:=((hbZ.other (a:=⟨g,i*3,none⟩) (by have h:=GG.out;show g≠gA;omega) (.bool m5)).other (a:=⟨g,i*3+1,none⟩) (by have h:=GG.out;show g≠gA;omega) (.slice a5 n5 c5)).other (a:=⟨g,i*3+2,none⟩) (by have h:=GG.out;show g≠gA;omega) (.slice a6 n6 c6);have QF:=hid (show QB _ gA A from⟨mZ,aZ,nZ,cZ,aZ',nZ',cZ',BN,KP.isQ hqZ⟩);have RF:=hid RP;have BF:=hid ((((B9.out.setCell (p:=⟨g,i*3,none⟩) HBG.out (.bool m5)).setCell (p:=⟨g,i*3+1,none⟩) HBG.out (.slice a5 n5 c5)).setCell (p:=⟨g,i*3+2,none⟩) HBG.out (.slice a6 n6 c6)));clear hb9 hv9 RP KP BN hbZ hqZ k0 k1 k2;go_wp2_with fail;go_roundw
       case rel=>exact⟨i+1,by go_num,by have:=HLT.out;omega,RF,QF,BF⟩
       case measure=>simp[intOf]<;>(have:=HLT.out;omega)
      ·rw[p1]at hm9;subst hm9;have EF0:=hid (show f q=q-A by rw[EF.out,p2]);rw[← EF0.out,E2.out]at RN;clear p1 p2 hQ9 hg9;refine wpAnyH_done (by kernel_rfl) ?_ _;simp only[a0o];go_wp2_with fail;go_roundw
       case rel=>exact⟨i+1,by go_num,by have:=HLT.out;omega,RN,QN,B7⟩
       case measure=>simp[intOf]<;>(have:=HLT.out;omega)
     ·obtain rfl:i=n:=by omega
      have q1:decide ((i:Int)<(i:Int))=false:=by simp
      have hT:(L.take i).map f++L.drop i=L.map f:=by rw[List.take_of_length_le (by rw[HLN.out];exact Nat.le_refl _),List.drop_of_length_le (by rw[HLN.out];exact Nat.le_refl _),List.append_nil]
      rw[hT]at hR;clear hlt hT hQ;go_wp2_with fail;refine (PW _ _ hR.out.rd).out.mono ?_;rintro e w8 ⟨⟨u8,rfl,hu8⟩,hb8⟩;have y8:=hid (hB.out.trans (hb8.mono hB.out.size));have U8:=hid hu8;obtain⟨a8,c8,rfl,-,-,-⟩:=hu8.openS;clear hb8 hu8;go_wp2_with fail;go_ret2
      exact⟨⟨_,rfl,U8.out⟩,y8.out⟩
theorem h0u (w:World)(v:Value)(l:List ByteArray)(t:ByteArray)(hv:Row w v (a0T l))(hs:∀ s∈l,s.size≤20)(hl:l.length≤12)(ht:t.size≤20):
 Calls Tryz.prog 33 #[v,.string t] w fun e w'=>(∃ u,e=.returned (.tuple #[u,.int .i64 (smE l t)])∧Row w' u (a0T (smR l t)))∧Below w.heap.size w w':=by
 by_cases h0:btE l t=0
 ·by_cases hn:vQ t<0
  ·exact o0H w v l t hv hs hl ht h0 hn
  ·exact q0I w v l t hv hs hl ht h0 hn
 ·exact m0N w v l t hv hs ht h0
end Go.Proofs.YtlimaehdmcnjaaaGreatDoor
namespace Go.Proofs.YtlimaehdmcnjaaaGreatDoor
open Go.RowKit
open Go.Lib (decDigits nDigits)
def j0E (v:List Rat)(a b:Nat):Rat:=rs ((v.drop a).take (b+1-a)) / ((b+1-a:Nat):Rat)
def lsM (v:List Rat)(a i:Nat):Nat→Rat
 | 0=>j0E v a i
 | m+1=>if j0E v a (i+(m+1))<lsM v a i m then j0E v a (i+(m+1)) else lsM v a i m
def bsM (v:List Rat)(i:Nat):Nat→Rat
 | 0=>lsM v 0 i (v.length-1-i)
 | a+1=>if bsM v i a<lsM v (a+1) i (v.length-1-i) then lsM v (a+1) i (v.length-1-i) else bsM v i a
theorem o0l {v:List Rat}{a i:Nat}{m:Rat}:∀ k,(∀ j,j≤k→m≤j0E v a (i+j))→m≤lsM v a i k
 | 0,h=>h 0 (Nat.le_refl _)
 | k+1,h=>by
  rw[lsM]
  split
  ·exact h (k+1) (Nat.le_refl _)
  ·exact o0l k fun j hj=>h j (by omega)
theorem l0l {v:List Rat}{a i j:Nat}:∀ k,j≤k→lsM v a i k≤j0E v a (i+j)
 | 0,h=>by
  obtain rfl:j=0:=by omega
  exact Rat.le_refl
 | k+1,h=>by
  rw[lsM]
  split
  ·rename_i hlt
   by_cases e:j=k+1
   ·subst e;exact Rat.le_refl
   ·exact Rat.le_trans (Rat.le_of_lt hlt) (l0l k (by omega))
  ·rename_i hge
   by_cases e:j=k+1
   ·subst e;exact Rat.not_lt.1 hge
   ·exact l0l k (by omega)
theorem o0w {v:List Rat}{i:Nat}{m:Rat}:∀ k,(∀ a,a≤k→lsM v a i (v.length-1-i)≤m)→bsM v i k≤m
 | 0,h=>h 0 (Nat.le_refl _)
 | k+1,h=>by
  rw[bsM]
  split
  ·exact h (k+1) (Nat.le_refl _)
  ·exact o0w k fun a ha=>h a (by omega)
theorem m0u {v:List Rat}{i a:Nat}:∀ k,a≤k→lsM v a i (v.length-1-i)≤bsM v i k
 | 0,h=>by
  obtain rfl:a=0:=by omega
  exact Rat.le_refl
 | k+1,h=>by
  rw[bsM]
  split
  ·rename_i hlt
   by_cases e:a=k+1
   ·subst e;exact Rat.le_refl
   ·exact Rat.le_trans (m0u k (by omega)) (Rat.le_of_lt hlt)
  ·rename_i hge
   by_cases e:a=k+1
   ·subst e;exact Rat.not_lt.1 hge
   ·exact m0u k (by omega)
theorem r0l (s:List Rat):(0:Rat)≤(s.length:Rat):=Rat.natCast_nonneg
theorem i0q {s:List Rat}(h:good s):rs s=(s.length:Rat)*bm (sg s):=by
 have em:=h0g (b:=sg s) (by simp[sg];exact h.1);have em':bm (sg s)*(s.length:Rat)=rs s:=em;rw[← em'];grind
theorem h0H {a b:Rat}(s:List Rat)(h:a≤b):(s.length:Rat)*a≤(s.length:Rat)*b:=by
 have:=e0v (r0l s) h
 grind
theorem d0F (a b:List Rat):((a++b).length:Rat)=(a.length:Rat)+(b.length:Rat):=by rw[List.length_append];push_cast;rfl
theorem o0i {m:Rat}:∀ (bs:List (List Rat)),(∀ s∈bs,good s∧m≤bm (sg s))→∀ p q,bs.flatten=p++q→(p.length:Rat)*m≤rs p
 | [],_,p,q,e=>by
  have:p = []:=by
   rw[List.flatten_nil]at e;exact (List.append_eq_nil_iff.1 e.symm).1
  subst this;simp[rs]
 | s::bs,h,p,q,e=>by
  obtain⟨hg,hm⟩:=h s (by simp);rw[List.flatten_cons]at e;rcases List.append_eq_append_iff.1 e with ⟨p',rfl,e2⟩ | ⟨s',e1,e2⟩
  ·have ih:=o0i bs (fun x hx=>h x (by simp[hx])) p' q e2;have h1:=i0q hg;have h2:=h0H s hm;rw[d0F,a0Y,h1]
   grind
  ·have h1:=hg.2 p s' e1;have h2:=h0H p hm
   grind
theorem k0s {m:Rat}:∀ (bs:List (List Rat)),(∀ s∈bs,good s∧bm (sg s)≤m)→∀ p q,bs.flatten=p++q→rs q≤(q.length:Rat)*m
 | [],_,p,q,e=>by
  have:q = []:=by
   rw[List.flatten_nil]at e;exact (List.append_eq_nil_iff.1 e.symm).2
  subst this;simp[rs]
 | s::bs,h,p,q,e=>by
  obtain⟨hg,hm⟩:=h s (by simp);rw[List.flatten_cons]at e;rcases List.append_eq_append_iff.1 e with ⟨p',rfl,e2⟩ | ⟨s',e1,e2⟩
  ·exact k0s bs (fun x hx=>h x (by simp[hx])) p' q e2
  ·have ih:=k0s bs (fun x hx=>h x (by simp[hx])) [] bs.flatten rfl;have h1:=i0q hg;have h2:=hg.2 p s' e1;have h3:=h0H s' hm;subst e1;rw[a0Y,d0F]at h1;rw[e2,a0Y,d0F]
   grind
theorem j0c:∀ (ts:List (List Rat)) (i:Nat),i<ts.flatten.length→∃ pre s post r,ts=pre++s::post∧i=pre.flatten.length+r∧r<s.length
 | [],i,h=>by simp at h
 | s::ts,i,h=>by
  by_cases hi:i<s.length
  ·exact⟨[],s,ts,i,rfl,by simp,hi⟩
  ·rw[List.flatten_cons,List.length_append]at h;obtain⟨pre,s',post,r,e,e2,e3⟩:=j0c ts (i-s.length) (by omega);refine⟨s::pre,s',post,r,by rw[e];rfl,?_,e3⟩;rw[List.flatten_cons,List.length_append];omega
theorem m0s (a b:List (List Rat)):bx (a++b)=bx a++bx b:=by unfold bx;rw[List.flatMap_append]
theorem s0a {x m:Rat}{k:Nat}(hk:0<k)(h:x≤(k:Rat)*m):x / ((k:Nat):Rat)≤m:=by
 obtain⟨j,rfl⟩:∃ j,k=j+1:=⟨k-1,by omega⟩;apply Rat.not_lt.1
 intro hn;have h2:=o0u (a:=x) (k:=j);have hp:(0:Rat)<(j:Rat)+1:=by have:(0:Rat)≤(j:Rat):=Rat.natCast_nonneg;grind
 have h3:=Rat.mul_lt_mul_of_pos_right hn hp;have hc:((j+1:Nat):Rat)=(j:Rat)+1:=by push_cast;rfl
 rw[h2]at h3;rw[hc]at h
 grind
theorem s0c {x m:Rat}{k:Nat}(hk:0<k)(h:(k:Rat)*m≤x):m≤x / ((k:Nat):Rat):=by
 obtain⟨j,rfl⟩:∃ j,k=j+1:=⟨k-1,by omega⟩;rw[l0p];have hc:((j+1:Nat):Rat)=(j:Rat)+1:=by push_cast;rfl
 rw[hc]at h
 grind
theorem r0E {v:List Rat}{i:Nat}(hi:i<v.length):(mnL v)[i]?=some (bsM v i i):=by
 obtain⟨ss,hs⟩:=r0b v;obtain⟨ts,hts⟩:∃ t,ss.reverse=t:=⟨_,rfl⟩;have hv:v=ts.flatten:=by rw[← hts];exact hs.all
 have hgood:∀ s∈ts,good s:=fun s h=>hs.good s (by rw[← hts]at h;exact List.mem_reverse.1 h)
 have hup:(ts.map fun s=>bm (sg s)).Pairwise (fun x y=>x≤y):=by
  rw[← hts,List.map_reverse,List.pairwise_reverse];exact hs.down
 have hmn:mnL v=bx ts:=by unfold mnL;rw[o0g hs,hts]
 obtain⟨pre,s,post,r,e,ei,er⟩:=j0c ts i (by rw[← hv];exact hi);obtain⟨m,hm⟩:∃ m,bm (sg s)=m:=⟨_,rfl⟩;have hget:(mnL v)[i]?=some m:=by
  rw[hmn,e,m0s,List.getElem?_append_right (by rw[j0b];omega),j0b];have:bx (s::post)=List.replicate s.length m++bx post:=by rw[← hm];unfold bx;rw[List.flatMap_cons]
  rw[this,List.getElem?_append_left (by rw[List.length_replicate];omega),List.getElem?_replicate,if_pos (by omega)]
 rw[hget];rw[e,List.map_append,List.map_cons,List.pairwise_append]at hup;obtain⟨u1,u2,u3⟩:=hup;rw[List.pairwise_cons]at u2
 have hge:∀ x∈s::post,good x∧m≤bm (sg x):=fun x hx=>⟨hgood x (by rw[e];exact List.mem_append_right _ hx),by
  rcases List.mem_cons.1 hx with rfl | hx
  ·rw[hm];exact Rat.le_refl
  ·rw[← hm];exact u2.1 _ (List.mem_map_of_mem hx)⟩
 have hle:∀ x∈pre ++ [s],good x∧bm (sg x)≤m:=fun x hx=>by
  rcases List.mem_append.1 hx with hx | hx
  ·exact⟨hgood x (by rw[e];exact List.mem_append_left _ hx),by rw[← hm];exact u3 _ (List.mem_map_of_mem hx) _ (by simp)⟩
  ·rw[List.mem_singleton]at hx;subst hx;exact⟨hgood x (by rw[e];simp),by rw[hm];exact Rat.le_refl⟩
 have hvs:v=pre.flatten++(s++post.flatten):=by rw[hv,e];simp
 have hvs2:v=(pre ++ [s]).flatten++post.flatten:=by rw[hv,e];simp
 obtain⟨A,hA⟩:∃ A,pre.flatten.length=A:=⟨_,rfl⟩;rw[hA]at ei;have hnl:v.length=A+s.length+post.flatten.length:=by rw[hvs];simp[hA];omega
 -- from the block's start,all means are not less
 have k1:m≤lsM v A i (v.length-1-i):=o0l _ fun j hj=>by
  unfold j0E;have hk:0<i+j+1-A:=by omega
  refine s0c hk ?_;have hd:v.drop A=(s::post).flatten:=by rw[hvs,← hA,List.drop_left'];rfl;rfl
  have hlen:((v.drop A).take (i+j+1-A)).length=i+j+1-A:=by rw[List.length_take,List.length_drop];omega
  have:=o0i (s::post) hge ((v.drop A).take (i+j+1-A)) ((v.drop A).drop (i+j+1-A)) (by rw[List.take_append_drop,hd]);rwa[hlen]at this
 -- up to the block's end,all means are not greater
 have k2:∀ a,a≤i→lsM v a i (v.length-1-i)≤m:=fun a ha=>by
  refine Rat.le_trans (l0l (j:=A+s.length-1-i) _ (by omega)) ?_;unfold j0E;have eb:i+(A+s.length-1-i)+1-a=A+s.length-a:=by omega
  rw[eb];refine s0a (by omega) ?_;obtain⟨F,hF⟩:∃ F,(pre ++ [s]).flatten=F:=⟨_,rfl⟩;have hFl:F.length=A+s.length:=by rw[← hF];simp[hA]
  have hd:(v.drop a).take (A+s.length-a)=F.drop a:=by
   rw[hvs2,hF,List.drop_append_of_le_length (by omega),List.take_left' (by rw[List.length_drop,hFl])]
  have:=k0s (pre ++ [s]) hle (F.take a) (F.drop a) (by rw[hF,List.take_append_drop]);rw[List.length_drop,hFl]at this;rw[hd];exact this
 have h1:=o0w (v:=v) (i:=i) i k2;have h2:=Rat.le_trans k1 (m0u (v:=v) (i:=i) (a:=A) i (by omega));rw[Rat.le_antisymm h1 h2]
theorem r0g (v:List Rat):mnL v=(List.range v.length).map fun i=>bsM v i i:=by
 refine List.ext_getElem? fun i=>?_
 by_cases hi:i<v.length
 ·rw[r0E hi,List.getElem?_map,List.getElem?_range hi];rfl
 ·rw[List.getElem?_eq_none (by rw[p0v];omega),List.getElem?_eq_none (by simp;omega)]
theorem h0I {D a b:Nat}{v:List Rat}{T:Rat}(h:LT D v T)(hab:a≤b)(hb:b<v.length):Dn (D*f12) (10 ^ 22) (j0E v a b):=
 (h.sum (s:=(v.drop a).take (b+1-a)) (fun q hq=>List.mem_of_mem_drop (List.mem_of_mem_take hq)) (by rw[List.length_take,List.length_drop];have:=h.n;omega)).over12 (by omega) (by have:=h.n;omega)
theorem i0H {D a i:Nat}{v:List Rat}{T:Rat}(h:LT D v T)(ha:a≤i):∀ k,i+k<v.length→Dn (D*f12) (10 ^ 22) (lsM v a i k)
 | 0,hk=>h0I h ha hk
 | k+1,hk=>by
  rw[lsM]
  split
  ·exact h0I h (by omega) hk
  ·exact i0H h ha k (by omega)
theorem m0v {D i:Nat}{v:List Rat}{T:Rat}(h:LT D v T)(hi:i<v.length):∀ k,k≤i→Dn (D*f12) (10 ^ 22) (bsM v i k)
 | 0,hk=>i0H h (by omega) _ (by omega)
 | k+1,hk=>by
  rw[bsM]
  split
  ·exact i0H h (by omega) _ (by omega)
  ·exact m0v h hi k (by omega)
open Go.Shelf
def B3 (w:World)(g:Nat):Prop:=∃ (m:Bool) (a:Option Addr) (n c:Nat) (a':Option Addr) (n' c':Nat),Blk w g #[.bool m,.slice a n c,.slice a' n' c'] 79
theorem B3.call {w w':World}{g:Nat}(h:B3 w g)(hb:Below w.heap.size w w'):B3 w' g:=by
 obtain⟨m,a,n,c,a',n',c',h1⟩:=h;exact⟨m,a,n,c,a',n',c',h1.call hb⟩
theorem QB.b3 {w:World}{g:Nat}{q:Rat}(h:QB w g q):B3 w g:=by
 obtain⟨m,a,n,c,a',n',c',h1,-⟩:=h;exact⟨m,a,n,c,a',n',c',h1⟩
theorem r0f (w:World)(v:Value)(l:List ByteArray)(hv:Row w v (a0T l))(hs:∀ s∈l,s.size≤20)(hl:l.length≤12)(h0:a0O l=0):
 Calls Tryz.prog 34 #[v] w fun e w'=>(∃ u,e=.returned (.tuple #[u,.int .i64 (mnE l)])∧Row w' u (a0T (mnR l)))∧Below w.heap.size w w':=by
 obtain⟨i0,hi0,hz0,hz1,hz2⟩:=info_parts g0b;have z1:∀ s∈l,s.size≤1000000:=fun s hs'=>by have:=hs s hs';omega
 have HC:=hid (b0A w v l hv z1);have V1:=j0j h0 hs hl;have HLT:=LT.of0 V1;have e1:mnE l=wrE (mnL (l.map vQ)):=by unfold mnE;rw[if_pos h0]
 have e2:mnR l=wrL (mnL (l.map vQ)):=by unfold mnR;rw[if_pos h0]
 rw[e1,e2,r0g];rw[h0]at HC;have PR:=fun V x hx=>hid (b0Q V x l hx z1 V1.q (by omega))
 obtain⟨L,hL⟩:∃ L,l.map vQ=L:=⟨_,rfl⟩;rw[hL]at HLT PR ⊢;obtain⟨D,hD⟩:∃ D,vD l=D:=⟨_,rfl⟩;rw[hD]at HLT;obtain⟨n,hn⟩:∃ n,l.length=n:=⟨_,rfl⟩;have hLn:L.length=n:=by rw[← hL,List.length_map,hn]
 have hp:=V1.pos;rw[hLn];have dl:∀ q∈L,Dig 4000 q:=fun q hq=>HLT.dig (HLT.dv q hq) (by omega)
 have sub:∀ a e,Dn D (10 ^ 22) (rs ((L.take e).drop a)):=fun a e=>HLT.sum (fun q hq=>List.mem_of_mem_take (List.mem_of_mem_drop hq)) (by rw[List.length_drop,List.length_take];have:=HLT.n;omega)
 have PSU:=hid (fun (a e:Nat) V x hx=>hid (e0q V x ((L.take e).drop a) hx (by rw[List.length_drop,List.length_take];have:=HLT.n;omega) (fun i _=>HLT.dig (HLT.sum (s:=((L.take e).drop a).take i) (fun q hq=>List.mem_of_mem_take (List.mem_of_mem_drop (List.mem_of_mem_take hq))) (by rw[List.length_take,List.length_drop,List.length_take];have:=HLT.n;omega)) (by omega)) (fun q hq=>dl q (List.mem_of_mem_take (List.mem_of_mem_drop hq)))))
 have POV:=hid (fun (a b:Nat) (hab:a≤b) (hb:b<n) V x hx=>(show Hid (Calls Tryz.prog 81 #[x,.int .i64 ((b+1-a:Nat))] V fun e w'=>d0Q .i64 (j0E L a b) e w'∧Below V.heap.size V w') from by
  have h:=f0M V x (rs ((L.take (b+1)).drop a)) (b+1-a) hx (HLT.dig (sub a (b+1)) (by omega)) (by omega) (by have:=HLT.n;omega);rw[List.drop_take]at h;exact hid h))
 have GM:=hid (fun a b (h1:a≤b) (h2:b<n)=>HLT.dig12 (h0I (a:=a) (b:=b) HLT h1 (by omega)) (show 22≤40 by omega));have GL:=hid (fun a i (h1:a≤i) k (h2:i+k<n)=>HLT.dig12 (i0H (a:=a) (i:=i) HLT h1 k (by omega)) (show 22≤40 by omega));have GB:=hid (fun i k (h1:k≤i) (h2:i<n)=>HLT.dig12 (m0v (i:=i) HLT (by omega) k h1) (show 22≤40 by omega))
 have PW:=fun V x hx=>hid (d0x V x ((List.range n).map fun i=>bsM L i i) hx (by rw[List.length_map,List.length_range];omega) (fun q hq=>by
  obtain⟨a,ha,rfl⟩:=List.mem_map.1 hq;exact e0z (HLT.dig12 (m0v HLT (by rw[hLn];exact List.mem_range.1 ha) a (Nat.le_refl _)) (by omega))))
 have KL:=hid (fun a i m=>(show lsM L a i (m+1)=if j0E L a (i+(m+1))<lsM L a i m then j0E L a (i+(m+1)) else lsM L a i m from by rw[lsM]));have KB:=hid (fun i a=>(show bsM L i (a+1)=if bsM L i a<lsM L (a+1) i (n-1-i) then lsM L (a+1) i (n-1-i) else bsM L i a from by rw[bsM,hLn]));have KB0:=hid (fun i=>(show bsM L i 0=lsM L 0 i (n-1-i) from by rw[bsM,hLn]));have KL0:=hid (fun a i=>(show lsM L a i 0=j0E L a i from rfl));have HV:=hid hv;obtain⟨a1,c1,rfl,q1,q2,-⟩:=hv.openS;rw[hn]at q1 HV HC ⊢;have HLN:=hid hLn;have HN12:=hid (show n≤12 by omega);have HN0:=hid (show 0<n by omega);clear hv hs hl z1 h0 e1 e2 V1 HLT hL hD dl sub hn hLn hp;go_enter Tryz.func34,Tryz.ntmps34;go_wp2_with fail;refine HC.out.mono ?_;rintro e w1 ⟨rfl,hb1⟩;have y1:=hid hb1;clear hb1;go_wp2_with fail;refine (PR _ _ (HV.out.call y1.out)).out.mono ?_;rintro e w2 ⟨⟨u2,rfl,hu2⟩,hb2⟩;have y2:=hid (a0a y1.out hb2);have R2:=hid hu2.rd;obtain⟨a2,cv,rfl,r1,r2⟩:=hu2.slice;rw[HLN.out]at R2 r1 ⊢;obtain⟨gv,eg⟩:∃ g,a2=some ⟨g,0,none⟩:=by
  rw[HLN.out]at hu2;obtain⟨q,hq⟩:∃ q,L[0]?=some q:=⟨_,List.getElem?_eq_getElem (by rw[HLN.out];exact HN0.out)⟩;obtain⟨g,m,b1,b2,b3,b4,b5,b6,e,-⟩:=hu2.at hq;exact⟨g,e⟩
 subst eg;clear hb2 hu2;go_wp2_with fail
 go_loopw [6,7,8,9,10,11,12] (fun s6 s7 s8 s9 s10 s11 s12 wr=>∃ i:Nat,s7=.int .i64 (i:Nat)∧i≤n∧Hid (WRow w2.heap.size wr s6 ((List.range i).map fun i=>bsM L i i))∧Hid (Below w2.heap.size w2 wr)) (fun s6 s7 s8 s9 s10 s11 s12 wr=>n-(intOf s7).toNat)
 case atStart=>exact⟨0,rfl,Nat.zero_le _,WRow.nil _ _,Below.refl _ _⟩
 case round=>
  obtain⟨i,rfl,hi,hO,hB⟩:=hrel;by_cases hlt:i<n
  ·have HLT:=hid hlt;obtain⟨aO,cO,rfl,o1,o2⟩:=hO.out.slice;rw[List.length_map,List.length_range]at hO o1 ⊢;have HO:=hid hO.out;have HBo:=hid hB.out;have f1:(0:Int)≤(i:Int):=by omega
   have f2:(i:Int)<(n:Int):=by omega
   have wi:IntKind.i64.wrap ((i:Int)+1)=((i+1:Nat):Int):=by have:=HN12.out;rw[IntWalk.i64_in _ ⟨by omega,by omega⟩];omega
   obtain⟨wo,hwo⟩:∃ q,q=wr:=⟨_,rfl⟩;subst hwo;have A1:=hid ((Below.refl wo.heap.size wo).alloc (Nat.le_refl _) (.cells #[.bool false,.slice none 0 0,.slice none 0 0] 79));have X1:=hid (Blk.new wo #[.bool false,.slice none 0 0,.slice none 0 0] 79);clear hlt hO hB hi;go_wp2_with fail
   go_loopw [9,10,11,12] (fun s9 s10 s11 s12 wr=>∃ a:Nat,s9=.int .i64 (a:Nat)∧a≤i+1∧Hid (B3 wr wo.heap.size)∧Hid (0<a→QB wr wo.heap.size (bsM L i (a-1)))∧Hid (Below wo.heap.size wo wr)) (fun s9 s10 s11 s12 wr=>i+1-(intOf s9).toNat)
   case atStart=>exact⟨0,rfl,Nat.zero_le _,⟨_,_,_,_,_,_,_,X1.out⟩,hid (fun h=>absurd h (by omega)),A1⟩
   case round=>
    obtain⟨a,rfl,ha,hB3,hQB,hBa⟩:=hrel;by_cases hai:a≤i
    ·have HAI:=hid hai;have g1:(a:Int)≤(i:Int):=by omega
     have g2:decide ((a:Int)≤(i:Int))=true:=decide_eq_true g1;have g3:decide (a≤i)=true:=decide_eq_true hai;have g4:(0:Int)≤(a:Int):=by omega
     have wa1:IntKind.i64.wrap ((a:Int)+1)=((a+1:Nat):Int):=by have:=HN12.out;rw[IntWalk.i64_in _ ⟨by omega,by omega⟩];omega
     have HB3:=hid hB3.out;have HQB:=hid hQB.out;have HBa:=hid hBa.out;obtain⟨wa,hwa⟩:∃ q,q=wr:=⟨_,rfl⟩;subst hwa;have A2:=hid ((Below.refl wa.heap.size wa).alloc (Nat.le_refl _) (.cells #[.bool false,.slice none 0 0,.slice none 0 0] 79));have X2:=hid (Blk.new wa #[.bool false,.slice none 0 0,.slice none 0 0] 79);clear hai ha hB3 hQB hBa;go_wp2_with fail
     go_loopw [11,12] (fun s11 s12 wr=>∃ b:Nat,s11=.int .i64 (b:Nat)∧i≤b∧b≤n∧Hid (B3 wr wa.heap.size)∧Hid (i<b→QB wr wa.heap.size (lsM L a i (b-1-i)))∧Hid (Below wa.heap.size wa wr)) (fun s11 s12 wr=>n-(intOf s11).toNat)
     case atStart=>exact⟨i,rfl,Nat.le_refl _,by have:=HLT.out;omega,⟨_,_,_,_,_,_,_,X2.out⟩,hid (fun h=>absurd h (by omega)),A2⟩
     case round=>
      obtain⟨b,rfl,hib,hbn,hL3,hQL,hBb⟩:=hrel;by_cases hbl:b<n
      ·have HBL:=hid hbl;have HIB:=hid hib;obtain⟨E,hE⟩:∃ E,b+1=E:=⟨_,rfl⟩;obtain⟨K,hK⟩:∃ K,E-a=K:=⟨_,rfl⟩;have HE:=hid hE;have HK:=hid hK;have PSx:=PSU.out a E;have PO:=POV.out a b (by have:=HAI.out;omega) hbl;rw[hE,hK]at PO;have RR:=hid ((((R2.out.call HBo.out).call (a0a HBa.out hBb.out)).cut (show E≤n by omega)).behind (show a≤E by have:=HAI.out;omega));rw[hK,Nat.zero_add]at RR;have GMx:=hid (GM.out a b (by have:=HAI.out;omega) hbl);have h1:(b:Int)<(n:Int):=by omega
       have h2:(0:Int)≤(b:Int):=by omega
       have we:IntKind.i64.wrap ((b:Int)+1)=(E:Int):=by have:=HN12.out;rw[IntWalk.i64_in _ ⟨by omega,by omega⟩];omega
       have wk:IntKind.i64.wrap ((E:Int)-(a:Int))=(K:Int):=by have:=HN12.out;have:=HAI.out;rw[IntWalk.i64_in _ ⟨by omega,by omega⟩];omega
       have h3:(a:Int)≤(E:Int):=by have:=HAI.out;omega
       have h4:(E:Int)≤(cv:Int):=by omega
       have h5:¬ cv=a:=by have:=HAI.out;omega
       have hEn:=hid (show ((b+1:Nat):Int)=(E:Int) by omega);obtain⟨M,hM⟩:∃ M,j0E L a b=M:=⟨_,rfl⟩;have HM:=hid hM;rw[hM]at PO GMx;clear hE hM hbl hbn hib;go_wp2_with fail;refine (PSx _ _ RR.out).out.mono ?_;rintro e w3 ⟨⟨u3,rfl,hu3⟩,hb3⟩;have y3:=hid hb3;have U3:=hid hu3;clear hb3 hu3;go_wp2_with fail;refine (PO _ _ U3.out).out.mono ?_;rintro e w4 ⟨⟨u4,rfl,hu4⟩,hb4⟩;have y4:=hid (a0a y3.out hb4);obtain⟨m4,p4,n4,k4,p5,n5,k5,rfl⟩:=hu4.qv;have A4:=hid ((Below.refl w4.heap.size w4).alloc (Nat.le_refl _) (.cells #[.bool m4,.slice p4 n4 k4,.slice p5 n5 k5] 79));have X4:=hid (Blk.new w4 #[.bool m4,.slice p4 n4 k4,.slice p5 n5 k5] 79);have Q4:=hid (hu4.call A4.out);have y5:=hid (a0a y4.out A4.out);clear hb4 hu4;obtain⟨mL,aL,nL,cL,bL,oL,lL,hBL⟩:=hL3.out;have BL:=hid (hBL.call y5.out);have KX:Hid (∀ V,Below (w4.alloc (.cells #[.bool m4,.slice p4 n4 k4,.slice p5 n5 k5] 79)).heap.size (w4.alloc (.cells #[.bool m4,.slice p4 n4 k4,.slice p5 n5 k5] 79)) V→V.cell? ⟨w4.heap.size,0,none⟩=some (.bool m4)∧V.cell? ⟨w4.heap.size,1,none⟩=some (.slice p4 n4 k4)∧V.cell? ⟨w4.heap.size,2,none⟩=some (.slice p5 n5 k5)):=fun V h=>⟨(X4.out.call h).cell 0,(X4.out.call h).cell 1,(X4.out.call h).cell 2⟩
       clear hBL;by_cases heb:i=b
       ·have QN0:=hid (QB.put BL.out Q4.out);have HLM:=hid (show M=lsM L a i (b+1-1-i) by rw[show b+1-1-i=0 by omega,KL0.out,← HM.out,heb]);rw[HLM.out]at QN0;have BN:=hid ((((a0a hBb.out y5.out).setCell (p:=⟨wa.heap.size,0,none⟩) (Nat.le_refl _) (.bool m4)).setCell (p:=⟨wa.heap.size,1,none⟩) (Nat.le_refl _) (.slice p4 n4 k4)).setCell (p:=⟨wa.heap.size,2,none⟩) (Nat.le_refl _) (.slice p5 n5 k5));have t1:((b:Int)==(i:Int))=true:=by rw[beq_iff_eq];omega
        have t2:(b:Int)=(i:Int):=by omega
        obtain⟨x0,x1,x2⟩:=KX.out _ (Below.refl _ _);have u0:=BL.out.cell 0;have u1:=BL.out.cell 1;have u2:=BL.out.cell 2;have u3:=BL.out.free 0;have u4:=BL.out.free 1;have u5:=BL.out.free 2;simp at u0 u1 u2;have HEB:=hid heb;clear heb;go_wp2_with fail;go_roundw
        case rel=>exact⟨b+1,congrArg (Value.int .i64) (by have:=hEn.out;omega),by have:=HIB.out;omega,by have:=HBL.out;omega,QN0.out.b3,hid (fun _=>QN0.out),BN⟩
        case measure=>simp[intOf]<;>(have:=HBL.out;have:=hEn.out;omega)
       ·have t1:((b:Int)==(i:Int))=false:=by rw[beq_eq_false_iff_ne];omega
        have t2:¬ (b:Int)=(i:Int):=by omega
        have t3:¬ b=i:=by omega
        have hlb:=hid (show i<b by have:=HIB.out;omega);obtain⟨Lq,hLq⟩:∃ Lq,lsM L a i (b-1-i)=Lq:=⟨_,rfl⟩;have KLx:=hid (KL.out a i (b-1-i));rw[show b-1-i+1=b+1-1-i by have:=hlb.out;omega,show i+(b+1-1-i)=b by have:=hlb.out;omega,HM.out,hLq]at KLx;have GLx:=hid (GL.out a i (by have:=HAI.out;omega) (b-1-i) (by have:=HBL.out;omega));rw[hLq]at GLx;have QL:=hid (hQL.out hlb.out);rw[hLq]at QL;have QL5:=hid (QL.out.call y5.out);obtain⟨mU,aU,nU,cU,bU,oU,lU,hBU,hQU⟩:=QL5.out;have BU:=hid hBU;have QU:=hid hQU;have PE:=fun V v u h1 h2=>hid (b0V V v u M Lq h1 h2 GMx.out GLx.out)
        have HZC:=hid (c0M (p:=M) (q:=Lq));obtain⟨B,hBB⟩:∃ B,d0V M Lq=B:=⟨_,rfl⟩;rw[hBB]at PE HZC;obtain⟨x0,x1,x2⟩:=KX.out _ (Below.refl _ _);have u0:=BU.out.cell 0;have u1:=BU.out.cell 1;have u2:=BU.out.cell 2;simp at u0 u1 u2;clear hBU hQU hBB hLq heb;go_wp2_with fail;refine (PE _ _ _ Q4.out QU.out).out.mono ?_;rintro e w6 ⟨rfl,hb6⟩;have y6:=hid (a0a y5.out hb6);have x6:=hid hb6;have BU6:=hid (BU.out.call hb6);have Q46:=hid (Q4.out.call hb6);have QL6:=hid (QL5.out.call hb6);clear hb6 x0 x1 x2 u0 u1 u2;by_cases hgt:M<Lq
        ·have z0:decide (B<0)=true:=decide_eq_true (HZC.out.2 hgt);have QN0:=hid (QB.put BU6.out Q46.out);rw[show M=lsM L a i (b+1-1-i) by rw[KLx.out,if_pos hgt]]at QN0;have BN:=hid ((((a0a hBb.out y6.out).setCell (p:=⟨wa.heap.size,0,none⟩) (Nat.le_refl _) (.bool m4)).setCell (p:=⟨wa.heap.size,1,none⟩) (Nat.le_refl _) (.slice p4 n4 k4)).setCell (p:=⟨wa.heap.size,2,none⟩) (Nat.le_refl _) (.slice p5 n5 k5));obtain⟨x0,x1,x2⟩:=KX.out _ x6.out;have u0:=BU6.out.cell 0;have u1:=BU6.out.cell 1;have u2:=BU6.out.cell 2;have u3:=BU6.out.free 0;have u4:=BU6.out.free 1;have u5:=BU6.out.free 2;simp at u0 u1 u2;clear hgt;go_wp2_with fail;go_roundw
         case rel=>exact⟨b+1,congrArg (Value.int .i64) (by have:=hEn.out;omega),by have:=hlb.out;omega,by have:=HBL.out;omega,QN0.out.b3,hid (fun _=>QN0.out),BN⟩
         case measure=>simp[intOf]<;>(have:=HBL.out;have:=hEn.out;omega)
        ·have z0:decide (B<0)=false:=decide_eq_false (fun h=>hgt (HZC.out.1 h));have QN0:=hid QL6.out;rw[show Lq=lsM L a i (b+1-1-i) by rw[KLx.out,if_neg hgt]]at QN0;have BN:=hid (a0a hBb.out y6.out);clear hgt;go_wp2_with fail;go_roundw
         case rel=>exact⟨b+1,congrArg (Value.int .i64) (by have:=hEn.out;omega),by have:=hlb.out;omega,by have:=HBL.out;omega,QN0.out.b3,hid (fun _=>QN0.out),BN⟩
         case measure=>simp[intOf]<;>(have:=HBL.out;have:=hEn.out;omega)
      ·have hbe:=hid (show b=n by omega);have q3:decide ((b:Int)<(n:Int))=false:=decide_eq_false (by omega);have q3':¬ (b:Int)<(n:Int):=by omega
       have q4:decide (b<n)=false:=decide_eq_false (by omega);have q4':¬ b<n:=by omega
       have q5:(n:Int)≤(b:Int):=by omega
       have QL:=hid (hQL.out (by have:=HLT.out;omega));rw[hbe.out]at QL;obtain⟨Lq,hLq⟩:∃ Lq,lsM L a i (n-1-i)=Lq:=⟨_,rfl⟩;have HLq:=hid hLq;have GLx:=hid (GL.out a i (by have:=HAI.out;omega) (n-1-i) (by have:=HLT.out;omega));rw[hLq]at QL GLx;obtain⟨mU,aU,nU,cU,bU,oU,lU,hBU,hQU⟩:=QL.out;have BU:=hid hBU;have QU:=hid hQU;obtain⟨mV,aV,nV,cV,bV,oV,lV,hBV⟩:=(HB3.out.call hBb.out);have BV:=hid hBV;have YA:=hid (a0a HBa.out hBb.out);have x0:=BU.out.cell 0;have x1:=BU.out.cell 1;have x2:=BU.out.cell 2;have u0:=BV.out.cell 0;have u1:=BV.out.cell 1;have u2:=BV.out.cell 2;have u3:=BV.out.free 0;have u4:=BV.out.free 1;have u5:=BV.out.free 2;simp at x0 x1 x2 u0 u1 u2;clear hbl hbn hib hLq hBU hQU hBV hL3;by_cases ha0:a=0
       ·have t1:((a:Int)==0)=true:=by rw[beq_iff_eq];omega
        have t2:(a:Int)=0:=by omega
        have QN0:=hid (QB.put BV.out QU.out);rw[show Lq=bsM L i (a+1-1) by rw[← HLq.out,show a+1-1=0 by omega,KB0.out,ha0]]at QN0;have BN:=hid (((YA.out.setCell (p:=⟨wo.heap.size,0,none⟩) (Nat.le_refl _) (.bool mU)).setCell (p:=⟨wo.heap.size,1,none⟩) (Nat.le_refl _) (.slice aU nU cU)).setCell (p:=⟨wo.heap.size,2,none⟩) (Nat.le_refl _) (.slice bU oU lU));have HA0:=hid ha0;clear ha0;go_wp2_with fail;go_roundw
        case rel=>exact⟨a+1,by go_num,by have:=HAI.out;omega,QN0.out.b3,hid (fun _=>QN0.out),BN⟩
        case measure=>simp[intOf]<;>(have:=HAI.out;omega)
       ·have t1:((a:Int)==0)=false:=by rw[beq_eq_false_iff_ne];omega
        have t2:¬ (a:Int)=0:=by omega
        have QBb:=hid ((HQB.out (by omega)).call hBb.out);obtain⟨Bq,hBq⟩:∃ Bq,bsM L i (a-1)=Bq:=⟨_,rfl⟩;have KBx:=hid (KB.out i (a-1));rw[show a-1+1=a+1-1 by omega,hBq,show a+1-1=a by omega,HLq.out]at KBx;have GBx:=hid (GB.out i (a-1) (by have:=HAI.out;omega) HLT.out);rw[hBq]at QBb GBx;clear u0 u1 u2 u3 u4 u5 BV;obtain⟨mV,aV,nV,cV,bV,oV,lV,hBV,hQV⟩:=QBb.out;have BV:=hid hBV;have QV:=hid hQV;have u0:=BV.out.cell 0;have u1:=BV.out.cell 1;have u2:=BV.out.cell 2;simp at u0 u1 u2;have PE:=fun V v u h1 h2=>hid (b0V V v u Lq Bq h1 h2 GLx.out GBx.out)
        have HZC:=hid (b0D (p:=Lq) (q:=Bq));obtain⟨B,hBB⟩:∃ B,d0V Lq Bq=B:=⟨_,rfl⟩;rw[hBB]at PE HZC;clear hBV hQV hBB hBq;go_wp2_with fail;refine (PE _ _ _ QU.out QV.out).out.mono ?_;rintro e w6 ⟨rfl,hb6⟩;have y6:=hid (a0a YA.out hb6);have BU6:=hid (BU.out.call hb6);have QU6:=hid (QU.out.call hb6);have BV6:=hid (BV.out.call hb6);have QB6:=hid (QBb.out.call hb6);clear hb6 x0 x1 x2 u0 u1 u2;by_cases hgt:Bq<Lq
        ·have z0:decide (0<B)=true:=decide_eq_true (HZC.out.2 hgt);have QN0:=hid (QB.put BV6.out QU6.out);rw[show Lq=bsM L i (a+1-1) by rw[show a+1-1=a by omega,KBx.out,if_pos hgt]]at QN0;have BN:=hid (((y6.out.setCell (p:=⟨wo.heap.size,0,none⟩) (Nat.le_refl _) (.bool mU)).setCell (p:=⟨wo.heap.size,1,none⟩) (Nat.le_refl _) (.slice aU nU cU)).setCell (p:=⟨wo.heap.size,2,none⟩) (Nat.le_refl _) (.slice bU oU lU));have x0:=BU6.out.cell 0;have x1:=BU6.out.cell 1;have x2:=BU6.out.cell 2;have u0:=BV6.out.cell 0;have u1:=BV6.out.cell 1;have u2:=BV6.out.cell 2;have u3:=BV6.out.free 0;have u4:=BV6.out.free 1;have u5:=BV6.out.free 2;simp at x0 x1 x2 u0 u1 u2;clear hgt;go_wp2_with fail;go_roundw
         case rel=>exact⟨a+1,by go_num,by have:=HAI.out;omega,QN0.out.b3,hid (fun _=>QN0.out),BN⟩
         case measure=>simp[intOf]<;>(have:=HAI.out;omega)
        ·have z0:decide (0<B)=false:=decide_eq_false (fun h=>hgt (HZC.out.1 h));have QN0:=hid QB6.out;rw[show Bq=bsM L i (a+1-1) by rw[show a+1-1=a by omega,KBx.out,if_neg hgt]]at QN0;clear hgt;go_wp2_with fail;go_roundw
         case rel=>exact⟨a+1,by go_num,by have:=HAI.out;omega,QN0.out.b3,hid (fun _=>QN0.out),y6⟩
         case measure=>simp[intOf]<;>(have:=HAI.out;omega)
    ·have hae:=hid (show a=i+1 by omega);have g1:¬ (a:Int)≤(i:Int):=by omega
     have g2:decide ((a:Int)≤(i:Int))=false:=decide_eq_false g1;have g3:decide (a≤i)=false:=decide_eq_false hai;have g5:(i:Int)<(a:Int):=by omega
     have g6:i<a:=by omega
     have QF:=hid (hQB.out (by omega));rw[show a-1=i by omega]at QF;obtain⟨m1,p1,n1,k1,p2,n2,k2,hBF,hQF⟩:=QF.out;have BF:=hid hBF;have A1:=hid ((Below.refl wr.heap.size wr).alloc (Nat.le_refl _) (.cells #[.bool m1,.slice p1 n1 k1,.slice p2 n2 k2] 79));have Z1:=hid (Blk.new wr #[.bool m1,.slice p1 n1 k1,.slice p2 n2 k2] 79);have x2:=hid (a0a hBa.out A1.out);have yy:=hid (a0a HBo.out x2.out);obtain⟨cs,hk,hQL⟩:=(HO.out.call x2.out).ex;have HK:=hid hk;have HQL:=hid hQL;have HCL:Hid (cs.length=i):=by show _=_;rw[hQL.len,List.length_map,List.length_range]
     have QC2:=hid (QC.ofI (hQF.call A1.out));have BSZ:=hid (show w2.heap.size≤(wr.alloc (.cells #[.bool m1,.slice p1 n1 k1,.slice p2 n2 k2] 79)).heap.size from yy.out.size);have x0:=BF.out.cell 0;have x1:=BF.out.cell 1;have x2':=BF.out.cell 2;simp at x0 x1 x2';clear hai ha hk hQL hBF hQF hB3
     go_wp2_with (at_builtin;refine a0s _ .i64 rfl _ _ 104 rfl w2.heap.size 79 i0 (.agg #[.bool false,.slice none 0 0,.slice none 0 0]) 3 56 Tryz.underlying104 hi0 hz0 hz1 hz2 rfl (by decide) l0a _ cs rfl HK.out ⟨wr.heap.size,0,none⟩ 1 1 [[.bool m1,.slice p1 n1 k1,.slice p2 n2 k2]] rfl rfl (r0m _ _ _) (l0c Z1.out) (r0d _ _ _ _ _ _ _) (p0t _ _ _ _ _ _ _) (by rw[HCL.out];have:=HN12.out;have:=HLT.out;unfold maxLen;omega) (by rw[HCL.out];have:=HN12.out;have:=HLT.out;omega) BSZ.out ?_
                  intro v' w3 hown hgrow hkeep hat;have O3:=hid (show WRow w2.heap.size w3 v' ((List.range (i+1)).map fun i=>bsM L i i) by rw[List.range_succ,List.map_append];exact WRow.app HQL.out hown hkeep QC2.out);have B3:=hid (b0l HK.out yy.out hgrow);clear hown hgrow hkeep hat)
     go_roundw
     case rel=>exact⟨i+1,by go_num,by have:=HLT.out;omega,O3,B3⟩
     case measure=>simp[intOf]<;>(have:=HLT.out;omega)
  ·obtain rfl:i=n:=by omega
   have q1:decide ((i:Int)<(i:Int))=false:=by simp
   clear hlt;go_wp2_with fail;refine (PW _ _ hO.out.rd).out.mono ?_;rintro e w8 ⟨⟨u8,rfl,hu8⟩,hb8⟩;have y8:=hid (a0a y2.out (a0a hB.out hb8));have U8:=hid hu8;obtain⟨a8,c8,rfl,-,-,-⟩:=hu8.openS;clear hb8 hu8;go_wp2_with fail;go_ret2
   exact⟨⟨_,rfl,U8.out⟩,y8.out⟩
theorem n0w (w:World)(v:Value)(l:List ByteArray)(hv:Row w v (a0T l))(hs:∀ s∈l,s.size≤20)(h0:a0O l≠0):
 Calls Tryz.prog 34 #[v] w fun e w'=>(∃ u,e=.returned (.tuple #[u,.int .i64 (mnE l)])∧Row w' u (a0T (mnR l)))∧Below w.heap.size w w':=by
 have HC:=hid (b0A w v l hv (fun s hs'=>by have:=hs s hs';omega));have e1:mnE l=a0O l:=by unfold mnE;rw[if_neg h0]
 have e2:mnR l = []:=by unfold mnR;rw[if_neg h0]
 rw[e1,e2];obtain⟨E,hE⟩:∃ x,a0O l=x:=⟨_,rfl⟩;rw[hE]at HC h0 ⊢;have t2:(E==0)=false:=by simpa using h0
 have t3:(E != 0)=true:=by simpa using h0
 obtain⟨a,c,rfl,-,-,-⟩:=hv.openS;clear hv hs hE h0 e1 e2;go_enter Tryz.func34,Tryz.ntmps34;go_wp2_with fail;refine HC.out.mono ?_;rintro e w1 ⟨rfl,hb1⟩;have y1:=hid hb1;clear hb1;go_wp2_with fail;go_ret2
 exact⟨⟨_,rfl,Row.nil _⟩,y1.out⟩
theorem g0A (w:World)(v:Value)(l:List ByteArray)(hv:Row w v (a0T l))(hs:∀ s∈l,s.size≤20)(hl:l.length≤12):
 Calls Tryz.prog 34 #[v] w fun e w'=>(∃ u,e=.returned (.tuple #[u,.int .i64 (mnE l)])∧Row w' u (a0T (mnR l)))∧Below w.heap.size w w':=by
 by_cases h0:a0O l=0
 ·exact r0f w v l hv hs hl h0
 ·exact n0w w v l hv hs h0
end Go.Proofs.YtlimaehdmcnjaaaGreatDoor
namespace Go.Proofs.YtlimaehdmcnjaaaGreatDoor
open Go.RowKit
open Go.Lib (decDigits nDigits)
theorem f0J (w:World)(s:ByteArray)(hs:s.size≤1000000):
 Calls Tryz.prog 55 #[.string s,.bool false] w fun e w'=>(∃ E,e=.returned (.tuple #[.string (j0N s),.int .i64 E]))∧Below w.heap.size w w':=by
 have R1:=fun V=>hid (h0t V s hs)
 clear hs;by_cases h0:qE s=0
 ·have eB:j0N s=d0A (flQ (vQ s)):=by rw[j0N,wB,if_pos h0]
  rw[eB];have hd:=c0T (k0k h0);obtain⟨q,hq⟩:∃ q,vQ s=q:=⟨_,rfl⟩;rw[hq]at hd ⊢;obtain⟨K,hK,hd⟩:∃ K,K=4000∧Dig K q:=⟨4000,rfl,hd⟩;have hdf:=(c0p hd).lim (L:=1000000) (by omega);have F3:=fun V v hv=>hid (f0L V v (flQ q) hv hdf.1 hdf.2)
  have hq1:=hd.lim (L:=1000000) (by omega);have PD:=fun V v u h1 h2=>hid (g0F V v u q.num.natAbs q.den h1 h2 q.den_pos hq1.1)
  have PO:=fun V=>hid (i0u V)
  have hqq:(limbs (q.num.natAbs / q.den)).length≤1000000:=by
   have h1:q.num.natAbs / q.den<10 ^ K:=Nat.lt_of_le_of_lt (Nat.div_le_self _ _) hd.n;have h2:Dig K (((q.num.natAbs / q.den:Nat):Rat)):=⟨by rw[Rat.num_natCast];exact h1,by rw[Rat.den_natCast];exact Nat.one_lt_pow (by omega) (by omega)⟩;have h3:=(h2.lim (L:=1000000) (by omega)).1;rw[Rat.num_natCast]at h3;exact h3
  have h1l:(limbs 1).length≤1000000:=(m0d.lim (L:=1000000) (by omega)).2;have PA:=fun V v u h1 h2=>hid (h0w V v u (q.num.natAbs / q.den) 1 h1 h2 hqq h1l)
  obtain⟨p1,p2,p3⟩:=e0I q;have hN:flN q=if q.num<0∧q.num.natAbs%q.den≠0 then q.num.natAbs / q.den+1 else q.num.natAbs / q.den:=rfl
  have HQ:=hid (show ∀ W x y,IsN .i64 W x (flN q)→IsN .i64 W y 1→IsQ .i64 W (.agg #[.bool (decide (q.num<0) && !isZ (flN q)),x,y]) (flQ q) from fun W x y hx hy=>⟨x,y,by rw[p1],by rw[p2];exact hx,by rw[p3];exact hy⟩);obtain⟨B,hB⟩:∃ B,d0A (flQ q)=B:=⟨_,rfl⟩;obtain⟨E,hE⟩:∃ E,d0g (flQ q)=E:=⟨_,rfl⟩;rw[hB,hE]at F3;rw[hB];have H0:=hid h0;have HVQ:=hid hq;clear hB hE p1 p2 p3 hdf hq1 hqq h1l hd h0 eB hq;obtain⟨m,hm⟩:∃ m,decide (q.num<0)=m:=⟨_,rfl⟩;have hmm:q.num<0↔m=true:=by rw[← hm];simp
  simp only[hmm]at hN;have HM:=hid hm;rw[hm]at HQ;obtain⟨F,hF⟩:∃ F,flN q=F:=⟨_,rfl⟩;rw[hF]at HQ hN;obtain⟨Q,hQ⟩:∃ Q,q.num.natAbs / q.den=Q:=⟨_,rfl⟩;obtain⟨R,hR⟩:∃ R,q.num.natAbs%q.den=R:=⟨_,rfl⟩;rw[hQ,hR]at PD hN;rw[hQ]at PA;have HNN:=hid hN;clear hmm hm hF hQ hR hN;go_enter Tryz.func55,Tryz.ntmps55;go_wp2_with fail;refine (R1 _).out.mono ?_;rintro e w1 ⟨⟨v,rfl,hqv,-⟩,hb1⟩;have hqv:=hqv H0.out;rw[HVQ.out]at hqv;obtain⟨N,D,rfl,hn,hd⟩:=hqv.ex;have N1:=hid hn;have D1:=hid hd;obtain⟨a1,c1,rfl,-⟩:=hn.openI;obtain⟨a2,c2,rfl,-⟩:=hd.openI;obtain⟨k1,hk1⟩:∃ k,(limbs q.num.natAbs).length=k:=⟨_,rfl⟩;obtain⟨k2,hk2⟩:∃ k,(limbs q.den).length=k:=⟨_,rfl⟩;rw[HM.out,H0.out,hk1,hk2];rw[hk1]at N1;rw[hk2]at D1;have A1:=hid ((Below.refl w1.heap.size w1).alloc (Nat.le_refl _) (.cells #[.bool m,.slice a1 k1 c1,.slice a2 k2 c2] 79));have X1:=hid (Blk.new w1 #[.bool m,.slice a1 k1 c1,.slice a2 k2 c2] 79);have y1:=hid (a0a hb1 A1.out);clear hb1 hqv hn hd hk1 hk2;go_wp2_with fail;refine (PD _ _ _ (N1.out.call A1.out) (D1.out.call A1.out)).out.mono ?_;rintro e w2 ⟨⟨v1,v2,rfl,hv1,hv2⟩,hb2⟩;have V1:=hid hv1;obtain⟨a3,c3,rfl,_⟩:=hv1.openI;obtain⟨a4,c4,rfl,_⟩:=hv2.openI;have x2:=hid (X1.out.call hb2);have y2:=hid (a0a y1.out hb2);obtain⟨k3,hk3⟩:∃ k,(limbs Q).length=k:=⟨_,rfl⟩;obtain⟨k4,hk4⟩:∃ k,(limbs R).length=k:=⟨_,rfl⟩;have hz3:isZ Q = !decide (0<k3):=by
   have h1:k3=0↔Q=0:=by rw[← hk3,List.length_eq_zero_iff,a0Q]
   rw[Bool.eq_iff_iff,i0K];simp only[Bool.not_eq_true',decide_eq_false_iff_not];omega
  have hz4:R=0↔k4=0:=by rw[← hk4,List.length_eq_zero_iff,a0Q]
  rw[hk3]at V1 ⊢;rw[hk4];have HZ3:=hid hz3;have HZ4:=hid hz4;clear hb2 hv1 hv2 hk3 hk4 hz3 hz4;have r0:=x2.out.cell 0;simp at r0;have FIN:Hid (∀ (W:World) (x:Value) (k:Nat) (a:Option Addr) (c:Nat),x=.slice a k c→IsN .i64 W x F→isZ F = !decide (0<k)→∀ u,IsN .i64 W u 1→IsQ .i64 W (.agg #[.bool (m && decide (0<k)),.slice a k c,u]) (flQ q)):=by
   rintro W x k a c rfl hx hz u hu;have:=HQ.out W _ u hx hu;rw[hz,Bool.not_not]at this;exact this
  by_cases hR0:k4=0
  ·subst hR0;have hF:F=Q:=by rw[HNN.out,if_neg (by rintro⟨-,h⟩;exact h (HZ4.out.2 rfl))]
   clear HNN HZ4;subst hF;cases m
   ·go_wp2_with fail;refine (PO _).out.mono ?_;rintro e w7 ⟨⟨u7,rfl,hu7⟩,hb7⟩;have y7:=hid (a0a y2.out hb7);have Q7:=hid (FIN.out w7 _ k3 a3 c3 rfl (V1.out.call hb7) HZ3.out _ hu7);obtain⟨a7,c7,rfl,_⟩:=hu7.openI;rw[Bool.false_and]at Q7;clear hb7 hu7;go_wp2_with fail;refine (F3 _ _ Q7.out).out.mono ?_;rintro e w8 ⟨rfl,hb8⟩;have y8:=hid (a0a y7.out hb8);clear hb8;go_wp2_with fail;go_ret2
    exact⟨⟨_,rfl⟩,y8.out⟩
   ·obtain⟨P,hP⟩:∃ P,decide (0<k3)=P:=⟨_,rfl⟩;have q3:decide ((0:Int)<(k3:Int))=P:=by rw[← hP,Bool.eq_iff_iff,decide_eq_true_iff,decide_eq_true_iff];omega
    have HP:=hid hP;go_wp2_with fail;refine (PO _).out.mono ?_;rintro e w7 ⟨⟨u7,rfl,hu7⟩,hb7⟩;have y7:=hid (a0a y2.out hb7);have Q7:=hid (FIN.out w7 _ k3 a3 c3 rfl (V1.out.call hb7) HZ3.out _ hu7);obtain⟨a7,c7,rfl,_⟩:=hu7.openI;rw[Bool.true_and,HP.out]at Q7;clear hb7 hu7;go_wp2_with fail;refine (F3 _ _ Q7.out).out.mono ?_;rintro e w8 ⟨rfl,hb8⟩;have y8:=hid (a0a y7.out hb8);clear hb8;go_wp2_with fail;go_ret2
    exact⟨⟨_,rfl⟩,y8.out⟩
  ·have q4:decide ((0:Int)<(k4:Int))=true:=decide_eq_true (by omega);cases m
   ·have hF:F=Q:=by rw[HNN.out,if_neg (by rintro⟨h,-⟩;cases h)]
    clear HNN HZ4;subst hF;go_wp2_with fail;refine (PO _).out.mono ?_;rintro e w7 ⟨⟨u7,rfl,hu7⟩,hb7⟩;have y7:=hid (a0a y2.out hb7);have Q7:=hid (FIN.out w7 _ k3 a3 c3 rfl (V1.out.call hb7) HZ3.out _ hu7);obtain⟨a7,c7,rfl,_⟩:=hu7.openI;rw[Bool.false_and]at Q7;clear hb7 hu7;go_wp2_with fail;refine (F3 _ _ Q7.out).out.mono ?_;rintro e w8 ⟨rfl,hb8⟩;have y8:=hid (a0a y7.out hb8);clear hb8;go_wp2_with fail;go_ret2
    exact⟨⟨_,rfl⟩,y8.out⟩
   ·have hF:F=Q+1:=by rw[HNN.out,if_pos ⟨rfl,fun h=>hR0 (HZ4.out.1 h)⟩]
    clear HNN HZ4;subst hF;go_wp2_with fail;refine (PO _).out.mono ?_;rintro e w3 ⟨⟨u3,rfl,hu3⟩,hb3⟩;have y3:=hid (a0a y2.out hb3);have V3:=hid (V1.out.call hb3);have U3:=hid hu3;have x3:=hid (x2.out.call hb3);obtain⟨a5,c5,rfl,_⟩:=hu3.openI;clear hb3 hu3 r0;go_wp2_with fail;refine (PA _ _ _ V3.out U3.out).out.mono ?_;rintro e w4 ⟨⟨u4,rfl,hu4⟩,hb4⟩;have y4:=hid (a0a y3.out hb4);have V4:=hid hu4;have x4:=hid (x3.out.call hb4);obtain⟨a6,c6,rfl,_⟩:=hu4.openI;obtain⟨k6,hk6⟩:∃ k,(limbs (Q+1)).length=k:=⟨_,rfl⟩;have hk60:0<k6:=by
     rcases Nat.eq_zero_or_pos k6 with e | e
     ·rw[e]at hk6;have:=d0D.1 hk6;omega
     ·exact e
    rw[hk6]at V4 ⊢;have q6:decide ((0:Int)<(k6:Int))=true:=decide_eq_true (by omega);have HK6:=hid hk60;clear hb4 hu4 hk6 hk60;have q0:=x4.out.cell 0;simp at q0;go_wp2_with fail;refine (PO _).out.mono ?_;rintro e w7 ⟨⟨u7,rfl,hu7⟩,hb7⟩;have y7:=hid (a0a y4.out hb7);have hz6:isZ (Q+1) = !decide (0<k6):=by rw[decide_eq_true HK6.out];unfold isZ;simp
    have Q7:=hid (FIN.out w7 _ k6 a6 c6 rfl (V4.out.call hb7) hz6 _ hu7);obtain⟨a7,c7,rfl,_⟩:=hu7.openI;rw[Bool.true_and]at Q7;clear hb7 hu7;go_wp2_with fail;refine (F3 _ _ Q7.out).out.mono ?_;rintro e w8 ⟨rfl,hb8⟩;have y8:=hid (a0a y7.out hb8);clear hb8;go_wp2_with fail;go_ret2
    exact⟨⟨_,rfl⟩,y8.out⟩
 ·rw[j0N,wB,if_neg h0];obtain⟨x,hx⟩:∃ x,qE s=x:=⟨_,rfl⟩;have H0:=hid h0;have HX:=hid hx;rw[hx]at h0;have q0:(x != 0)=true:=by simpa using h0
  clear h0 hx;go_enter Tryz.func55,Tryz.ntmps55;go_wp2_with fail;refine (R1 _).out.mono ?_;rintro e w1 ⟨⟨v,rfl,-,hq⟩,hb1⟩;rw[hq H0.out,HX.out];have y1:=hid hb1;clear hb1 hq;go_wp2_with fail;go_ret2
  exact⟨⟨_,rfl⟩,y1.out.alloc y1.out.size _⟩
theorem n0f (w:World)(s:ByteArray)(hs:s.size≤1000000):
 Calls Tryz.prog 21 #[.string s] w fun e w'=>(∃ E,e=.returned (.tuple #[.string (j0N s),.int .i64 E]))∧Below w.heap.size w w':=by
 have R1:=fun V=>hid (f0J V s hs)
 obtain⟨B,hB⟩:∃ B,j0N s=B:=⟨_,rfl⟩;rw[hB]at R1 ⊢;clear hs hB;go_enter Tryz.func21,Tryz.ntmps21;go_wp2_with fail;refine (R1 _).out.mono ?_;rintro e w1 ⟨⟨E,rfl⟩,hb1⟩;have y1:=hid hb1;clear hb1;go_wp2_with fail;go_ret2
 exact⟨⟨_,rfl⟩,y1.out⟩
theorem k0L (w:World)(s t:ByteArray)(hs:s.size≤9223372036854775807)(ht:t.size≤9223372036854775807):Calls Tryz.prog 191 #[.string s,.string t] w fun e w'=>
 e=.returned (.int .i64 (if c0m s.data.toList=0 then c0m t.data.toList else c0m s.data.toList))∧w=w':=by
 obtain⟨x,hx⟩:∃ x,c0m s.data.toList=x:=⟨_,rfl⟩;obtain⟨y,hy⟩:∃ y,c0m t.data.toList=y:=⟨_,rfl⟩;have HX:=hid hx;have HY:=hid hy;rw[hx,hy];clear hx hy;by_cases h0:x=0
 ·subst h0;go_enter Tryz.func191,Tryz.ntmps191;go_wp2_with fail;refine (b0y _ s hs).mono ?_;rintro e w1 ⟨rfl,rfl⟩;rw[HX.out];go_wp2_with fail;refine (b0y _ t ht).mono ?_;rintro e w1 ⟨rfl,rfl⟩;rw[HY.out];go_wp2_with fail;go_ret
  exact⟨a0G (by simp),rfl⟩
 ·have q0:(x != 0)=true:=by simp;omega
  have H0:=hid h0;clear h0;go_enter Tryz.func191,Tryz.ntmps191;go_wp2_with fail;refine (b0y _ s hs).mono ?_;rintro e w1 ⟨rfl,rfl⟩;rw[HX.out];go_wp2_with fail;go_ret
  exact⟨a0G (by first | rfl | rw[if_neg H0.out]),rfl⟩
theorem o0f (w:World)(s t:ByteArray)(hs:s.size≤9223372036854775807)(ht:t.size≤9223372036854775807):Calls Tryz.prog 167 #[.string s,.string t] w fun e w'=>
 e=.returned (.int .i64 (q0l s.data.toList t.data.toList))∧Below w.heap.size w w':=by
 by_cases h:c0m s.data.toList=0∧c0m t.data.toList=0
 ·obtain⟨a,rfl,ha⟩:=e0L h.1;obtain⟨b,rfl,hb⟩:=e0L h.2;have HE:=hid h;have hC:=hid (show q0l (b0h a).data.toList (b0h b).data.toList=b0e a b from by rw[q0l,if_pos h,a0D,a0D,b0G,b0G]);have HA:=hid ha;have HB:=hid hb;rw[hC.out];clear ha hb h hC;go_enter Tryz.func167,Tryz.ntmps167;go_wp2_with fail;refine (k0L _ _ _ hs ht).mono ?_;rintro e w1 ⟨rfl,rfl⟩;rw[HE.out.1,HE.out.2];go_wp2_with fail;refine (c0J _ a (by have:=HA.out;omega)).mono ?_;rintro e w1 ⟨⟨v1,rfl,hv1⟩,hb1⟩;have V1:=hid hv1;have B1:=hid hb1;clear hv1 hb1;go_wp2_with fail;refine (c0J _ b (by have:=HB.out;omega)).mono ?_;rintro e w2 ⟨⟨v2,rfl,hv2⟩,hb2⟩;have V2:=hid hv2;have B2:=hid (a0a B1.out hb2);have V1':=hid (V1.out.call hb2);clear hv2 hb2;go_wp2_with fail;refine (b0n _ v1 v2 a b V1'.out V2.out).mono ?_;rintro e w3 ⟨rfl,hb3⟩;have B3:=hid (a0a B2.out hb3);clear hb3;go_wp2_with fail;go_ret
  exact⟨rfl,B3.out⟩
 ·have hC:=hid (show q0l s.data.toList t.data.toList=0 from by rw[q0l,if_neg h]);obtain⟨x,hx⟩:∃ x,(if c0m s.data.toList=0 then c0m t.data.toList else c0m s.data.toList)=x:=⟨_,rfl⟩;have hx0:x≠0:=fun e=>by
   rw[e]at hx
   split at hx
   ·rename_i h1;exact h ⟨h1,hx⟩
   ·rename_i h1;exact h1 hx
  have q0:(x != 0)=true:=by simp;omega
  have HX:=hid hx;rw[hC.out];clear hx hx0 h hC;go_enter Tryz.func167,Tryz.ntmps167;go_wp2_with fail;refine (k0L _ _ _ hs ht).mono ?_;rintro e w1 ⟨rfl,rfl⟩;rw[HX.out];go_wp2_with fail;go_ret
  exact⟨rfl,Below.refl _ _⟩
def q0u:ByteArray:=⟨#[57,50,50,51,51,55,50,48,51,54,56,53,52,55,55,53,56,48,55]⟩
def n0x:Nat:=9223372036854775807
theorem n0y:c0m q0u.data.toList=0:=by decide +kernel
theorem p0w:dv q0u.data.toList=n0x:=by decide +kernel
theorem g0M:q0u.size≤9223372036854775807:=by decide +kernel
theorem j0Q (l:List UInt8)(i:Nat):dv (l.take i)≤dv l:=by
 have h:=b0s (l.take i) (l.drop i);rw[List.take_append_drop]at h;have h1:dv (l.take i)≤10 ^ (l.drop i).length*dv (l.take i):=Nat.le_mul_of_pos_left _ (Nat.pow_pos (by omega));omega
def m0C (l:List UInt8):Int:=if c0m l=0∧dv l≤n0x then (dv l:Int) else 0
def m0D (l:List UInt8):Int:=if c0m l=0 then (if dv l≤n0x then 0 else 2) else c0m l
theorem o0W {a b x y:Int}{k k':IntKind}(h1:a=b)(h2:x=y):Ending.returned (.tuple #[.int k a,.int k' x])=.returned (.tuple #[.int k b,.int k' y]):=by rw[h1,h2]
theorem i0x (w:World)(s:ByteArray)(hs:s.size≤9223372036854775807):Calls Tryz.prog 127 #[.string s] w fun e w'=>
 e=.returned (.tuple #[.int .i64 (m0C s.data.toList),.int .i64 (m0D s.data.toList)])∧Below w.heap.size w w':=by
 by_cases h:c0m s.data.toList=0
 ·have HE:=hid h;obtain⟨a,rfl,ha⟩:=e0L h;have hl:(b0h a).data.toList=decDigits a:=a0D a;have hcmp:=hid (show q0l (b0h a).data.toList q0u.data.toList=b0e a n0x from by rw[q0l,if_pos ⟨h,n0y⟩,p0w,hl,b0G]);clear h;by_cases hle:a≤n0x
  ·have hV:=hid (show m0C (b0h a).data.toList=(a:Int) from by rw[m0C,if_pos ⟨HE.out,by rw[hl,b0G];exact hle⟩,hl,b0G]);have hE:=hid (show m0D (b0h a).data.toList=0 from by rw[m0D,if_pos HE.out,if_pos (by rw[hl,b0G];exact hle)])
   have hord:=hid (show b0e a n0x≤0 from by unfold b0e;split;omega;split<;>omega)
   have hmx:a≤9223372036854775807:=hle;obtain⟨B,hB⟩:∃ B,b0h a=B:=⟨_,rfl⟩;have hBs:=hid (show B.size=nDigits a from by rw[← hB];exact a0P a);rw[hB]at HE hcmp hl hs hV hE ⊢;have HL:=hid hl;have hdig:=hid (show allDig B.data.toList from by rw[hl];exact b0g a);rw[hV.out,hE.out];clear hB hl hle hV hE ha;have HM:=hid hmx;clear hmx;go_enter Tryz.func127,Tryz.ntmps127;go_wp2_with fail;refine (b0y _ B hs).mono ?_;rintro e w1 ⟨rfl,rfl⟩;rw[HE.out];go_wp2_with fail;refine (o0f _ B q0u hs g0M).mono ?_;rintro e w1 ⟨rfl,hb1⟩;have B1:=hid hb1;clear hb1;rw[hcmp.out];obtain⟨t,ht⟩:∃ t,b0e a n0x=t:=⟨_,rfl⟩;rw[ht]at hord ⊢;have q0:decide ((0:Int)<t)=false:=by have:=hord.out;simp;omega
   clear ht;go_wp2_with fail
   go_loop [5,6] (fun nn ii=>∃ (i x:Nat),ii=.int .i64 i∧nn=.int .i64 x∧i≤B.size∧Hid (x=dv (B.data.toList.take i))) (fun _ ii=>B.size-(intOf ii).toNat)
   case atStart=>exact⟨0,0,rfl,rfl,Nat.zero_le _,by simp[Hid]⟩
   case round=>
    obtain⟨i,x,rfl,rfl,hi,hx⟩:=hrel;by_cases hlt:i<B.size
    ·have hb:=hid (b0z hlt);have hdg:=a0E.1 (hdig.out B[i] (List.mem_of_getElem? hb.out));have hd1:=hdg.1;have hd2:=hdg.2;have hstep:=hid (d0N hb.out);have hbound:10*x+(B[i].toNat-48)≤9223372036854775807:=by
      have h1:=j0Q B.data.toList (i+1);rw[hstep.out,← hx.out,HL.out,b0G]at h1;exact Nat.le_trans h1 HM.out
     clear hdg;go_wp2_with fail;go_round
     case rel=>
      refine⟨i+1,10*x+(B[i].toNat-48),by go_num,?_,by omega,?_⟩
      ·congr 1;omega
      ·rw[Hid,hstep.out,← hx.out]
     case measure=>simp[intOf]<;>omega
    ·obtain rfl:i=B.size:=by omega
     have hxa:=hid (show x=a from by
      rw[hx.out,List.take_of_length_le (by simp),HL.out,b0G])
     go_wp2_with fail;go_ret2
     exact⟨o0W (by rw[hxa.out]) rfl,B1.out⟩
  ·have hV:=hid (show m0C (b0h a).data.toList=0 from by rw[m0C,if_neg (fun h=>hle (by have:=h.2;rwa[hl,b0G]at this))]);have hE:=hid (show m0D (b0h a).data.toList=2 from by rw[m0D,if_pos HE.out,if_neg (by rw[hl,b0G];exact hle)]);have hord:=hid (show b0e a n0x=1 from b0M (by omega));rw[hV.out,hE.out];obtain⟨B,hB⟩:∃ B,b0h a=B:=⟨_,rfl⟩;rw[hB]at HE hcmp hs ⊢;clear hB hl hle hV hE ha;go_enter Tryz.func127,Tryz.ntmps127;go_wp2_with fail;refine (b0y _ B hs).mono ?_;rintro e w1 ⟨rfl,rfl⟩;rw[HE.out];go_wp2_with fail;refine (o0f _ B q0u hs g0M).mono ?_;rintro e w1 ⟨rfl,hb1⟩;have B1:=hid hb1;clear hb1;rw[hcmp.out,hord.out];go_wp2_with fail;go_ret2
   exact⟨rfl,B1.out⟩
 ·have hV:=hid (show m0C s.data.toList=0 from by rw[m0C,if_neg (fun k=>h k.1)]);obtain⟨x,hx⟩:∃ x,c0m s.data.toList=x:=⟨_,rfl⟩;have hE:=hid (show m0D s.data.toList=x from by rw[m0D,if_neg h,hx]);have q0:(x != 0)=true:=by rw[hx]at h;simp;omega
  have HX:=hid hx;rw[hV.out,hE.out];clear h hx hV hE;go_enter Tryz.func127,Tryz.ntmps127;go_wp2_with fail;refine (b0y _ s hs).mono ?_;rintro e w1 ⟨rfl,rfl⟩;rw[HX.out];go_wp2_with fail;go_ret2
  exact⟨rfl,Below.refl _ _⟩
open Go.Shelf
theorem i0h {n:Nat}(h:n<10 ^ 13):m0C (decDigits n)=(n:Int):=by
 have hd:=a0q (n:=n) (k:=13) (by omega) h;unfold m0C;rw[if_pos ⟨n0O (by omega),by rw[b0G];unfold n0x;omega⟩,b0G]
theorem m0F {q:Rat}(h:¬ ovQ q):(txQ q).size≤1000000:=by
 unfold ovQ at h;rw[← b0k];unfold txQ;rw[b0w,List.length_append,List.length_append,Lib.decDigits_length];have h1:(if decide (q.num<0)=true then [(45:UInt8)] else []).length≤1:=by split<;>simp
 have h2:(if q.den=1 then [] else (47:UInt8)::decDigits q.den).length≤4001:=by
  split
  ·simp
  ·rw[List.length_cons,Lib.decDigits_length];omega
 omega
theorem g0z (w:World)(v:Value)(q:Rat)(hv:IsQ .i64 w v q)(dq:Dig 4000 q)(hov:¬ ovQ q)(hn:q.floor.natAbs<10 ^ 13):
 Calls Tryz.prog 89 #[v] w fun e w'=>e=.returned (.int .i64 q.floor)∧Below w.heap.size w w':=by
 obtain⟨m,a1,n1,c1,a2,n2,c2,rfl⟩:=hv.qv;have A0:=hid ((Below.refl w.heap.size w).alloc (Nat.le_refl _) (.cells #[.bool m,.slice a1 n1 c1,.slice a2 n2 c2] 79));have X0:=hid (Blk.new w #[.bool m,.slice a1 n1 c1,.slice a2 n2 c2] 79);have V0:=hid (hv.call A0.out);have PW:=fun V v hv=>hid (f0L V v q hv (e0z dq).1 (e0z dq).2)
 rw[e0s hov,g0I hov]at PW;have hqe:=k0Q hov;have hvq:=k0j q;obtain⟨f1,-⟩:=i0P hqe (by rw[hvq];exact hn);rw[hvq]at f1;have PF:=fun V=>hid (n0f V (txQ q) (m0F hov))
 rw[f1]at PF;have hts:=e0g hn;have htl:=e0h q;obtain⟨T,hT⟩:∃ T,txQ (flQ q)=T:=⟨_,rfl⟩;rw[hT]at PF hts htl;obtain⟨S,hS⟩:∃ S,txQ q=S:=⟨_,rfl⟩;rw[hS]at PW PF;have PT:=fun V=>hid (i0x V T (by omega))
 obtain⟨z,hz⟩:∃ z,q.floor=z:=⟨_,rfl⟩;rw[hz]at htl hn ⊢;obtain⟨n,hnn⟩:∃ n,z.natAbs=n:=⟨_,rfl⟩;rw[hnn]at htl hn;have hdl:0<(decDigits n).length:=by rw[Lib.decDigits_length];exact l0e n
 have hsz:T.size=T.data.toList.length:=(b0k T).symm;have x0:=X0.out.cell 0;have x1:=X0.out.cell 1;have x2:=X0.out.cell 2;simp at x0 x1 x2;by_cases hneg:z<0
 ·rw[if_pos hneg]at htl;have h0:0<T.size:=by rw[hsz,htl,List.length_append,List.length_singleton];omega
  have hb:=b0z h0;rw[htl]at hb;have hb2:T[0]=45:=by simpa using hb.symm
  have hul:(T.extract 1 T.size).data.toList=decDigits n:=by
   have e:(T.extract 1 T.size).data.toList=T.data.toList.drop 1:=by
    rw[ByteArray.data_extract,Array.toList_extract,List.extract_eq_take_drop];rw[List.take_of_length_le (by rw[List.length_drop,b0k];omega)]
   rw[e,htl];rfl
  have hus:(T.extract 1 T.size).size≤18:=by rw[ByteArray.size_extract];omega
  have PU:=fun V=>hid (i0x V (T.extract 1 T.size) (by omega))
  rw[hul,i0h hn]at PU;have HU:=hid hul;have q1:((T[0].toNat:Int)==45)=true:=by rw[hb2];rfl
  have q0:(1:Int)≤(T.size:Int):=by omega
  obtain⟨U,hU⟩:∃ U,T.extract 1 T.size=U:=⟨_,rfl⟩;have HUU:=hid hU;rw[hU]at PU;obtain⟨E1,hE1⟩:∃ E,m0D (decDigits n)=E:=⟨_,rfl⟩;rw[hE1]at PU;obtain⟨Y,hY⟩:∃ Y,m0C T.data.toList=Y:=⟨_,rfl⟩;obtain⟨E2,hE2⟩:∃ Y,m0D T.data.toList=Y:=⟨_,rfl⟩;rw[hY,hE2]at PT;have wn:IntKind.i64.wrap (-(n:Int))=z:=by rw[IntWalk.i64_in _ ⟨by omega,by omega⟩];omega
  clear hv dq hov hqe hvq f1 hT hS htl hz hnn hdl hsz hb hb2 hul hU hE1 hY hE2;go_enter Tryz.func89,Tryz.ntmps89;go_wp2_with fail;refine (PW _ _ V0.out).out.mono ?_;rintro e w1 ⟨rfl,hb1⟩;have y1:=hid (a0a A0.out hb1);clear hb1;go_wp2_with fail;refine (PF _).out.mono ?_;rintro e w2 ⟨⟨E3,rfl⟩,hb2⟩;have y2:=hid (a0a y1.out hb2);clear hb2;go_wp2_with fail;refine (PT _).out.mono ?_;rintro e w3 ⟨rfl,hb3⟩;have y3:=hid (a0a y2.out hb3);clear hb3;go_wp2_with fail;rw[HUU.out];refine (PU _).out.mono ?_;rintro e w4 ⟨rfl,hb4⟩;have y4:=hid (a0a y3.out hb4);clear hb4;go_wp2_with fail;go_ret
  exact⟨rfl,y4.out⟩
 ·rw[if_neg hneg,List.nil_append]at htl;have h0:0<T.size:=by rw[hsz,htl];omega
  have hb:=b0z h0;have hdg:=a0E.1 (b0g n T[0] (by rw[← htl];exact List.mem_of_getElem? hb));have q1:((T[0].toNat:Int)==45)=false:=by rw[beq_eq_false_iff_ne];omega
  rw[htl,i0h hn]at PT;obtain⟨E2,hE2⟩:∃ Y,m0D (decDigits n)=Y:=⟨_,rfl⟩;rw[hE2]at PT;have hzn:z=(n:Int):=by omega
  rw[hzn];clear hv dq hov hqe hvq f1 hT hS htl hz hnn hdl hsz hb hE2 hdg hneg hzn;go_enter Tryz.func89,Tryz.ntmps89;go_wp2_with fail;refine (PW _ _ V0.out).out.mono ?_;rintro e w1 ⟨rfl,hb1⟩;have y1:=hid (a0a A0.out hb1);clear hb1;go_wp2_with fail;refine (PF _).out.mono ?_;rintro e w2 ⟨⟨E3,rfl⟩,hb2⟩;have y2:=hid (a0a y1.out hb2);clear hb2;go_wp2_with fail;refine (PT _).out.mono ?_;rintro e w3 ⟨rfl,hb3⟩;have y3:=hid (a0a y2.out hb3);clear hb3;go_wp2_with fail;go_ret
  exact⟨rfl,y3.out⟩
end Go.Proofs.YtlimaehdmcnjaaaGreatDoor
namespace Go.Proofs.YtlimaehdmcnjaaaGreatDoor
open Go.RowKit
open Go.Lib (decDigits nDigits)
theorem p0E {key:Nat→Rat}{x:Nat}{l:List Nat}(h:l.Pairwise (fun a b=>key b<key a∨(key b=key a∧a<b)))(hx:∀ e∈l,e<x):(j0Z key x l).Pairwise (fun a b=>key b<key a∨(key b=key a∧a<b)):=by
 unfold j0Z;have hr:l.reverse.Pairwise (fun a b=>key a<key b∨(key a=key b∧b<a)):=by rw[List.pairwise_reverse];exact h
 have hx2:∀ e∈l.reverse,e<x:=fun e he=>hx e (List.mem_reverse.1 he)
 have e:=List.takeWhile_append_dropWhile (p:=fun e=>decide (key e<key x)) (l:=l.reverse);obtain⟨T,hT⟩:∃ T,(l.reverse.takeWhile fun e=>decide (key e<key x))=T:=⟨_,rfl⟩;obtain⟨D,hD⟩:∃ D,(l.reverse.dropWhile fun e=>decide (key e<key x))=D:=⟨_,rfl⟩;rw[hT,hD]at e ⊢;rw[← e,List.pairwise_append]at hr;have ht:∀ a∈T,key a<key x:=fun a ha=>by
  have:=List.all_takeWhile (p:=fun e=>decide (key e<key x)) (l:=l.reverse);rw[hT,List.all_eq_true]at this;simpa using this a ha
 have hd:∀ a∈D,key x≤key a:=by
  cases D with
  | nil=>simp
  | cons d r=>
   have h0:¬ key d<key x:=by
    intro hlt;have:=List.head?_dropWhile_not (p:=fun e=>decide (key e<key x)) (l:=l.reverse);rw[hD]at this;simp[hlt]at this
   intro a ha;rcases List.mem_cons.1 ha with rfl | ha
   ·grind
   ·have:=(List.pairwise_cons.1 hr.2.1).1 a ha
    grind
 have hdx:∀ a∈D,key x<key a∨(key x=key a∧a<x):=fun a ha=>by
  have h1:=hd a ha;have h2:=hx2 a (by rw[← e];exact List.mem_append_right _ ha);by_cases h3:key x=key a
  ·exact Or.inr ⟨h3,h2⟩
  ·exact Or.inl (by grind)
 rw[List.pairwise_append,List.pairwise_cons,List.pairwise_reverse,List.pairwise_reverse];refine⟨hr.2.1,⟨fun a ha=>Or.inl (ht a (List.mem_reverse.1 ha)),hr.1⟩,fun a ha b hb=>?_⟩;rcases List.mem_cons.1 hb with rfl | hb
 ·exact hdx a (List.mem_reverse.1 ha)
 ·exact hr.2.2 b (List.mem_reverse.1 hb) a (List.mem_reverse.1 ha)
theorem i0W (key:Nat→Rat):∀ n,(a0r key (List.range n)).Pairwise (fun a b=>key b<key a∨(key b=key a∧a<b))
 | 0=>List.Pairwise.nil
 | n+1=>by
  rw[List.range_succ,d0L];exact p0E (i0W key n) fun e he=>List.mem_range.1 ((a0I _ _).mem_iff.1 he)
def amx (F:Nat→Rat):Nat→Nat
 | 0=>0
 | i+1=>if F (amx F i)<F (i+1) then i+1 else amx F i
theorem m0x (F:Nat→Rat):∀ i,amx F i≤i
 | 0=>Nat.le_refl _
 | i+1=>by rw[amx];split;exact Nat.le_refl _;exact Nat.le_succ_of_le (m0x F i)
theorem j0g (F:Nat→Rat):∀ i j,j≤i→F j≤F (amx F i)
 | 0,j,h=>by
  obtain rfl:j=0:=by omega
  exact Rat.le_refl
 | i+1,j,h=>by
  rw[amx]
  split
  ·rename_i hlt
   by_cases e:j=i+1
   ·subst e;exact Rat.le_refl
   ·exact Rat.le_trans (j0g F i j (by omega)) (Rat.le_of_lt hlt)
  ·rename_i hge
   by_cases e:j=i+1
   ·subst e;exact Rat.not_lt.1 hge
   ·exact j0g F i j (by omega)
theorem o0x (F:Nat→Rat):∀ i j,j<amx F i→F j<F (amx F i)
 | 0,j,h=>absurd h (Nat.not_lt_zero _)
 | i+1,j,h=>by
  rw[amx]at h ⊢
  split
  ·rename_i hlt
   rw[if_pos hlt]at h;have:=j0g F i j (by omega)
   grind
  ·rename_i hge
   rw[if_neg hge]at h;exact o0x F i j h
theorem r0F {F:Nat→Rat}{i p:Nat}(hp:p≤i)(h1:∀ j,j≤i→F j≤F p)(h2:∀ j,j<p→F j<F p):amx F i=p:=by
 have a1:=m0x F i;have a2:=j0g F i p hp;have a3:=h1 _ a1;rcases Nat.lt_trichotomy (amx F i) p with h | h | h
 ·have:=h2 _ h;grind
 ·exact h
 ·have:=o0x F i p h;grind
def frF (v:List Rat)(S:List Nat)(j:Nat):Rat:=if j∈S then -1 else fpt (v.getD j 0)
def frL (v:List Rat)(S:List Nat):List Rat:=(List.range v.length).map (frF v S)
theorem d0J (v:List Rat)(S:List Nat):(frL v S).length=v.length:=by simp[frL]
theorem e0H {v:List Rat}{S:List Nat}{j:Nat}(h:j<v.length):(frL v S)[j]?=some (frF v S j):=by
 unfold frL;rw[List.getElem?_map,List.getElem?_range h];rfl
theorem p0L (v:List Rat):frL v []=v.map fpt:=by
 apply List.ext_getElem?
 intro i;by_cases h:i<v.length
 ·rw[e0H h,List.getElem?_map,List.getElem?_eq_getElem h];simp[frF,List.getD_eq_getElem?_getD,h]
 ·rw[List.getElem?_eq_none (by rw[d0J];omega),List.getElem?_eq_none (by simp;omega)]
theorem p0K {v:List Rat}{S:List Nat}{i:Nat}(h:i<v.length):(frL v S).set i (-1)=frL v (S ++ [i]):=by
 apply List.ext_getElem?
 intro k;rw[List.getElem?_set,d0J];by_cases hk:i=k
 ·subst hk;rw[if_pos rfl,if_pos h,e0H h];simp[frF]
 ·rw[if_neg hk];by_cases h2:k<v.length
  ·rw[e0H h2,e0H h2];have hk2:¬ k=i:=fun e=>hk e.symm
   simp[frF,hk2]
  ·rw[List.getElem?_eq_none (by rw[d0J];omega),List.getElem?_eq_none (by rw[d0J];omega)]
def frO (v:List Rat):List Nat:=a0r (fun i=>fpt (v.getD i 0)) (List.range v.length)
theorem p0J (v:List Rat):(frO v).length=v.length:=by unfold frO;rw[a0N,List.length_range]
theorem o0p (v:List Rat):(frO v).Nodup:=(a0I _ _).nodup_iff.2 List.nodup_range
theorem o0q {v:List Rat}{i:Nat}(h:i∈frO v):i<v.length:=List.mem_range.1 ((a0I _ _).mem_iff.1 h)
theorem n0X {v:List Rat}{t p:Nat}(h:(frO v)[t]?=some p):amx (frF v ((frO v).take t)) (v.length-1)=p:=by
 have hpl:=o0q (List.mem_of_getElem? h);have hnew:=(f0F (o0p v) h).1;have hst:=i0W (fun i=>fpt (v.getD i 0)) v.length;have hFp:frF v ((frO v).take t) p=fpt (v.getD p 0):=by unfold frF;rw[if_neg hnew]
 have hnn:=l0G (v.getD p 0);obtain⟨ht,hpe⟩:=List.getElem?_eq_some_iff.1 h;have hlow:∀ j,j<v.length→j ∉ (frO v).take t→j=p∨fpt (v.getD j 0)<fpt (v.getD p 0)∨(fpt (v.getD j 0)=fpt (v.getD p 0)∧p<j):=fun j hj hjn=>by
  have hm:j∈frO v:=(a0I _ _).mem_iff.2 (List.mem_range.2 hj);obtain⟨s,hs⟩:=List.getElem?_of_mem hm;obtain⟨hs1,hs2⟩:=List.getElem?_eq_some_iff.1 hs;rcases Nat.lt_trichotomy s t with h1 | h1 | h1
  ·refine absurd (List.mem_of_getElem? (i:=s) ?_) hjn;rw[List.getElem?_take,if_pos h1];exact hs
  ·subst h1;rw[h]at hs;exact Or.inl (Option.some.inj hs).symm
  ·have:=(List.pairwise_iff_getElem.1 hst) t s ht hs1 h1;have e1:(a0r (fun i=>fpt (v.getD i 0)) (List.range v.length))[t]=p:=hpe;have e2:(a0r (fun i=>fpt (v.getD i 0)) (List.range v.length))[s]=j:=hs2;rw[e1,e2]at this;exact Or.inr this
 refine r0F (by omega) (fun j hj=>?_) (fun j hj=>?_)
 ·rw[hFp];unfold frF
  split
  ·grind
  ·rename_i hn
   rcases hlow j (by omega) hn with rfl | h1 | ⟨h1,-⟩<;>grind
 ·rw[hFp];unfold frF
  split
  ·grind
  ·rename_i hn
   rcases hlow j (by omega) hn with h1 | h1 | ⟨h1,h2⟩
   ·omega
   ·exact h1
   ·omega
open Go.Shelf
theorem l0x {k:IntKind}{W:World}{m:Bool}{N D:Value}{q:Rat}(h:IsQ k W (.agg #[.bool m,N,D]) q):IsN k W D q.den:=by
 obtain⟨N',D',e,-,h2⟩:=h.ex;simp at e;obtain⟨-,-,rfl⟩:=e;exact h2
theorem g0Z (W:World)(m:Bool)(a:Option Addr)(n c:Nat)(a':Option Addr)(n' c':Nat):Sem.run Tryz.prog (Instr.field 79 (.agg #[.bool m,.slice a n c,.slice a' n' c']) 2) W=.ok (.slice a' n' c') W:=by kernel_rfl
theorem q0V {l:List ByteArray}(h:a0O l≠0):rdE l=a0O l∧e0p l = []:=by
 have e:rdE l=a0O l:=by unfold rdE;rw[if_neg h]
 refine⟨e,?_⟩;unfold e0p;rw[e,if_neg h]
theorem m0W (w:World)(v:Value)(l:List ByteArray)(hv:Row w v (a0T l))(hs:∀ s∈l,s.size≤20)(h0:a0O l≠0):
 Calls Tryz.prog 35 #[v] w fun e w'=>(∃ u,e=.returned (.tuple #[u,.int .i64 (rdE l)])∧Row w' u (zs (e0p l)))∧Below w.heap.size w w':=by
 have HC:=hid (b0A w v l hv (fun s hs'=>by have:=hs s hs';omega));obtain⟨e1,e2⟩:=q0V h0;rw[e1,e2];obtain⟨E,hE⟩:∃ x,a0O l=x:=⟨_,rfl⟩;rw[hE]at HC h0 ⊢;have t2:(E==0)=false:=by simpa using h0
 have t3:(E != 0)=true:=by simpa using h0
 obtain⟨a,c,rfl,-,-,-⟩:=hv.openS;clear hv hs hE h0 e1 e2;go_enter Tryz.func35,Tryz.ntmps35;go_wp2_with fail;refine HC.out.mono ?_;rintro e w1 ⟨rfl,hb1⟩;have y1:=hid hb1;clear hb1;go_wp2_with fail;go_ret2
 exact⟨⟨_,rfl,Row.nil _⟩,y1.out⟩
theorem i0A {d:Nat}(h:0<d):(b0e d 1==0)=decide (d=1)∧(b0e d 1 != 0) = !decide (d=1):=by
 unfold b0e;by_cases e:d=1
 ·subst e;decide
 ·have h1:¬ d<1:=by omega
  have h2:1<d:=by omega
  rw[if_neg h1,if_pos h2,decide_eq_false e]
  decide
theorem m0V (w:World)(v:Value)(l:List ByteArray)(hv:Row w v (a0T l))(hs:∀ s∈l,s.size≤20)(hl:l.length≤12)(h0:a0O l=0)(hden:(rs (l.map vQ)).den≠1):
 Calls Tryz.prog 35 #[v] w fun e w'=>(∃ u,e=.returned (.tuple #[u,.int .i64 (rdE l)])∧Row w' u (zs (e0p l)))∧Below w.heap.size w w':=by
 have z1:∀ s∈l,s.size≤1000000:=fun s hs'=>by have:=hs s hs';omega
 have HC:=hid (b0A w v l hv z1);have V1:=j0j h0 hs hl;have HLT:=LT.of0 V1;have e1:rdE l=15:=by unfold rdE;rw[if_pos h0,if_neg hden]
 have e2:e0p l = []:=by unfold e0p;rw[if_neg (by rw[e1];decide)]
 rw[e1,e2];rw[h0]at HC;have PR:=fun V x hx=>hid (b0Q V x l hx z1 V1.q (by omega))
 obtain⟨L,hL⟩:∃ L,l.map vQ=L:=⟨_,rfl⟩;rw[hL]at HLT PR hden;have dl:∀ q∈L,Dig 4000 q:=fun q hq=>HLT.dig (HLT.dv q hq) (by omega)
 have PSU:=fun V x hx=>hid (e0q V x L hx (by have:=HLT.n;omega) (fun i _=>HLT.dig (HLT.sum (s:=L.take i) (fun q hq=>List.mem_of_mem_take hq) (by rw[List.length_take];have:=HLT.n;omega)) (by omega)) dl)
 have PN:=fun V x y hx hy=>hid (b0n V x y (rs L).den 1 hx hy)
 have hO:=(i0A (rs L).den_pos).2;rw[decide_eq_false hden]at hO;obtain⟨O,hOO⟩:∃ O,b0e (rs L).den 1=O:=⟨_,rfl⟩;rw[hOO]at PN hO;have t4:(O != 0)=true:=hO;have t5:(O==0)=false:=by simpa using hO
 have HV:=hid hv;obtain⟨a1,c1,rfl,q1,q2,-⟩:=hv.openS;clear hv hs hl z1 h0 hden e1 e2 V1 HLT hL dl hOO hO;go_enter Tryz.func35,Tryz.ntmps35;go_wp2_with fail;refine HC.out.mono ?_;rintro e w1 ⟨rfl,hb1⟩;have y1:=hid hb1;clear hb1;go_wp2_with fail;refine (PR _ _ (HV.out.call y1.out)).out.mono ?_;rintro e w2 ⟨⟨u2,rfl,hu2⟩,hb2⟩;have y2:=hid (a0a y1.out hb2);have R2:=hid hu2.rd;obtain⟨a2,c2,rfl,r1,r2⟩:=hu2.slice;clear hb2 hu2;go_wp2_with fail;refine (PSU _ _ R2.out).out.mono ?_;rintro e w3 ⟨⟨u3,rfl,hu3⟩,hb3⟩;have y3:=hid (a0a y2.out hb3);obtain⟨m3,a3,n3,k3,aD,oD,cD,rfl⟩:=hu3.qv;have hD3:=l0x hu3;have A3:=hid ((Below.refl w3.heap.size w3).alloc (Nat.le_refl _) (.cells #[.int .i64 1] 3));have O3:=hid (h0T w3);have D3':=hid (hD3.call A3.out);have y4:=hid (a0a y3.out A3.out);have hfd:=fun W=>g0Z W m3 a3 n3 k3 aD oD cD
 clear hb3 hu3 hD3;go_wp2_with fail;clear hfd;refine (PN _ _ _ D3'.out O3.out).out.mono ?_;rintro e w5 ⟨rfl,hb5⟩;have y5:=hid (a0a y4.out hb5);clear hb5;go_wp2_with fail;go_ret2
 exact⟨⟨_,rfl,Row.nil _⟩,y5.out⟩
theorem d0r:qE ⟨#[49,48,48,48,48,48,48,48,48,48,48,48,48]⟩=0∧vQ ⟨#[49,48,48,48,48,48,48,48,48,48,48,48,48]⟩=b0O:=by decide +kernel
end Go.Proofs.YtlimaehdmcnjaaaGreatDoor
