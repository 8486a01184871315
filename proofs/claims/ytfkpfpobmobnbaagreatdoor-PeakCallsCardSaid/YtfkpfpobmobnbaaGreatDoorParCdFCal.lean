/- PeakCalls: the row and the tied card: for every input the law answers true; conditions: none beyond the row's own. -/
import Derived.Test.YtfkpfpobmobnbaaGreatDoorPa14
set_option linter.defProp false
set_option linter.unusedVariables false
set_option linter.unusedSimpArgs false
set_option linter.unusedSectionVars false
set_option maxRecDepth 100000
set_option maxHeartbeats 8000000
namespace Go.Proofs.YtfkpfpobmobnbaaGreatDoor
open Go.ChangeShapes Go.WideShapes Go.ChangeAt Go.RowKit
open Go.ChangeMaps (open_string shut_string)
def Ja:=@Go.ChangeShapes.trodAll_cons
def Hw:=@Go.DataW.trod_lt
def Gx:=@Go.trodAll_cons_mk
def Lu:=@Go.RowKit.Below.trod
def f0K (os:Os)(started:os.Started)(H:Type)(enc:TypeId×Value->H)(F:Stop.Interp):
 ReturnsInHanded {} Tryz.checked os 4 .any ((OpenSpec.ofChange Rows.peakCallsSpec).preRow enc Tryz.prog Tryz.f4 Rows.peakCallsRow.domain false Rows.peakCallsRow.laid)
  (((OpenSpec.ofChange Rows.peakCallsSpec).at F).post enc Tryz.prog Tryz.f4 false true false false):=by
 refine returnsInHanded_of_row (C:=Tryz.checked) (s:=OpenSpec.ofChange Rows.peakCallsSpec) own started (by kernel_rfl) Kh
  (ChangeSpec.witness_shaped (enc:=enc) (C:=Tryz.checked) (os:=os) (s:=Rows.peakCallsSpec) (conds:=Rows.peakCallsRow.domain) (fn:=Tryz.f4) (X:=fun w _=>laidMetH Tryz.prog Rows.peakCallsRow.laid w) false (World.laidAll Tryz.prog os Rows.peakCallsRow.laid) #[.slice none 0 0,.string ByteArray.empty,.slice none 0 0,.int .i64 0,.int .i64 0,.int .i64 0,.bool false] 8 (World.laidAll_os _ _ _)
   (World.shaped_of_ZipB (by kernel_rfl) (by kernel_rfl)) (by kernel_rfl) (by kernel_rfl) (by kernel_rfl)
   (by rw[If _ _ _ (by kernel_rfl)];exact laidMet_laidAll _ (by kernel_rfl) (by kernel_rfl))) ?_
 intro W base args ds gs before hval0 hW _ _ _ hL hsh _;have hval:∀ (j:Nat) t v,Tryz.f4.params[j]?=some t->args[j]?=some v->Value.okWide Tryz.prog W .any base t v:=hval0;have hW':=hW;obtain⟨p,q,hA0,hV,rfl,hfz,hnd⟩:=hW;have hA:DataW.TrodAll enc Tryz.prog W 0 (fun _=>true) true Tryz.f4.params.toList args.toList ds p:=hA0;rw[Tryz.params4]at hA hval;obtain⟨v0,vs0,d0,ds0,p0,q0,hargs,rfl,rfl,h0,r0⟩:=Ja hA;obtain⟨v1,vs1,d1,ds1,p1,q1,rfl,rfl,rfl,h1,r1⟩:=Ja r0;obtain⟨v2,vs2,d2,ds2,p2,q2,rfl,rfl,rfl,h2,r2⟩:=Ja r1;obtain⟨v3,vs3,d3,ds3,p3,q3,rfl,rfl,rfl,h3,r3⟩:=Ja r2;obtain⟨v4,vs4,d4,ds4,p4,q4,rfl,rfl,rfl,h4,r4⟩:=Ja r3;obtain⟨v5,vs5,d5,ds5,p5,q5,rfl,rfl,rfl,h5,r5⟩:=Ja r4;obtain⟨v6,vs6,d6,ds6,p6,q6,rfl,rfl,rfl,h6,r6⟩:=Ja r5;obtain⟨rfl,rfl,rfl⟩:=trodAll_nil r6;obtain rfl:args = #[v0,v1,v2,v3,v4,v5,v6]:=by cases args;simp_all
 obtain⟨rfl,rfl⟩:=trodVars_none hV;have k0:=h0;have lt0:∀ x∈p0,x.block<W.heap.size:=by obtain⟨m,hm⟩:=k0;exact Hw m _ _ _ hm
 have k1:=h1;have lt1:∀ x∈p1,x.block<W.heap.size:=by obtain⟨m,hm⟩:=k1;exact Hw m _ _ _ hm
 have k2:=h2;have lt2:∀ x∈p2,x.block<W.heap.size:=by obtain⟨m,hm⟩:=k2;exact Hw m _ _ _ hm
 have k3:=h3;have lt3:∀ x∈p3,x.block<W.heap.size:=by obtain⟨m,hm⟩:=k3;exact Hw m _ _ _ hm
 have k4:=h4;have lt4:∀ x∈p4,x.block<W.heap.size:=by obtain⟨m,hm⟩:=k4;exact Hw m _ _ _ hm
 have k5:=h5;have lt5:∀ x∈p5,x.block<W.heap.size:=by obtain⟨m,hm⟩:=k5;exact Hw m _ _ _ hm
 have k6:=h6;have lt6:∀ x∈p6,x.block<W.heap.size:=by obtain⟨m,hm⟩:=k6;exact Hw m _ _ _ hm
 obtain⟨l0,R0,Z0⟩:=q0H Tryz.underlying22 Z7 (by kernel_rfl) (hval 0 22 v0 rfl rfl) h0;obtain⟨a1,rfl,rfl,rfl,w1⟩:=open_string Ft (hval 1 23 v1 rfl rfl) h1;obtain⟨l2,R2,Z2⟩:=q0G Tryz.underlying24 Tryz.underlying26 (by kernel_rfl) (hval 2 24 v2 rfl rfl) h2;obtain⟨a3,rfl,rfl,rfl,w3⟩:=open_int Z7 (hval 3 3 v3 rfl rfl) h3;obtain⟨a4,rfl,rfl,rfl,w4⟩:=open_int Z7 (hval 4 3 v4 rfl rfl) h4;obtain⟨a5,rfl,rfl,rfl,w5⟩:=open_int Z7 (hval 5 3 v5 rfl rfl) h5;obtain⟨a6,rfl,rfl,rfl⟩:=open_bool Aw (hval 6 4 v6 rfl rfl) h6;clear hA0 hval0;refine (k0Y W v0 v2 l0 a1 l2 a3 a4 a5 a6 R0 R2 (by obtain⟨_,c,_,h1,h2,_⟩:=R0;rw[zs_length]at h1;omega) w1 Z2 (x0g hL hsh)).mono fun e W' ⟨he,bel⟩=>?_
 subst he;exact⟨_,rfl,_,_,_,[],_,[],hW',trodAll_mk1 (shut_bool Aw _),(Gx (Lu e0i (by kernel_rfl) (M9 (by kernel_rfl)) k0 bel lt0) (Gx (Lu e0i (by kernel_rfl) (M9 (by kernel_rfl)) k1 bel lt1) (Gx (Lu e0i (by kernel_rfl) (M9 (by kernel_rfl)) k2 bel lt2) (Gx (Lu e0i (by kernel_rfl) (M9 (by kernel_rfl)) k3 bel lt3) (Gx (Lu e0i (by kernel_rfl) (M9 (by kernel_rfl)) k4 bel lt4) (Gx (Lu e0i (by kernel_rfl) (M9 (by kernel_rfl)) k5 bel lt5) (Gx (Lu e0i (by kernel_rfl) (M9 (by kernel_rfl)) k6 bel lt6) trodAll_mk0))))))),rfl,bel.frame _,fun h=>by cases h⟩
def f0L:joinedFacts Tryz.pinned.checked.prog 4 Tryz.f4 (OpenSpec.ofChange Rows.peakCallsSpec).bare Rows.peakCallsRow=true:=by
 unfold joinedFacts;simp only[F9]
 repeat' apply And.intro
 all_goals (as_aux_lemma=>kernel_rfl)
def g0I:Rows.peakCallsRow.holds Tryz.pinned (OpenSpec.ofChange Rows.peakCallsSpec):=
 OpenClaim.holds_of_cond 4 Tryz.f4 rfl rfl rfl rfl rfl rfl rfl ⟨rfl,rfl,rfl,rfl,rfl⟩ rfl rfl rfl rfl rfl (by as_aux_lemma=>kernel_rfl) Kh f0L
  (M9 (by as_aux_lemma=>kernel_rfl)) (by unfold Func.isWrapper;first | (rw[J2 (by decide +kernel)];kernel_rfl) | (rw[U0 (by decide +kernel)];exact⟨rfl,rfl⟩))
  (fun os started H enc _ F0=>by rw[OpenClaim.pre_eq_preRow];exact f0K os started H enc F0)
theorem peakCalls_card:Rows.PeakCallsCardSaid:=
 Claim7.holds_tied_plain_at .later [] [.data,.data,.data,.data,.sentinel,.sentinel,.pinned] true Rows.peakCallsCard.stood.harness true
  g0I (fun _ h=>by cases h) (by as_aux_lemma=>kernel_rfl) (fun _ h=>by cases h) peakCalls_row_tie rfl ⟨rfl,rfl⟩ (by as_aux_lemma=>kernel_rfl) rfl
  (fun f fn hf hfn=>by
   obtain rfl : f = 4 := Option.some.inj ((show Tryz.prog.funcNamed "privhouse/privhouselaw25.PeakCalls" = some 4 by as_aux_lemma => kernel_rfl).symm.trans hf) |>.symm
   obtain rfl:fn=Tryz.f4:=(J9 (Kh.symm.trans hfn)).symm
   exact⟨by as_aux_lemma=>kernel_rfl,fun j t ht=>by
    rw[Tryz.params4]at ht;have hm:t ∈ [22,23,24,3,3,3,4]:=by simpa using Array.mem_of_getElem? ht
    have hall:([22,23,24,3,3,3,4].all fun u => !Tryz.prog.wantsStandIn u)=true:=by as_aux_lemma=>kernel_rfl
    exact (show Tryz.prog.wantsStandIn t=false by simpa using List.all_eq_true.1 hall t hm)⟩)
  (by as_aux_lemma=>kernel_rfl)
#print axioms peakCalls_card
end Go.Proofs.YtfkpfpobmobnbaaGreatDoor
