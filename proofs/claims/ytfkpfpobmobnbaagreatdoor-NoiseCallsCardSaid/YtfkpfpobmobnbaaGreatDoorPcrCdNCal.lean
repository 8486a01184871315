/- NoiseCalls: the row and the tied card: for every input the law answers true; conditions: none beyond the row's own. -/
import Derived.Test.YtfkpfpobmobnbaaGreatDoorPc14
set_option linter.defProp false
set_option linter.unusedVariables false
set_option linter.unusedSimpArgs false
set_option linter.unusedSectionVars false
set_option maxRecDepth 100000
set_option maxHeartbeats 8000000
namespace Go.Proofs.YtfkpfpobmobnbaaGreatDoor
open Go.ChangeShapes Go.WideShapes Go.ChangeAt Go.RowKit
open Go.ChangeMaps (open_string shut_string)
def Lc:=@Go.ChangeShapes.trodAll_cons
def Jz:=@Go.DataW.trod_lt
def Ht:=@Go.trodAll_cons_mk
def f0e (os:Os)(started:os.Started)(H:Type)(enc:TypeId×Value->H)(F:Stop.Interp):
 ReturnsInHanded {} Tryz.checked os 3 .any ((OpenSpec.ofChange Rows.noiseCallsSpec).preRow enc Tryz.prog Tryz.f3 Rows.noiseCallsRow.domain false Rows.noiseCallsRow.laid)
  (((OpenSpec.ofChange Rows.noiseCallsSpec).at F).post enc Tryz.prog Tryz.f3 false true false false):=by
 refine returnsInHanded_of_row (C:=Tryz.checked) (s:=OpenSpec.ofChange Rows.noiseCallsSpec) own started (by kernel_rfl) Ko
  (ChangeSpec.witness_shaped (enc:=enc) (C:=Tryz.checked) (os:=os) (s:=Rows.noiseCallsSpec) (conds:=Rows.noiseCallsRow.domain) (fn:=Tryz.f3) (X:=fun w _=>laidMetH Tryz.prog Rows.noiseCallsRow.laid w) false (World.laidAll Tryz.prog os Rows.noiseCallsRow.laid) #[.slice none 0 0,.string ByteArray.empty,.slice none 0 0,.int .i64 0,.int .i64 0,.int .i64 0] 8 (World.laidAll_os _ _ _)
   (World.shaped_of_ZipB (by kernel_rfl) (by kernel_rfl)) (by kernel_rfl) (by kernel_rfl) (by kernel_rfl)
   (by rw[Ih _ _ _ (by kernel_rfl)];exact laidMet_laidAll _ (by kernel_rfl) (by kernel_rfl))) ?_
 intro W base args ds gs before hval0 hW _ _ _ hL hsh _;have hval:∀ (j:Nat) t v,Tryz.f3.params[j]?=some t->args[j]?=some v->Value.okWide Tryz.prog W .any base t v:=hval0;have hW':=hW;obtain⟨p,q,hA0,hV,rfl,hfz,hnd⟩:=hW;have hA:DataW.TrodAll enc Tryz.prog W 0 (fun _=>true) true Tryz.f3.params.toList args.toList ds p:=hA0;rw[Tryz.params3]at hA hval;obtain⟨v0,vs0,d0,ds0,p0,q0,hargs,rfl,rfl,h0,r0⟩:=Lc hA;obtain⟨v1,vs1,d1,ds1,p1,q1,rfl,rfl,rfl,h1,r1⟩:=Lc r0;obtain⟨v2,vs2,d2,ds2,p2,q2,rfl,rfl,rfl,h2,r2⟩:=Lc r1;obtain⟨v3,vs3,d3,ds3,p3,q3,rfl,rfl,rfl,h3,r3⟩:=Lc r2;obtain⟨v4,vs4,d4,ds4,p4,q4,rfl,rfl,rfl,h4,r4⟩:=Lc r3;obtain⟨v5,vs5,d5,ds5,p5,q5,rfl,rfl,rfl,h5,r5⟩:=Lc r4;obtain⟨rfl,rfl,rfl⟩:=trodAll_nil r5;obtain rfl:args = #[v0,v1,v2,v3,v4,v5]:=by cases args;simp_all
 obtain⟨rfl,rfl⟩:=trodVars_none hV;have k0:=h0;have lt0:∀ x∈p0,x.block<W.heap.size:=by obtain⟨m,hm⟩:=k0;exact Jz m _ _ _ hm
 have k1:=h1;have lt1:∀ x∈p1,x.block<W.heap.size:=by obtain⟨m,hm⟩:=k1;exact Jz m _ _ _ hm
 have k2:=h2;have lt2:∀ x∈p2,x.block<W.heap.size:=by obtain⟨m,hm⟩:=k2;exact Jz m _ _ _ hm
 have k3:=h3;have lt3:∀ x∈p3,x.block<W.heap.size:=by obtain⟨m,hm⟩:=k3;exact Jz m _ _ _ hm
 have k4:=h4;have lt4:∀ x∈p4,x.block<W.heap.size:=by obtain⟨m,hm⟩:=k4;exact Jz m _ _ _ hm
 have k5:=h5;have lt5:∀ x∈p5,x.block<W.heap.size:=by obtain⟨m,hm⟩:=k5;exact Jz m _ _ _ hm
 obtain⟨l0,R0,Z0⟩:=q0z Ib U8 (by kernel_rfl) (hval 0 22 v0 rfl rfl) h0;obtain⟨a1,rfl,rfl,rfl,w1⟩:=open_string Gf (hval 1 23 v1 rfl rfl) h1;obtain⟨l2,R2,Z2⟩:=q0y Tryz.underlying24 Tryz.underlying26 (by kernel_rfl) (hval 2 24 v2 rfl rfl) h2;obtain⟨a3,rfl,rfl,rfl,w3⟩:=open_int U8 (hval 3 3 v3 rfl rfl) h3;obtain⟨a4,rfl,rfl,rfl,w4⟩:=open_int U8 (hval 4 3 v4 rfl rfl) h4;obtain⟨a5,rfl,rfl,rfl,w5⟩:=open_int U8 (hval 5 3 v5 rfl rfl) h5;clear hA0 hval0;refine (j0I W v0 v2 l0 a1 l2 a3 a4 a5 R0 R2 (by obtain⟨_,c,_,h1,h2,_⟩:=R0;rw[zs_length]at h1;omega) w1 Z2 (x0G hL hsh)).mono fun e W' ⟨he,bel⟩=>?_
 subst he;exact⟨_,rfl,_,_,_,[],_,[],hW',trodAll_mk1 (shut_bool Bm _),(Ht (Below.trod f0l (by kernel_rfl) (Ax (by kernel_rfl)) k0 bel lt0) (Ht (Below.trod f0l (by kernel_rfl) (Ax (by kernel_rfl)) k1 bel lt1) (Ht (Below.trod f0l (by kernel_rfl) (Ax (by kernel_rfl)) k2 bel lt2) (Ht (Below.trod f0l (by kernel_rfl) (Ax (by kernel_rfl)) k3 bel lt3) (Ht (Below.trod f0l (by kernel_rfl) (Ax (by kernel_rfl)) k4 bel lt4) (Ht (Below.trod f0l (by kernel_rfl) (Ax (by kernel_rfl)) k5 bel lt5) trodAll_mk0)))))),rfl,bel.frame _,fun h=>by cases h⟩
def f0f:joinedFacts Tryz.pinned.checked.prog 3 Tryz.f3 (OpenSpec.ofChange Rows.noiseCallsSpec).bare Rows.noiseCallsRow=true:=by
 unfold joinedFacts;simp only[I9]
 repeat' apply And.intro
 all_goals (as_aux_lemma=>kernel_rfl)
def f0N:Rows.noiseCallsRow.holds Tryz.pinned (OpenSpec.ofChange Rows.noiseCallsSpec):=
 OpenClaim.holds_of_cond 3 Tryz.f3 rfl rfl rfl rfl rfl rfl rfl ⟨rfl,rfl,rfl,rfl,rfl⟩ rfl rfl rfl rfl rfl (by as_aux_lemma=>kernel_rfl) Ko f0f
  (Ax (by as_aux_lemma=>kernel_rfl)) (by unfold Func.isWrapper;first | (rw[U0 (by decide +kernel)];kernel_rfl) | (rw[Q0 (by decide +kernel)];exact⟨rfl,rfl⟩))
  (fun os started H enc _ F0=>by rw[OpenClaim.pre_eq_preRow];exact f0e os started H enc F0)
theorem noiseCalls_card:Rows.NoiseCallsCardSaid:=
 Claim7.holds_tied_plain_at .later [] [.data,.data,.data,.data,.sentinel,.sentinel,.pinned] true Rows.noiseCallsCard.stood.harness true
  f0N (fun _ h=>by cases h) (by as_aux_lemma=>kernel_rfl) (fun _ h=>by cases h) noiseCalls_row_tie rfl ⟨rfl,rfl⟩ (by as_aux_lemma=>kernel_rfl) rfl
  (fun f fn hf hfn=>by
   obtain rfl : f = 3 := Option.some.inj ((show Tryz.prog.funcNamed "privhouse/privhouselaw21.NoiseCalls" = some 3 by as_aux_lemma => kernel_rfl).symm.trans hf) |>.symm
   obtain rfl:fn=Tryz.f3:=(K9 (Ko.symm.trans hfn)).symm
   exact⟨by as_aux_lemma=>kernel_rfl,fun j t ht=>by
    rw[Tryz.params3]at ht;have hm:t ∈ [22,23,24,3,3,3]:=by simpa using Array.mem_of_getElem? ht
    have hall:([22,23,24,3,3,3].all fun u => !Tryz.prog.wantsStandIn u)=true:=by as_aux_lemma=>kernel_rfl
    exact (show Tryz.prog.wantsStandIn t=false by simpa using List.all_eq_true.1 hall t hm)⟩)
  (by as_aux_lemma=>kernel_rfl)
#print axioms noiseCalls_card
end Go.Proofs.YtfkpfpobmobnbaaGreatDoor
