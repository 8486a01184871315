/- SparseCalls: for every input the law answers true; conditions: none. -/
import Derived.Test.YtfkpfpobmobnbaaGreatDoorPb15
set_option linter.all false
set_option maxRecDepth 100000
set_option maxHeartbeats 8000000
namespace Go.Proofs.YtfkpfpobmobnbaaGreatDoor
open Go.Proofs.Tryz Go.RowKit
open Go.ChangeShapes Go.WideShapes Go.ChangeAt
open Go.ChangeMaps (open_string)
def Hj:=@Go.ChangeShapes.trodAll_cons
def Hd:=@Go.DataW.trod_lt
def Fx:=@Go.trodAll_cons_mk
def Js:=@Go.RowKit.Below.trod
def e0W (os:Os)(started:os.Started)(H:Type)(enc:TypeId×Value->H)(F:Stop.Interp):
 ReturnsInHanded {} checked os 5 .any ((OpenSpec.ofChange Rows.sparseCallsSpec).preRow enc prog Tryz.f5 Rows.sparseCallsRow.domain false Rows.sparseCallsRow.laid)
  (((OpenSpec.ofChange Rows.sparseCallsSpec).at F).post enc prog Tryz.f5 false true false false):=by
 refine returnsInHanded_of_row (C:=checked) (s:=OpenSpec.ofChange Rows.sparseCallsSpec) own started (by kernel_rfl) Jr
  (ChangeSpec.witness_shaped (enc:=enc) (C:=checked) (os:=os) (s:=Rows.sparseCallsSpec) (conds:=Rows.sparseCallsRow.domain) (fn:=Tryz.f5) (X:=fun w _=>laidMetH prog Rows.sparseCallsRow.laid w) false (World.laidAll prog os Rows.sparseCallsRow.laid) #[.slice none 0 0,.int .i64 0,.string ByteArray.empty,.string ByteArray.empty,.slice none 0 0,.int .i64 0,.int .i64 0,.int .i64 0,.bool false] 8 (World.laidAll_os _ _ _)
   (World.shaped_of_ZipB (by kernel_rfl) (by kernel_rfl)) (by kernel_rfl) (by kernel_rfl) (by kernel_rfl)
   (by rw[Ja _ _ _ (by kernel_rfl)];exact laidMet_laidAll _ (by kernel_rfl) (by kernel_rfl))) ?_
 intro W base args ds gs before hval0 hW _ _ _ hL hsh _;have hval:∀ (j:Nat) t v,Tryz.f5.params[j]?=some t->args[j]?=some v->Value.okWide prog W .any base t v:=hval0;have hW':=hW;obtain⟨p,q,hA0,hV,rfl,hfz,hnd⟩:=hW;have hA:DataW.TrodAll enc prog W 0 (fun _=>true) true Tryz.f5.params.toList args.toList ds p:=hA0;rw[params5]at hA hval;obtain⟨v0,vs0,d0,ds0,p0,q0,hargs,rfl,rfl,h0,r0⟩:=Hj hA;obtain⟨v1,vs1,d1,ds1,p1,q1,rfl,rfl,rfl,h1,r1⟩:=Hj r0;obtain⟨v2,vs2,d2,ds2,p2,q2,rfl,rfl,rfl,h2,r2⟩:=Hj r1;obtain⟨v3,vs3,d3,ds3,p3,q3,rfl,rfl,rfl,h3,r3⟩:=Hj r2;obtain⟨v4,vs4,d4,ds4,p4,q4,rfl,rfl,rfl,h4,r4⟩:=Hj r3;obtain⟨v5,vs5,d5,ds5,p5,q5,rfl,rfl,rfl,h5,r5⟩:=Hj r4;obtain⟨v6,vs6,d6,ds6,p6,q6,rfl,rfl,rfl,h6,r6⟩:=Hj r5;obtain⟨v7,vs7,d7,ds7,p7,q7,rfl,rfl,rfl,h7,r7⟩:=Hj r6;obtain⟨v8,vs8,d8,ds8,p8,q8,rfl,rfl,rfl,h8,r8⟩:=Hj r7;obtain⟨rfl,rfl,rfl⟩:=trodAll_nil r8;obtain rfl:args = #[v0,v1,v2,v3,v4,v5,v6,v7,v8]:=by cases args;simp_all
 obtain⟨rfl,rfl⟩:=trodVars_none hV;obtain⟨l0,R0,Z0⟩:=r0I Le H9 (by kernel_rfl) (hval 0 22 v0 rfl rfl) h0;obtain⟨a1,rfl,rfl,rfl,w1⟩:=open_int H9 (hval 1 3 v1 rfl rfl) h1;obtain⟨a2,rfl,rfl,rfl,w2⟩:=open_string Fo (hval 2 23 v2 rfl rfl) h2;obtain⟨a3,rfl,rfl,rfl,w3⟩:=open_string Fo (hval 3 23 v3 rfl rfl) h3;obtain⟨l4,R4,Z4⟩:=r0H underlying24 underlying26 (by kernel_rfl) (hval 4 24 v4 rfl rfl) h4;obtain⟨a5,rfl,rfl,rfl,w5⟩:=open_int H9 (hval 5 3 v5 rfl rfl) h5;obtain⟨a6,rfl,rfl,rfl,w6⟩:=open_int H9 (hval 6 3 v6 rfl rfl) h6;obtain⟨a7,rfl,rfl,rfl,w7⟩:=open_int H9 (hval 7 3 v7 rfl rfl) h7;obtain⟨a8,rfl,rfl,rfl⟩:=open_bool Bf (hval 8 4 v8 rfl rfl) h8;clear hA0 hval0;refine (i0U W v0 v4 l0 a1 a2 a3 l4 a5 a6 a7 a8 R0 R4 (by obtain⟨_,c,_,h1,h2,_⟩:=R0;rw[zs_length]at h1;omega) w2 w3 Z4 (y0x hL hsh)).mono fun e W' ⟨he,bel⟩=>?_
 subst he;exact⟨_,rfl,_,_,_,[],_,[],hW',trodAll_mk1 (shut_bool Bf _),(Fx (Js d0o (by kernel_rfl) (Am (by kernel_rfl)) h0 bel (by obtain⟨m,a⟩:=h0;exact Hd m _ _ _ a)) (Fx (Js d0o (by kernel_rfl) (Am (by kernel_rfl)) h1 bel (by obtain⟨m,a⟩:=h1;exact Hd m _ _ _ a)) (Fx (Js d0o (by kernel_rfl) (Am (by kernel_rfl)) h2 bel (by obtain⟨m,a⟩:=h2;exact Hd m _ _ _ a)) (Fx (Js d0o (by kernel_rfl) (Am (by kernel_rfl)) h3 bel (by obtain⟨m,a⟩:=h3;exact Hd m _ _ _ a)) (Fx (Js d0o (by kernel_rfl) (Am (by kernel_rfl)) h4 bel (by obtain⟨m,a⟩:=h4;exact Hd m _ _ _ a)) (Fx (Js d0o (by kernel_rfl) (Am (by kernel_rfl)) h5 bel (by obtain⟨m,a⟩:=h5;exact Hd m _ _ _ a)) (Fx (Js d0o (by kernel_rfl) (Am (by kernel_rfl)) h6 bel (by obtain⟨m,a⟩:=h6;exact Hd m _ _ _ a)) (Fx (Js d0o (by kernel_rfl) (Am (by kernel_rfl)) h7 bel (by obtain⟨m,a⟩:=h7;exact Hd m _ _ _ a)) (Fx (Js d0o (by kernel_rfl) (Am (by kernel_rfl)) h8 bel (by obtain⟨m,a⟩:=h8;exact Hd m _ _ _ a)) trodAll_mk0))))))))),rfl,bel.frame _,fun h=>by cases h⟩
def e0X:joinedFacts Tryz.pinned.checked.prog 5 Tryz.f5 (OpenSpec.ofChange Rows.sparseCallsSpec).bare Rows.sparseCallsRow=true:=by
 unfold joinedFacts;simp only[Aa]
 repeat' apply And.intro
 all_goals (as_aux_lemma=>kernel_rfl)
def f0J:Rows.sparseCallsRow.holds Tryz.pinned (OpenSpec.ofChange Rows.sparseCallsSpec):=
 OpenClaim.holds_of_cond 5 Tryz.f5 rfl rfl rfl rfl rfl rfl rfl ⟨rfl,rfl,rfl,rfl,rfl⟩ rfl rfl rfl rfl rfl (by as_aux_lemma=>kernel_rfl) Jr e0X
  (Am (by as_aux_lemma=>kernel_rfl)) (by unfold Func.isWrapper;first | (rw[J3 (by decide +kernel)];kernel_rfl) | (rw[J2 (by decide +kernel)];exact⟨rfl,rfl⟩))
  (fun os started H enc _ F0=>by rw[OpenClaim.pre_eq_preRow];exact e0W os started H enc F0)
theorem sparseCalls_card:Rows.SparseCallsCardSaid:=
 Claim7.holds_tied_plain_at .later [] [.data,.data,.data,.data,.sentinel,.sentinel,.pinned] true Rows.sparseCallsCard.stood.harness true
  f0J (fun _ h=>by cases h) (by as_aux_lemma=>kernel_rfl) (fun _ h=>by cases h) sparseCalls_row_tie rfl ⟨rfl,rfl⟩ (by as_aux_lemma=>kernel_rfl) rfl
  (fun f fn hf hfn=>by
   obtain rfl : f = 5 := Option.some.inj ((show prog.funcNamed "privhouse/privhouselaw24.SparseCalls" = some 5 by as_aux_lemma => kernel_rfl).symm.trans hf) |>.symm
   obtain rfl:fn=Tryz.f5:=(Ag (Jr.symm.trans hfn)).symm
   exact⟨by as_aux_lemma=>kernel_rfl,fun j t ht=>by
    rw[params5]at ht;have hm:t ∈ [22,3,23,23,24,3,3,3,4]:=by simpa using Array.mem_of_getElem? ht
    have hall:([22,3,23,23,24,3,3,3,4].all fun u => !prog.wantsStandIn u)=true:=by as_aux_lemma=>kernel_rfl
    exact (show prog.wantsStandIn t=false by simpa using List.all_eq_true.1 hall t hm)⟩)
  (by as_aux_lemma=>kernel_rfl)
#print axioms sparseCalls_card
end Go.Proofs.YtfkpfpobmobnbaaGreatDoor
