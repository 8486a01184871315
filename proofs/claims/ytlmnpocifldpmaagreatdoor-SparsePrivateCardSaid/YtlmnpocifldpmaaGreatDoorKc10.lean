/- Texts that the proof rests on, merged: Gd1, Gd2, Sw1, Fn0, Df0, Rq0, Fd14, KoA, Tz, Pq0, Sw3, Sa1, Sa3, Fd9, Fd10, Rt8, Sa5, Sb5, R2r, R2b. -/
import Derived.Test.YtlmnpocifldpmaaGreatDoorKc9
import Derived.Maps.RangeWalk
import Derived.Maps.StringElems
import Derived.Maps.OwnSet
import Derived.Deep.DeepCutAuto
import Derived.WalkLawsBesides
import Derived.Lib.SliceRun
import Derived.Deep.AppendLies
import Derived.IntWalk
set_option linter.unusedVariables false
set_option linter.unusedSimpArgs false
set_option linter.unusedSectionVars false
set_option maxRecDepth 100000
set_option maxHeartbeats 8000000
namespace Go.Proofs.YtlmnpocifldpmaaGreatDoor
open Go.RowKit
open Go.Sort
open Go.Shelf
open Go.Maps
open Go.Lib (decDigits nDigits)
def prL (N D:Nat)(two:Bool)(n:Nat)(vs:List Int):List (ByteArray×ByteArray):=vs.map fun v=>(zB v,shB (gV N D two n v) (2 ^ n))
theorem r0k (N D:Nat)(two:Bool)(n:Nat)(vs:List Int)(v:Int):prL N D two n (vs ++ [v])=prL N D two n vs ++ [(zB v,shB (gV N D two n v) (2 ^ n))]:=by simp[prL]
theorem q0U {n:Nat}{vs:List Int}(hn:vs.Nodup)(hb:∀ v∈vs,-(n:Int)≤v∧v≤n):vs.length≤2*n+1:=by
 have h:=f0n (fun _=>1) n vs hn hb;have h2:a0i (fun j=>if ((j:Int)-n)∈vs then 1 else 0) (2*n+1)≤a0i (fun _=>1) (2*n+1):=d0R fun j _=>by split<;>omega
 have h3:∀ m,a0i (fun _=>1) m=m:=fun m=>by
  induction m with
  | zero=>rfl
  | succ m ih=>rw[a0i,ih]
 have h4:∀ l:List Int,(l.map fun _=>1).sum=l.length:=fun l=>by
  induction l with
  | nil=>rfl
  | cons a r ih=>rw[List.map_cons,List.sum_cons,ih,List.length_cons];omega
 rw[h3]at h2;rw[h4]at h;omega
theorem k0E {H:Type}(w:World)(a:ByteArray)(n N D:Nat)(two:Bool)(ha:a.size≤100000)(he:gPE a=0)(hn:n≤32)(hN:bN (cW a)=N)(hD:bN (qD a)=D)(hND:N<D)(hL:Lay w):
 Calls Tryz.prog 154 #[.string a,.int .i64 n,.bool two] w fun e w'=>(∃ v,e=.returned (.tuple #[v,.int .i64 0])∧MRow w' v (a0D (glP (gV N D two n) (2 ^ n) n (gL N D two n))))∧Below w.heap.size w w':=by
 have HA:=hid (g0f w a ha hL);rw[if_pos he,if_pos he,he]at HA;have HLAW:∀ V,Lay V→Hid (Calls Tryz.prog 218 #[.string a,.int .i64 n,.bool two] V fun e w'=>(∃ B nn Dm,e=.returned (.map (some B))∧V.heap.size≤B∧nn≤3000000∧w'.ownsMap Tryz.prog 3 (plainElem (H:=H) Tryz.prog 22) B nn Dm∧ReadsI Dm (gV N D two n))∧Below V.heap.size V w'):=fun V hV=>by
  cases two
  ·exact w0u V a n N D ha he hn hN hD hND hV
  ·exact w0t V a n N D ha he hn hN hD hND hV
 have HPW:=fun V hV=>hid (k0D V n (by omega) hV)
 have HSL:Hid (∀ vs left,Seen (gV N D two n) n left vs→(vs.map (gV N D two n)).sum≤2 ^ n):=fun vs left h=>h.sum_le hND
 have HSA:Hid (∀ vs left,Seen (gV N D two n) n left vs→(∀ v,left v=false)→2 ^ n-(vs.map (gV N D two n)).sum=gL N D two n):=fun vs left h hl=>h.sum_all hND hl
 have HSP:Hid (∀ vs left,Seen (gV N D two n) n left vs→(∀ v,left v=false)→∀ r,((prL N D two n vs++if r=0 then [] else [(a0H,shB r (2 ^ n))]).map b0p).Nodup∧a0D (prL N D two n vs++if r=0 then [] else [(a0H,shB r (2 ^ n))])=a0D (glP (gV N D two n) (2 ^ n) n r)):=fun vs left h hl r=>h.pairs hND hl
 have HVS:Hid (∀ vs left,Seen (gV N D two n) n left vs→vs.length≤100):=fun vs left h=>by
  have h1:=q0U h.nd fun v hv=>by
   have h1:=((h.mem v).1 hv).1;rcases Int.lt_or_le v (-(n:Int)) with h2 | h2
   ·exact absurd (c0w hND (.inl h2)) h1
   ·rcases Int.lt_or_le (n:Int) v with h3 | h3
    ·exact absurd (c0w hND (.inr h3)) h1
    ·exact⟨h2,h3⟩
  omega
 have HOUT:Hid (∀ v,gV N D two n v≠0 → -100≤v∧v≤100):=fun v h1=>by
  rcases Int.lt_or_le v (-(n:Int)) with h2 | h2
  ·exact absurd (c0w hND (.inl h2)) h1
  ·rcases Int.lt_or_le (n:Int) v with h3 | h3
   ·exact absurd (c0w hND (.inr h3)) h1
   ·omega
 have HGV:Hid (∀ v,gV N D two n v≤2 ^ n):=fun v=>r0P hND two n v
 have hpn:2 ^ n≤2 ^ 32:=Nat.pow_le_pow_right (by omega) hn;have dT:=a0g hpn (by omega);have hT0:2 ^ n≠0:=Nat.ne_of_gt (Nat.pow_pos (by omega));have HMK:∀ x,x≤2 ^ n→∀ V,Lay V→Hid (Calls Tryz.prog 210 #[.string (a0f x),.string (a0f (2 ^ n))] V fun e w'=>e=.returned (.tuple #[.string (shB x (2 ^ n)),.int .i64 (c0U (qmk false x (2 ^ n)))])∧Below V.heap.size V w'):=fun x hx V hV=>t0U V x (2 ^ n) (a0g (i:=32) (by omega) (by omega)) dT hT0 hV
 have HSB:∀ x y,y≤x→x≤2 ^ n→∀ V,Lay V→Hid (Calls Tryz.prog 209 #[.string (a0f x),.string (a0f y)] V fun e w'=>e=.returned (.tuple #[.string (a0f (x-y)),.int .i64 0])∧Below V.heap.size V w'):=fun x y hy hx V hV=>t0V V x y (a0g (i:=32) (by omega) (by omega)) (a0g (i:=32) (by omega) (by omega)) hy hV
 have HMK':=hid HMK;have HSB':=hid HSB;obtain⟨cg,hcg⟩:∃ c,gV N D two n=c:=⟨_,rfl⟩;obtain⟨gl,hgl⟩:∃ c,gL N D two n=c:=⟨_,rfl⟩;obtain⟨pr,hpr⟩:∃ c,prL N D two n=c:=⟨_,rfl⟩;have HPR:Hid (∀ vs v,pr (vs ++ [v])=pr vs ++ [(zB v,shB (cg v) (2 ^ n))]):=fun vs v=>by rw[← hpr,← hcg];exact r0k N D two n vs v
 have HPL:Hid (∀ vs,(pr vs).length=vs.length):=fun vs=>by rw[← hpr];unfold prL;rw[List.length_map]
 have HP0:Hid (pr [] = []):=by show pr [] = [];rw[← hpr];rfl
 rw[hcg]at HSL HSA HSP HVS HOUT HGV;rw[hpr]at HSP;rw[hgl]at HSA;simp only[hcg]at HLAW;rw[hcg,hgl];obtain⟨T,hT⟩:∃ T,2 ^ n=T:=⟨_,rfl⟩;obtain⟨sT,hsT⟩:∃ s,a0f T=s:=⟨_,rfl⟩;rw[hT]at HPW HSL HSA HSP HGV HMK' HSB' HPR hT0 ⊢;rw[hsT]at HPW;simp only[hsT]at HMK';have HST:=hid hsT;have HT0:=hid hT0;have HLy:=hid hL;have HN:=hid hn;have q0:decide ((n:Int)<0)=false:=by simp
 have q1:decide ((32:Int)<(n:Int))=false:=by simp;omega
 obtain⟨i0,hi,hz0,hz1,hz2⟩:=info_parts j0x;clear ha he hn hN hD hND hL hcg hgl hpr hT hsT hpn dT hT0 HMK HSB;go_enter Tryz.func154,Tryz.ntmps154;go_wp2_with fail;refine HA.out.mono ?_;rintro e w1 ⟨rfl,hb1⟩;have B1:=hid hb1;clear hb1 HA;go_wp2_with fail;refine (HPW _ (HLy.out.call B1.out)).out.mono ?_;rintro e w2 ⟨rfl,hb2⟩;have B2:=hid (a0a B1.out hb2);clear hb2;go_wp2_with fail;refine (HLAW _ (HLy.out.call B2.out)).out.mono ?_;rintro e w3 ⟨⟨B,nn,Dm,rfl,hBs,hnn,hown,hR⟩,hb3⟩;have B3:=hid (a0a B2.out hb3);have HR:=hid hR;have HBS:=hid hBs;clear hb3 hBs hnn hR HLAW;go_wp2_with (first | (at_range;refine wpList_range_own _ rfl _ 226 rfl 3 22 (int_keyed Tryz.underlying3) Tryz.underlying226 _ B nn Dm rfl hown ?_;intro w4 hrg0 hg0 hs0) | go_in)
 go_frame
 have B4:Hid (Below w.heap.size w w4):=B3.out.trans ⟨hg0.os,hg0.tape,hg0.output,hg0.size,fun k hk=>hg0.block k (by have:=B3.out.size;omega) (by simp)⟩;obtain⟨r,hr⟩:∃ r,w3.heap.size=r:=⟨_,rfl⟩;rw[hr]at hrg0 ⊢;have Hr:Hid (w.heap.size≤r∧r<w4.heap.size∧B<w4.heap.size):=⟨by rw[← hr];exact B3.out.size,hrg0.lt,hrg0.owns.lt⟩;have S0:Hid (Seen cg n (fun v=>Maps.has Dm (.int .i64 v)) []):=Seen.start fun v hv=>by rw[HR.out.has];simpa using hv
 have RG:=hid hrg0;have HB0:Hid (w.heap.size≤B):=Nat.le_trans B2.out.size HBS.out;clear hrg0 hg0 hs0 hown hr HBS
 go_loopw [11,12] (fun s11 s12 wr=>∃ (left:Lit→Bool) (cnt:Nat) (vs:List Int),Hid (wr.ranges Tryz.prog 3 (plainElem Tryz.prog 22) B r nn Dm left cnt)∧Hid (Seen cg n (fun v=>left (.int .i64 v)) vs)∧s12=.string (a0f (T-(vs.map cg).sum))∧Hid (wr.ownsRow w4.heap.size 39 2 s11 vs.length (b0B (pr vs)))∧Hid (w4.heap.size≤wr.heap.size)∧Hid (Below w.heap.size w wr)) (fun s11 s12 wr=>wr.rangeLeft B r)
 case atStart=>exact⟨_,_,[],RG,S0,by simp[HST.out],hid (by rw[HP0.out];exact⟨rfl,.inl ⟨rfl,rfl⟩⟩),hid (Nat.le_refl _),B4⟩
 case round=>
  clear RG S0 B4;obtain⟨left,cnt,vs,hrg,hS,rfl,hO,hW,hBl⟩:=hrel;obtain⟨ar,cr,rfl⟩:=a0p hO.out;go_wp2_with (first
   | (at_next;refine wpList_next_ranges_is _ rfl _ rfl 3 22 .i64 (int_keyed Tryz.underlying3) Tryz.underlying3 Tryz.underlying22 B r nn _ _ _ rfl hrg.out ?_ ?_)
   | go_in)
  ·intro _ hl0;have hl1:∀ v,(fun v=>left (.int .i64 v)) v=false:=fun v=>hl0 _
   have hrest:=HSA.out vs _ hS.out hl1;obtain⟨hnd,hsort⟩:=HSP.out vs _ hS.out hl1 gl;have hvl:=HVS.out vs _ hS.out;have hgT:gl≤T:=by omega
   rw[hrest];have HND:=hid hnd;have HSO:=hid hsort;have HVL:=hid hvl;have P1:=fun V hV=>HMK'.out gl hgT V hV
   obtain⟨L,hL⟩:∃ L,pr vs=L:=⟨_,rfl⟩;have hLl:=HPL.out vs;rw[hL]at hO HND HSO hLl;rw[← hLl]at hO hvl ⊢;have HGT:=hid hgT;have hpos:0<(L++if gl=0 then [] else [(a0H,shB gl T)]).length:=by
    rw[List.length_append]
    split
    ·rename_i h0
     have:vs ≠ []:=fun e=>by subst e;simp at hrest;have:=HT0.out;omega
     have:=List.length_pos_iff.2 this;simp;omega
    ·simp
   have HPOS:=hid hpos;clear hl0 hl1 hrest hnd hsort hS hrg hgT hL hLl hpos HVL;obtain⟨sg,hsg⟩:∃ s,a0f gl=s:=⟨_,rfl⟩;rw[hsg]at P1 ⊢;have HSG:=hid hsg;clear hsg;obtain⟨tb0,htb⟩:∃ b,(sg.toList == [48])=b:=⟨_,rfl⟩
   go_upto_if 67 with fail
   have HTB:=hid htb;clear htb
   go_cut [11] (fun s11 wx=>∃ k,k=(L++if gl=0 then [] else [(a0H,shB gl T)]).length∧wx.ownsRow w4.heap.size 39 2 s11 k (b0B (L++if gl=0 then [] else [(a0H,shB gl T)]))∧w4.heap.size≤wx.heap.size∧Below w.heap.size w wx)
   case first=>
    by_cases h0:gl=0
    ·have e1:L++(if gl=0 then [] else [(a0H,shB gl T)])=L:=by rw[if_pos h0,List.append_nil]
     have q3:(sg.toList == [48])=true:=by rw[← HSG.out,h0,a0w];exact d0y
     obtain rfl:true=tb0:=by rw[← HTB.out];exact q3.symm
     have HE1:=hid e1;clear h0 e1 q3;go_wp2_with fail
     go_meet
     exact⟨_,rfl,by rw[HE1.out];exact hO.out,hW.out,hBl.out⟩
    ·have e1:L++(if gl=0 then [] else [(a0H,shB gl T)])=L ++ [(a0H,shB gl T)]:=by rw[if_neg h0]
     have q3:(sg.toList == [48])=false:=by rw[← HSG.out];exact a0J (l:=[48]) (by rw[← a0w];exact b0Q h0)
     obtain rfl:false=tb0:=by rw[← HTB.out];exact q3.symm
     have HE1:=hid e1;obtain⟨sh,hsh⟩:∃ s,shB gl T=s:=⟨_,rfl⟩;rw[hsh]at P1;have HSH:=hid hsh;clear hsh h0 e1 q3;go_wp2_with fail;refine (HPW _ (HLy.out.call hBl.out)).out.mono ?_;rintro e w5 ⟨rfl,hb5⟩;have B5:=hid (a0a hBl.out hb5);have O5:=hid (a0s hO.out hb5);have W5:=hid (Nat.le_trans hW.out hb5.size);clear hb5;go_wp2_with fail;refine (P1 _ (HLy.out.call B5.out)).out.mono ?_;rintro e w6 ⟨rfl,hb6⟩;have B6:=hid (a0a B5.out hb6);have O6:=hid (a0s O5.out hb6);have W6:=hid (Nat.le_trans W5.out hb6.size);clear hb6;have hw6:=W6.out;obtain⟨hr0,hr1,hr2⟩:=Hr.out;go_wp2_with (at_builtin;refine wpList_append_own _ rfl _ _ 26 rfl w4.heap.size 39 i0 (.agg #[.string ⟨#[]⟩,.string ⟨#[]⟩]) 2 32 Tryz.underlying26 hi hz0 hz1 hz2 rfl (by decide) _ L.length _ rfl (O6.out.alloc _) ⟨w6.heap.size,0,none⟩ 1 1 [.string ⟨#[108,97,116,101]⟩,.string sh] rfl rfl (cell_two_new w6 (.string ⟨#[108,97,116,101]⟩) (.string sh) 39) (by simp[Value.oneCell']) (by unfold maxLen;omega) (by omega) (by simp;omega) ?_;intro v' w7 hown7 hgrow7 _)
     have O7:=hid hown7;have B7:Hid (Below w.heap.size w w7):=B6.out.trans ((Below.refl _ _).alloc (Nat.le_refl _) _ |>.mono (by have:=B6.out.size;omega) |>.trans ⟨hgrow7.os,hgrow7.tape,hgrow7.output,hgrow7.size,fun k hk=>hgrow7.block k (by have:=B6.out.size;simp;omega) (fun e=>by have:=(O6.out.lt k e.symm).1;omega)⟩);have W7:=hid (show w4.heap.size≤w7.heap.size by have:=hgrow7.size;simp at this;omega);clear hown7 hgrow7 hw6 hr0 hr1 hr2;go_wp2_with fail
     go_meet
     refine⟨_,rfl,?_,W7.out,B7.out⟩;rw[HE1.out,List.length_append,d0e,HSH.out];exact O7.out
   case rest=>
    obtain⟨k,rfl,hOx,hWx,hBx⟩:=hcut;have HB:=hid hBx;have HW:=hid hWx;obtain⟨d,hd⟩:∃ d,(L++if gl=0 then [] else [(a0H,shB gl T)])=d:=⟨_,rfl⟩;rw[hd]at hOx HND HSO HPOS;have hdl:d.length≤1000:=by rw[← hd,List.length_append];split<;>simp<;>omega
    rcases hOx.2 with ⟨_,h0⟩ | ⟨g,cap,cur,rfl,hgb,hg,h1,h2,h3,h4⟩
    ·have:=HPOS.out;omega
    ·have hSM:=o0h 219 g cap w4.heap.size d.toArray wc cur hgb hg (by simpa using h1) h2 h3 (by simpa[b0f]using h4) (by simpa using hdl) (by simpa using HND.out) (enters_of Tryz.func219 (by kernel_rfl) rfl) (fun x y W=>u0x x y W);simp only[List.size_toArray]at hSM;have HSM:=hid hSM;clear hd hdl hSM hOx hWx hBx h1 h2 h3 h4 hg;go_wp2_with fail;refine HSM.out.mono ?_;rintro e w8 ⟨rfl,ho8,hb8⟩;have B8:Hid (Below w.heap.size w w8):=HB.out.trans (hb8.mono (by have:=Hr.out.1;have:=Hr.out.2.1;omega));have M8:=hid (MRow.of_owns ho8);clear ho8 hb8;go_wp2_with fail;go_ret2
     refine⟨⟨_,rfl,?_⟩,B8.out⟩;rw[← HSO.out];exact M8.out
  ·intro x c w5 cnt1 hwx hwc hlx hat hrg1 hlt hg1 hs1 hen;have hxc:cg x≠0:=by
    have h1:=has_true_of_atKey hat;rw[HR.out.has]at h1;simpa using h1
   have hcx:c=a0f (cg x):=by
    have h1:=(HR.out.look x hxc (.lit (.string []))).symm.trans (hat (.lit (.string [])));simp only[DataW.lit.injEq,Lit.string.injEq]at h1;exact (a0Y h1).symm
   subst hcx;have hS1:=Seen.step (left':=fun v=>(fun z=>left z && !z.sameKey (.int .i64 x)) (.int .i64 v)) hS.out (x:=x) hlx hxc (fun v=>by simp only[k0m]);have hsum:=HSL.out _ _ hS1;have hsum1:((vs ++ [x]).map cg).sum=(vs.map cg).sum+cg x:=by simp
   rw[hsum1]at hsum;have hvl:=HVS.out _ _ hS1;rw[List.length_append,List.length_singleton]at hvl;have hxb:=HOUT.out x hxc;have P1:=fun V hV=>HMK'.out (cg x) (HGV.out x) V hV
   have P2:=fun V hV=>HSB'.out (T-(vs.map cg).sum) (cg x) (by omega) (by omega) V hV
   have PI:=fun V hV=>hid (t0G V x (by omega) (by omega) hV)
   have HNX:Hid (T-(vs.map cg).sum-cg x=T-((vs ++ [x]).map cg).sum):=by show _=_;rw[hsum1];omega
   have hb5:Below w.heap.size w w5:=hBl.out.trans ⟨hg1.os,hg1.tape,hg1.output,hg1.size,fun k hk=>hg1.block k (by have:=hBl.out.size;omega) (fun e=>by have:=Hr.out.1;injection e with e;omega)⟩;have hO5:w5.ownsRow w4.heap.size 39 2 (.slice ar vs.length cr) vs.length (b0B (pr vs)):=hO.out.kept hg1 (.inr fun e=>by have:=(hO.out.lt r e).1;have:=Hr.out.2.1;omega);have B5:=hid hb5;have O5:=hid hO5;have RG1:=hid hrg1;have HS1:=hid hS1;have HLT:=hid hlt;have W5:=hid (show w4.heap.size≤w5.heap.size by have:=hW.out;omega);have HRG:=hid hrg.out;rw[HNX.out]at P2;obtain⟨s1,hs1'⟩:∃ s,a0f (T-(vs.map cg).sum)=s:=⟨_,rfl⟩;obtain⟨s2,hs2⟩:∃ s,a0f (cg x)=s:=⟨_,rfl⟩;obtain⟨s3,hs3⟩:∃ s,a0f (T-((vs ++ [x]).map cg).sum)=s:=⟨_,rfl⟩;obtain⟨s4,hs4⟩:∃ s,shB (cg x) T=s:=⟨_,rfl⟩;obtain⟨s5,hs5⟩:∃ s,zB x=s:=⟨_,rfl⟩;rw[hs1',hs2,hs3]at P2;rw[hs2,hs4]at P1;rw[hs5]at PI;rw[hs2]at hen hwc;rw[hs1',hs2];have HS3:=hid hs3;have HS4:=hid hs4;have HS5:=hid hs5;have HVL:=hid hvl;clear hlx hat hrg1 hlt hg1 hs1 hxc hS1 hsum hsum1 hvl hxb hb5 hO5 hs1' hs2 hs3 hs4 hs5 hrg hS hO hW hBl;go_wp2_with fail;refine (HPW _ (HLy.out.call B5.out)).out.mono ?_;rintro e w6 ⟨rfl,hb6⟩;have B6:=hid (a0a B5.out hb6);have O6:=hid (a0s O5.out hb6);have R6:=hid (RG1.out.kept (row:=none) ⟨hb6.os,hb6.tape,hb6.output,hb6.size,fun k hk _=>hb6.block k hk⟩ (by simp) (by simp));have W6:=hid (Nat.le_trans W5.out hb6.size);clear hb6 hen;go_wp2_with fail;refine (P1 _ (HLy.out.call B6.out)).out.mono ?_;rintro e w7 ⟨rfl,hb7⟩;have B7:=hid (a0a B6.out hb7);have O7:=hid (a0s O6.out hb7);have R7:=hid (R6.out.kept (row:=none) ⟨hb7.os,hb7.tape,hb7.output,hb7.size,fun k hk _=>hb7.block k hk⟩ (by simp) (by simp));have W7:=hid (Nat.le_trans W6.out hb7.size);clear hb7;go_wp2_with fail;refine (PI _ (HLy.out.call B7.out)).out.mono ?_;rintro e w8 ⟨rfl,hb8⟩;have B8:=hid (a0a B7.out hb8);have O8:=hid (a0s O7.out hb8);have R8:=hid (R7.out.kept (row:=none) ⟨hb8.os,hb8.tape,hb8.output,hb8.size,fun k hk _=>hb8.block k hk⟩ (by simp) (by simp));have W8:=hid (Nat.le_trans W7.out hb8.size);clear hb8;have hw8:=W8.out;obtain⟨hr0,hr1,hr2⟩:=Hr.out;have hvl:=HVL.out;go_wp2_with (at_builtin;refine wpList_append_own _ rfl _ _ 26 rfl w4.heap.size 39 i0 (.agg #[.string ⟨#[]⟩,.string ⟨#[]⟩]) 2 32 Tryz.underlying26 hi hz0 hz1 hz2 rfl (by decide) _ vs.length _ rfl (O8.out.alloc _) ⟨w8.heap.size,0,none⟩ 1 1 [.string s5,.string s4] rfl rfl (cell_two_new w8 (.string s5) (.string s4) 39) (by simp[Value.oneCell']) (by unfold maxLen;omega) (by omega) (by simp;omega) ?_;intro v' w9 hown9 hgrow9 _)
   have O9:=hid hown9;have B9:Hid (Below w.heap.size w w9):=B8.out.trans ((Below.refl _ _).alloc (Nat.le_refl _) _ |>.mono (by have:=B8.out.size;omega) |>.trans ⟨hgrow9.os,hgrow9.tape,hgrow9.output,hgrow9.size,fun k hk=>hgrow9.block k (by have:=B8.out.size;simp;omega) (fun e=>by have:=(O8.out.lt k e.symm).1;omega)⟩);have R9:=hid ((R8.out.alloc (.cells #[.string s5,.string s4] 39)).kept hgrow9 (fun e=>by have:=(O8.out.lt B e.symm).1;omega) (fun e=>by have:=(O8.out.lt r e.symm).1;omega));have W9:=hid (show w4.heap.size≤w9.heap.size by have:=hgrow9.size;simp at this;omega);clear hown9 hgrow9 hw8 hr0 hr1 hr2 hvl;go_wp2_with fail;refine (P2 _ (HLy.out.call B9.out)).out.mono ?_;rintro e w10 ⟨rfl,hb10⟩;have B10:=hid (a0a B9.out hb10);have O10:=hid (a0s O9.out hb10);have R10:=hid (R9.out.kept (row:=none) ⟨hb10.os,hb10.tape,hb10.output,hb10.size,fun k hk _=>hb10.block k hk⟩ (by simp) (by simp));have W10:=hid (Nat.le_trans W9.out hb10.size);clear hb10;go_wp2_with fail;go_roundw
   case rel=>
    refine⟨_,cnt1,vs ++ [x],R10,HS1,by rw[HS3.out],hid ?_,W10,B10⟩;rw[List.length_append,List.length_singleton,HPR.out,d0e,HS4.out,HS5.out];exact O10.out
   case measure=>rw[R10.out.left_eq,HRG.out.left_eq];exact HLT.out
end Go.Proofs.YtlmnpocifldpmaaGreatDoor
namespace Go.Proofs.YtlmnpocifldpmaaGreatDoor
open Go.RowKit
open Go.Lib (decDigits nDigits)
def glR (a:ByteArray)(n:Int)(two:Bool):List (ByteArray×ByteArray):=if glE a n 32=0 then a0D (glP (gV (bN (cW a)) (bN (qD a)) two n.toNat) (2 ^ n.toNat) n.toNat (gL (bN (cW a)) (bN (qD a)) two n.toNat)) else []
theorem r0N (w:World)(a:ByteArray)(n:Int)(two:Bool)(ha:a.size≤100000)(hL:Lay w):
 Calls Tryz.prog 154 #[.string a,.int .i64 n,.bool two] w fun e w'=>(∃ v,e=.returned (.tuple #[v,.int .i64 (glE a n 32)])∧MRow w' v (glR a n two))∧Below w.heap.size w w':=by
 by_cases he:gPE a=0
 ·by_cases hn:n<0∨32<n
  ·have e1:glE a n 32=2:=by unfold glE;rw[if_neg (by rw[he];simp),if_pos hn]
   have e2:glR a n two = []:=by unfold glR;rw[if_neg (by rw[e1];decide)]
   rw[e1,e2];have HA:=hid (g0f w a ha hL);rw[if_pos he,if_pos he,he]at HA;obtain⟨b1,k1⟩:∃ b,decide (n<0)=b:=⟨_,rfl⟩;obtain⟨b2,k2⟩:∃ b,decide (32<n)=b:=⟨_,rfl⟩;have k3:(b1 || b2)=true:=by rw[← k1,← k2];simpa using hn
   clear ha hL he hn e1 e2;cases b1
   ·obtain rfl:b2=true:=by simpa using k3
    clear k3;go_enter Tryz.func154,Tryz.ntmps154;go_wp2_with fail;refine HA.out.mono ?_;rintro e w1 ⟨rfl,hb1⟩;have B1:=hid hb1;clear hb1 HA;go_wp2_with fail;go_ret2
    exact⟨⟨_,rfl,MRow.nil _⟩,B1.out⟩
   ·clear k2 k3;go_enter Tryz.func154,Tryz.ntmps154;go_wp2_with fail;refine HA.out.mono ?_;rintro e w1 ⟨rfl,hb1⟩;have B1:=hid hb1;clear hb1 HA;go_wp2_with fail;go_ret2
    exact⟨⟨_,rfl,MRow.nil _⟩,B1.out⟩
  ·obtain⟨m,rfl⟩:∃ m:Nat,n=(m:Nat):=⟨n.toNat,by omega⟩;have e1:glE a (m:Nat) 32=0:=by unfold glE;rw[if_neg (by rw[he];simp),if_neg hn]
   have hND:=(b0S he).2;have:=k0E (H:=Unit) w a m _ _ two ha he (by omega) rfl rfl hND hL;unfold glR;rw[if_pos e1,e1,Int.toNat_natCast];exact this
 ·have e1:glE a n 32=gPE a:=by unfold glE;rw[if_pos he]
  have e2:glR a n two = []:=by unfold glR;rw[if_neg (by rw[e1];exact he)]
  rw[e1,e2];have HA:=hid (g0f w a ha hL);rw[if_neg he,if_neg he]at HA;obtain⟨x,hx⟩:∃ x,gPE a=x:=⟨_,rfl⟩;rw[hx]at HA he ⊢;have x0:(x != 0)=true:=by simpa using he
  clear ha hL he hx e1 e2;go_enter Tryz.func154,Tryz.ntmps154;go_wp2_with fail;refine HA.out.mono ?_;rintro e w1 ⟨rfl,hb1⟩;have B1:=hid hb1;clear hb1 HA;go_wp2_with fail;go_ret2
  exact⟨⟨_,rfl,MRow.nil _⟩,B1.out⟩
theorem r0O (w:World)(a:ByteArray)(n:Int)(ha:a.size≤100000)(hL:Lay w):
 Calls Tryz.prog 93 #[.string a,.int .i64 n] w fun e w'=>(∃ v,e=.returned (.tuple #[v,.int .i64 (glE a n 32)])∧MRow w' v (glR a n true))∧Below w.heap.size w w':=by
 have H:=hid (r0N w a n true ha hL);obtain⟨o,ho⟩:∃ o,glR a n true=o:=⟨_,rfl⟩;obtain⟨x,hx⟩:∃ x,glE a n 32=x:=⟨_,rfl⟩;rw[ho,hx]at H ⊢;clear ha hL ho hx;go_enter Tryz.func93,Tryz.ntmps93;go_wp2_with fail;refine H.out.mono ?_;rintro e w1 ⟨⟨v,rfl,hv⟩,hb1⟩;have B1:=hid hb1;have V1:=hid hv;clear hb1 hv;go_wp2_with fail;go_ret2
 exact⟨⟨_,rfl,V1.out⟩,B1.out⟩
def slE (c:List Int)(thr:Int)(a r:ByteArray)(n:Int):Int:=if i0w c thr a r≠0 then i0w c thr a r else if n<0∨32<n then 2 else if 256<n*((c.length:Int)+1) then 5 else 0
def slR (c:List Int)(thr:Int)(a r:ByteArray)(n:Int):List (ByteArray×ByteArray):=if slE c thr a r n=0 then a0D (sqD (gV (bN (cW a)) (bN (qD a)) true n.toNat) (gV (bN (cW r)) (bN (qD r)) true n.toNat) n.toNat thr c) else []
def s0C (a r:ByteArray)(reach:Int):Int:=if g0V a≠0 then g0V a else if g0V r≠0 then g0V r else if reach<0∨10000<reach then 2 else 0
def v0h (a r:ByteArray)(reach:Int)(one:Bool):Int:=if o0x reach.toNat a≠0 then o0x reach.toNat a else o0x (ffM reach one) r
def v0D (a r:ByteArray)(reach:Int)(one:Bool):Int:=if s0C a r reach≠0 then s0C a r reach else if v0h a r reach one≠0 then v0h a r reach one else d0b (· * ·) (i0x reach.toNat a) (i0x (ffM reach one) r)
def o0e (a r:ByteArray)(reach:Int)(one:Bool):ByteArray:=if s0C a r reach≠0 then ⟨#[]⟩ else if v0h a r reach one≠0 then ⟨#[]⟩ else b0b (· * ·) (i0x reach.toNat a) (i0x (ffM reach one) r)
theorem l0U {x m:Nat}(hx:x≤2 ^ m)(h:m≤1000):(dyB x m).size≤10000:=by unfold dyB shB;exact c0Y _
end Go.Proofs.YtlmnpocifldpmaaGreatDoor
namespace Go.Proofs.YtlmnpocifldpmaaGreatDoor
open Go.RowKit
open Go.Shelf
theorem h0K {W:World}{base:Nat}{e:TypeId}{k g n cap:Nat}{xs:List Value}(h:W.ownsRow base e k (.slice (some ⟨g,0,none⟩) n cap) n xs)(i:Nat)(x:Value):(W.setCell ⟨g,i,none⟩ x).ownsRow base e k (.slice (some ⟨g,0,none⟩) n cap) n (xs.set i x):=by
 rcases h.2 with ⟨e1,_⟩ | ⟨g',cap',cur,e1,hb,hg,h1,h2,h3,h4⟩
 ·simp at e1
 ·simp at e1;obtain⟨rfl,rfl⟩:=e1;refine⟨by rw[List.length_set];exact h.1,.inr ⟨g,cap,cur.setIfInBounds i x,rfl,hb,Blk.set hg i x,h1,h2,by simpa using h3,?_⟩⟩;rw[Array.toList_setIfInBounds,List.take_set,h4]
theorem e0z {W:World}{base:Nat}{e:TypeId}{k g n cap:Nat}{xs:List Value}(h:W.ownsRow base e k (.slice (some ⟨g,0,none⟩) n cap) n xs):base≤g∧g<W.heap.size∧(∀ i,W.frozen? ⟨g,i,none⟩=false)∧(∀ (i:Nat) (x:Value),xs[i]?=some x→W.cell? ⟨g,i,none⟩=some x)∧cap≤9223372036854775807∧n≤cap:=by
 have hh:=h;rcases h.2 with ⟨e1,_⟩ | ⟨g',cap',cur,e1,hb,hg,h1,h2,h3,h4⟩
 ·simp at e1
 ·simp at e1;obtain⟨rfl,rfl⟩:=e1;refine⟨hb,(Array.getElem?_eq_some_iff.1 hg).1,fun i=>Blk.free hg i,fun i x hx=>?_,by unfold maxLen at h2;omega,h1⟩;have:=hh.cells rfl i x hx;rw[Addr.add_lit,Nat.zero_add]at this;exact this
theorem r0o {W:World}{base:Nat}{e:TypeId}{k g n m cap:Nat}{xs:List Value}(h:W.ownsRow base e k (.slice (some ⟨g,0,none⟩) n cap) n xs)(hm:m≤n):W.ownsRow base e k (.slice (some ⟨g,0,none⟩) m cap) m (xs.take (m*k)):=by
 have hl:=h.1;rcases h.2 with ⟨e1,_⟩ | ⟨g',cap',cur,e1,hb,hg,h1,h2,h3,h4⟩
 ·simp at e1
 ·simp at e1;obtain⟨rfl,rfl⟩:=e1;have hk:m*k≤n*k:=Nat.mul_le_mul_right k hm;refine⟨by rw[List.length_take,hl];omega,.inr ⟨g,cap,cur,rfl,hb,hg,by omega,h2,h3,?_⟩⟩;rw[← h4,List.take_take,Nat.min_eq_left hk]
theorem f0b {base:Nat}{e:TypeId}{k g n cap:Nat}:∀ (vs:List Value) (o:Nat) {W:World} {xs:List Value},W.ownsRow base e k (.slice (some ⟨g,0,none⟩) n cap) n xs→∃ ys,(W.setCells g o vs).ownsRow base e k (.slice (some ⟨g,0,none⟩) n cap) n ys∧ys.take o=xs.take o
 | [],o,W,xs,h=>⟨xs,h,rfl⟩
 | v::r,o,W,xs,h=>by
  obtain⟨ys,h1,h2⟩:=f0b r (o+1) (h0K h o v);refine⟨ys,h1,?_⟩;have h3:=congrArg (List.take o) h2;rw[List.take_take,List.take_take,Nat.min_eq_left (by omega)]at h3;rw[h3,List.take_set,List.set_eq_of_length_le (by rw[List.length_take];omega)]
theorem d0P {base g:Nat}(hb:base≤g):∀ (vs:List Value) (o:Nat) {w W:World},Below base w W→Below base w (W.setCells g o vs)
 | [],_,_,_,h=>h
 | v::r,o,w,W,h=>d0P hb r (o+1) (h.setCell hb v)
theorem m0w (w:World)(t e ty:TypeId)(z:Value)(x y:Value)(ht:Tryz.prog.underlying t=some (.slice e))(hv:∀ w,(zeroValue e).run Tryz.prog w=.ok z w)(hz:z.cells = #[x,y])(h1:x.oneCell'=true)(h2:y.oneCell'=true)(b o n c:Nat)(hn:0<n)
 (hc:∀ j,j<n*2→(w.cell? ⟨b,o+j,none⟩).isSome=true) (hf:∀ j,j<n*2→w.frozen? ⟨b,o+j,none⟩=false):
 ∃ vs,(Builtin.clear_ #[t] ty #[.slice (some ⟨b,o,none⟩) n c]).run Tryz.prog w=.ok (.tuple #[]) (w.setCells b o vs):=by
 obtain⟨vs,hvs⟩:∃ vs,(Builtin.zeroCells z.cells n).toList=vs:=⟨_,rfl⟩;have hlen:vs.length=n*2:=by rw[← hvs,hz];simp[Builtin.zeroCells]
 have hone:∀ v∈vs,v.oneCell'=true:=by
  intro v hv';rw[← hvs,hz]at hv';simp[Builtin.zeroCells]at hv';obtain⟨i,hi,rfl⟩:=hv';rcases Nat.mod_two_eq_zero_or_one i with h | h<;>simp[h,h1,h2]
 have hst:=run_storeCells_cells (P:=Tryz.prog) b o vs 0 w (by rw[hlen];simpa using hc) (by rw[hlen];simpa using hf) hone;simp only[Nat.add_zero]at hst;refine⟨vs,?_⟩;obtain⟨m,rfl⟩:∃ m,n=m+1:=⟨n-1,by omega⟩;simp[Builtin.clear_,run_underlying ht,hv,hvs,hst]
theorem n0p (w:World):(zeroValue 39).run Tryz.prog w=.ok (.agg #[.string ⟨#[]⟩,.string ⟨#[]⟩]) w:=by kernel_rfl
def ixM (p:ByteArray×ByteArray→Bool)(l:List (ByteArray×ByteArray)):Int:=if l.any p=true then (l.findIdx p:Nat) else -1
theorem i0X (w:World)(v:Value)(l:List (ByteArray×ByteArray))(F:Nat)(p:ByteArray×ByteArray→Bool)(hv:MRow w v l)(hen:∀ args w,(callFunc F args).run Tryz.prog w=.ok (.enter F args) w)
 (hF:∀ W (x:ByteArray×ByteArray),Calls Tryz.prog F #[.agg #[.string x.1,.string x.2]] W fun e w'=>e=.returned (.bool (p x))∧Below W.heap.size W w'):
 Calls Tryz.prog 99 #[v,.func (.func F) #[] #[]] w fun e w'=>e=.returned (.int .i64 (ixM p l))∧Below w.heap.size w w':=by
 obtain⟨a,c,rfl,q1,q2,q3⟩:=hv.ex;obtain⟨n,hn⟩:∃ n,l.length=n:=⟨_,rfl⟩;rw[hn]at q1 ⊢;have HN:=hid hn;have Q3:=hid q3;have HF:=hid hF;clear hv q3 hn hF;go_enter Tryz.func99,Tryz.ntmps99;go_wp2_with fail
 go_loopw [8] (fun ii wr=>∃ i:Nat,ii=.int .i64 i∧i≤n∧Hid (∀ j x,j<i→l[j]?=some x→p x=false)∧Hid (Below w.heap.size w wr)) (fun ii wr=>n-(intOf ii).toNat)
 case atStart=>exact⟨0,rfl,Nat.zero_le _,fun j x hj=>absurd hj (by omega),Below.refl _ _⟩
 case round=>
  obtain⟨i,rfl,hi,hI,hB⟩:=hrel;by_cases hlt:i<n
  ·obtain⟨x,hx⟩:∃ x,l[i]?=some x:=⟨_,List.getElem?_eq_getElem (by rw[HN.out];exact hlt)⟩;obtain⟨g,o,rfl,hg,m1,m2⟩:=Q3.out i x hx;rw[Nat.mul_comm 2]at m1 m2;have r1:=(hB.out.cell (p:=⟨g,o+i*2,none⟩) hg).trans m1;have r2:=(hB.out.cell (p:=⟨g,o+i*2+1,none⟩) hg).trans m2;have HX:=hid hx;have b1:(0:Int)≤(i:Int):=by omega
   have b2:(i:Int)<(n:Int):=by omega
   have wi:IntKind.i64.wrap ((i:Int)+1)=((i+1:Nat):Int):=by rw[IntWalk.i64_in _ ⟨by omega,by omega⟩];omega
   obtain⟨z,hz⟩:∃ z,p x=z:=⟨_,rfl⟩;have C:=fun W=>hid (hz ▸ HF.out W x)
   have HZ:=hid hz;clear hx hz m1 m2 hg;go_wp2_with fail;refine (C _).out.mono ?_;rintro e w1 ⟨rfl,hb1⟩;have y1:=hid (a0a hB.out hb1);clear hb1;cases z
   ·go_wp2_with fail;go_roundw
    case rel=>exact⟨i+1,by go_num,by omega,fun j y hj hy=>by
     rcases Nat.lt_or_ge j i with h | h
     ·exact hI.out j y h hy
     ·obtain rfl:j=i:=by omega
      rw[HX.out]at hy;cases hy;exact HZ.out,y1⟩
    case measure=>simp[intOf]<;>omega
   ·have hA:l.any p=true:=List.any_eq_true.2 ⟨x,List.mem_of_getElem? HX.out,HZ.out⟩;have hfi:l.findIdx p=i:=by
     have hil:i<l.length:=by rw[HN.out];exact hlt
     rw[List.findIdx_eq hil];refine⟨?_,fun j hj=>?_⟩
     ·have:=HX.out;rw[List.getElem?_eq_getElem hil]at this;rw[Option.some.inj this];exact HZ.out
     ·exact hI.out j _ hj (List.getElem?_eq_getElem (Nat.lt_trans hj hil))
    have HE:=hid (show ixM p l=(i:Int) from by rw[ixM,if_pos hA,hfi]);clear hA hfi;go_wp2_with fail;go_ret
    exact⟨by rw[HE.out];rfl,y1.out⟩
  ·obtain rfl:i=n:=by omega
   have hA:¬ l.any p=true:=fun h=>by
    obtain⟨x,hx,hp⟩:=List.any_eq_true.1 h;obtain⟨j,hj⟩:=List.getElem?_of_mem hx;have:=hI.out j x (by rw[← HN.out];exact (List.getElem?_eq_some_iff.1 hj).1) hj;rw[this]at hp;cases hp
   have HE:=hid (show ixM p l = -1 from by rw[ixM,if_neg hA]);have q0:decide ((i:Int)<(i:Int))=false:=by simp
   clear hA hlt;go_wp2_with fail;go_ret
   exact⟨by rw[HE.out];rfl,hB.out⟩
structure DelI (del:ByteArray×ByteArray→Bool)(L D:List (ByteArray×ByteArray))(i j:Nat):Prop where
 len:D.length=L.length
 lt:i<j
 le:j≤L.length
 front:D.take i=(L.take j).filter fun x => !del x
 back:D.drop j=L.drop j
theorem DelI.start {del:ByteArray×ByteArray→Bool}{L:List (ByteArray×ByteArray)}(h:L.any del=true):DelI del L L (L.findIdx del) (L.findIdx del+1):=by
 have hk:L.findIdx del<L.length:=List.findIdx_lt_length.2 (List.any_eq_true.1 h);have hd:del L[L.findIdx del]=true:=List.findIdx_getElem;refine⟨rfl,Nat.lt_succ_self _,hk,?_,rfl⟩;rw[List.take_add_one,List.getElem?_eq_getElem hk,List.filter_append];have e1:List.filter (fun x => !del x) (some L[L.findIdx del]).toList = []:=by simp[hd]
 rw[e1,List.append_nil]
 symm
 rw[List.filter_eq_self];intro x hx;obtain⟨j,hj,rfl⟩:=List.getElem_of_mem hx;rw[List.length_take]at hj;rw[List.getElem_take];have:=List.not_of_lt_findIdx (p:=del) (xs:=L) (i:=j) (by omega);simpa using this
theorem DelI.at_ {del:ByteArray×ByteArray→Bool}{L D:List (ByteArray×ByteArray)}{i j:Nat}(h:DelI del L D i j){x:ByteArray×ByteArray}(hx:L[j]?=some x):D[j]?=some x:=by
 have:=congrArg (fun l=>l[0]?) h.back;simp only[List.getElem?_drop,Nat.add_zero]at this;rw[this,hx]
theorem DelI.keep {del:ByteArray×ByteArray→Bool}{L D:List (ByteArray×ByteArray)}{i j:Nat}(h:DelI del L D i j){x:ByteArray×ByteArray}(hx:L[j]?=some x)(hd:del x=false):DelI del L (D.set i x) (i+1) (j+1):=by
 have hj:=(List.getElem?_eq_some_iff.1 hx).1;have hlt:=h.lt;refine⟨by rw[List.length_set];exact h.len,by omega,hj,?_,?_⟩
 ·have e1:L.take (j+1)=L.take j ++ [x]:=by rw[List.take_add_one,hx];rfl
  have e2:(D.set i x).take (i+1)=D.take i ++ [x]:=by
   rw[List.take_add_one,List.getElem?_set_self (by rw[h.len];omega),List.take_set,List.set_eq_of_length_le (by rw[List.length_take];omega)];rfl
  rw[e1,e2,List.filter_append,← h.front];simp[hd]
 ·rw[List.drop_set_of_lt (by omega),← List.drop_drop,h.back,List.drop_drop]
theorem DelI.skip {del:ByteArray×ByteArray→Bool}{L D:List (ByteArray×ByteArray)}{i j:Nat}(h:DelI del L D i j){x:ByteArray×ByteArray}(hx:L[j]?=some x)(hd:del x=true):DelI del L D i (j+1):=by
 have hj:=(List.getElem?_eq_some_iff.1 hx).1;have hlt:=h.lt;refine⟨h.len,by omega,hj,?_,?_⟩
 ·rw[List.take_add_one,hx,List.filter_append,← h.front];simp[hd]
 ·rw[← List.drop_drop,h.back,List.drop_drop]
theorem o0W {D:List (ByteArray×ByteArray)}{i:Nat}(x:ByteArray×ByteArray)(hi:i<D.length):((b0B D).set (i*2) (.string x.1)).set (i*2+1) (.string x.2)=b0B (D.set i x):=by
 apply List.ext_getElem?
 intro k;rw[e0C,List.getElem?_set,List.getElem?_set];simp only[List.length_set,b0f];by_cases h1:i*2+1=k
 ·subst h1;rw[if_pos rfl,if_pos (by omega),show (i*2+1) / 2=i by omega,List.getElem?_set_self hi,Option.map_some,if_neg (by omega)]
 ·rw[if_neg h1];by_cases h2:i*2=k
  ·subst h2;rw[if_pos rfl,if_pos (by omega),show i*2 / 2=i by omega,List.getElem?_set_self hi,Option.map_some,if_pos (by omega)]
  ·rw[if_neg h2,e0C,List.getElem?_set_ne (by omega)]
theorem m0M (D:List (ByteArray×ByteArray))(i:Nat):(b0B D).take (i*2)=b0B (D.take i):=by
 apply List.ext_getElem?
 intro k;rw[e0C];by_cases h:k<i*2
 ·rw[List.getElem?_take_of_lt h,e0C,List.getElem?_take_of_lt (by omega)]
 ·rw[List.getElem?_take_eq_none (by omega),List.getElem?_take_eq_none (by omega)];rfl
theorem v0F (w:World)(F:Nat)(del:ByteArray×ByteArray→Bool)(g cap base n:Nat)(L:List (ByteArray×ByteArray))(hO:w.ownsRow base 39 2 (.slice (some ⟨g,0,none⟩) n cap) n (b0B L))(hl:L.length=n)(hn:n≤100000)(hb:base≤w.heap.size)
 (hen:∀ args w,(callFunc F args).run Tryz.prog w=.ok (.enter F args) w)
 (hF:∀ W (x:ByteArray×ByteArray),Calls Tryz.prog F #[.agg #[.string x.1,.string x.2]] W fun e w'=>e=.returned (.bool (del x))∧Below W.heap.size W w'):
 Calls Tryz.prog 39 #[.slice (some ⟨g,0,none⟩) n cap,.func (.func F) #[] #[]] w fun e w'=>(∃ m,m=(L.filter fun x => !del x).length∧e=.returned (.slice (some ⟨g,0,none⟩) m cap)∧w'.ownsRow base 39 2 (.slice (some ⟨g,0,none⟩) m cap) m (b0B (L.filter fun x => !del x)))∧Below base w w':=by
 have PI:=hid (i0X w _ L F del (MRow.of_owns hO) hen hF);have HO:=hid hO;obtain⟨o1,o2,o3,o4,o5,o6⟩:=e0z hO;have HF:=hid hF;have HL:=hid hl;have HB:=hid hb;have HG:=hid o1;by_cases hany:L.any del=true
 ·have st:=hid (DelI.start hany);have ei:ixM del L=(L.findIdx del:Nat):=by rw[ixM,if_pos hany]
  rw[ei]at PI;obtain⟨k,hk⟩:∃ k,L.findIdx del=k:=⟨_,rfl⟩;rw[hk]at PI st;have hkn:k<n:=by have:=st.out.le;omega
  have q0:((k:Int) == -1)=false:=by rw[beq_eq_false_iff_ne];omega
  have wk:IntKind.i64.wrap ((k:Int)+1)=((k+1:Nat):Int):=by rw[IntWalk.i64_in _ ⟨by omega,by omega⟩];omega
  clear hO hF hl hb hany ei hk o1 o2 o3 o4;go_enter Tryz.func39,Tryz.ntmps39;go_wp2_with fail;refine PI.out.mono ?_;rintro e w1 ⟨rfl,hb1⟩;have y1:=hid (hb1.mono HB.out);have O1:=hid (a0s HO.out hb1);clear hb1;go_wp2_with fail
  go_loopw [5,6,7] (fun s5 s6 s7 wr=>∃ (i j:Nat) (D:List (ByteArray×ByteArray)),s5=.int .i64 (i:Nat)∧s6=.int .i64 (j:Nat)∧j≤n∧i<j∧Hid (DelI del L D i j)∧Hid (wr.ownsRow base 39 2 (.slice (some ⟨g,0,none⟩) n cap) n (b0B D))∧Hid (Below base w wr)) (fun s5 s6 s7 wr=>n-(intOf s6).toNat)
  case atStart=>exact⟨k,k+1,L,rfl,by go_num,by omega,by omega,st,O1,y1⟩
  case round=>
   obtain⟨i,j,D,rfl,rfl,hj,hij,hI,hO,hBl⟩:=hrel;obtain⟨o1,o2,o3,o4,-,-⟩:=e0z hO.out;have hDl:=hI.out.len;by_cases hlt:j<n
   ·obtain⟨x,hx⟩:∃ x,L[j]?=some x:=⟨_,List.getElem?_eq_getElem (by rw[HL.out];exact hlt)⟩;obtain⟨m1,m2⟩:=c0t (hI.out.at_ hx);obtain⟨y,hy⟩:∃ y,D[i]?=some y:=⟨_,List.getElem?_eq_getElem (by rw[hDl,HL.out];omega)⟩;obtain⟨m3,m4⟩:=c0t hy;have r1:=o4 _ _ m1;have r2:=o4 _ _ m2;have r3:=o4 _ _ m3;have r4:=o4 _ _ m4;rw[Nat.mul_comm 2]at r1 r2 r3 r4;have f1:=o3 (i*2);have f2:=o3 (i*2+1);have b1:(0:Int)≤(j:Int):=by omega
    have b2:(j:Int)<(n:Int):=by omega
    have b3:(0:Int)≤(i:Int):=by omega
    have b4:(i:Int)<(n:Int):=by omega
    have wj:IntKind.i64.wrap ((j:Int)+1)=((j+1:Nat):Int):=by rw[IntWalk.i64_in _ ⟨by omega,by omega⟩];omega
    have wi:IntKind.i64.wrap ((i:Int)+1)=((i+1:Nat):Int):=by rw[IntWalk.i64_in _ ⟨by omega,by omega⟩];omega
    obtain⟨z,hz⟩:∃ z,del x=z:=⟨_,rfl⟩;have C:=fun W=>hid (hz ▸ HF.out W x)
    have HX:=hid hx;have HZ:=hid hz;have hset:=hid (o0W (D:=D) (i:=i) x (by rw[hDl,HL.out];omega));have X1:=hid (Blk.new wr #[.string x.1,.string x.2] 39);have A1:=hid ((Below.refl wr.heap.size wr).alloc (Nat.le_refl _) (.cells #[.string x.1,.string x.2] 39));have O2:=hid (a0s hO.out A1.out);have GL:Hid (g<wr.heap.size):=o2;clear hx hz m1 m2 m3 m4 o4 hy;obtain⟨xk,xv⟩:=x;dsimp only at *;go_wp2_with fail;refine (C _).out.mono ?_;rintro e w2 ⟨rfl,hb2⟩;have hb2':=a0a A1.out hb2;have X2:=hid (X1.out.call hb2);have O3:=hid (a0s O2.out hb2);have B2:=hid (hBl.out.trans (hb2'.mono (by omega)));have z0:=X2.out.cell 0;have z1:=X2.out.cell 1;simp at z0 z1;have r3:=(hb2'.cell (p:=⟨g,i*2,none⟩) GL.out).trans r3;have r4:=(hb2'.cell (p:=⟨g,i*2+1,none⟩) GL.out).trans r4;obtain⟨-,-,g3,-,-,-⟩:=e0z O3.out;have f1:=g3 (i*2);have f2:=g3 (i*2+1);clear hb2 hb2' r1 r2;cases z
    ·go_wp2_with fail;go_roundw
     case rel=>
      refine⟨i+1,j+1,D.set i (xk,xv),by go_num,by go_num,by omega,by omega,hid (hI.out.keep HX.out HZ.out),?_,hid ((B2.out.setCell o1 _).setCell o1 _)⟩;have h5:=h0K (h0K O3.out (i*2) (.string xk)) (i*2+1) (.string xv);rw[hset.out]at h5;exact h5
     case measure=>simp[intOf]<;>omega
    ·clear f1 f2 r3 r4;go_wp2_with fail;go_roundw
     case rel=>exact⟨i,j+1,D,rfl,by go_num,by omega,by omega,hid (hI.out.skip HX.out HZ.out),O3,B2⟩
     case measure=>simp[intOf]<;>omega
   ·obtain rfl:j=n:=by omega
    have q1:decide ((j:Int)<(j:Int))=false:=by simp
    have b1:(0:Int)≤(i:Int):=by omega
    have b2:(i:Int)≤(j:Int):=by omega
    have b3:(j:Int)≤(cap:Int):=by omega
    have b4:(i:Int)≤(cap:Int):=by omega
    obtain⟨vs,hcl⟩:=m0w wr 26 39 0 (.agg #[.string ⟨#[]⟩,.string ⟨#[]⟩]) (.string ⟨#[]⟩) (.string ⟨#[]⟩) Tryz.underlying26 n0p rfl rfl rfl g (i*2) (j-i) (cap-i) (by omega)
     (fun k hk=>by
      obtain⟨v,hv⟩:∃ v,(b0B D)[i*2+k]?=some v:=⟨_,List.getElem?_eq_getElem (by rw[b0f,hDl,HL.out];omega)⟩;rw[o4 _ _ hv];rfl)
     (fun k hk=>o3 _)
    obtain⟨ys,w3,w4⟩:=f0b vs (i*2) hO.out;have hfr:=hI.out.front;have hT:L.take j=L:=List.take_of_length_le (by rw[HL.out];exact Nat.le_refl _);rw[hT]at hfr;have hcut:=r0o w3 (m:=i) (by omega);rw[w4,m0M,hfr]at hcut;have hcb:=hid (d0P o1 vs (i*2) hBl.out);have hlen:i=(L.filter fun x => !del x).length:=by rw[← hfr,List.length_take,hDl,HL.out];omega
    have HC:=hid hcut;have HLN:=hid hlen;clear hlt o4 w3 w4 hfr hcut hlen hT;go_wp2_with fail;go_ret
    refine⟨⟨i,HLN.out,rfl,HC.out⟩,hcb.out⟩
 ·have hk:(L.filter fun x => !del x)=L:=List.filter_eq_self.2 fun x hx=>by
   cases hd:del x
   ·rfl
   ·exact absurd (List.any_eq_true.2 ⟨x,hx,hd⟩) hany
  have ei:ixM del L = -1:=by rw[ixM,if_neg hany]
  rw[ei]at PI;rw[hk];have q0:((-1:Int) == -1)=true:=rfl;clear hO hF hb hany ei hk o1 o2 o3 o4;go_enter Tryz.func39,Tryz.ntmps39;go_wp2_with fail;refine PI.out.mono ?_;rintro e w1 ⟨rfl,hb1⟩;go_wp2_with fail;go_ret
  exact⟨⟨n,HL.out.symm,rfl,a0s HO.out hb1⟩,hb1.mono HB.out⟩
end Go.Proofs.YtlmnpocifldpmaaGreatDoor
namespace Go.Proofs.YtlmnpocifldpmaaGreatDoor
open Go.RowKit
open Go.Lib (decDigits nDigits)
def chV (g:Int→Nat)(n j:Nat):List Int:=((List.range j).map fun (i:Nat)=>(i:Int)-n).filter fun v=>decide (g v≠0)
theorem s0i (g:Int→Nat)(n j:Nat):chV g n (j+1)=chV g n j++if g ((j:Int)-n)=0 then [] else [(j:Int)-n]:=by
 unfold chV;rw[List.range_succ,List.map_append,List.filter_append,List.map_singleton];by_cases h:g ((j:Int)-n)=0
 ·simp[h]
 ·simp[h]
def smV (f:Int→Nat)(l:List Int):Nat:=(l.map f).sum
theorem q0R (f:Int→Nat)(l:List Int)(v:Int):smV f (l ++ [v])=smV f l+f v:=by simp[smV]
theorem n0Z {f g:Int→Nat}(hf:∀ v,g v=0→f v=0)(n:Nat):∀ j,smV f (chV g n j)=a0i (fun i=>f ((i:Int)-n)) j
 | 0=>rfl
 | j+1=>by
  rw[s0i,a0i,← n0Z hf n j]
  split
  ·rename_i h
   rw[List.append_nil,hf _ h,Nat.add_zero]
  ·rw[q0R]
theorem t0B {f g:Int→Nat}(hf:∀ v,g v=0→f v=0)(n:Nat):smV f (chV g n (2*n+1))=zS n f:=n0Z hf n _
def chA (g:Int→Nat)(n:Nat):List Int:=chV g n (2*n+1)
open Go.Shelf
theorem d0L (x m:Nat):(dyB x m).size≤1000000:=by
 have:=c0Y (qmk false x (2 ^ m));show (c0I _).size≤_
 omega
end Go.Proofs.YtlmnpocifldpmaaGreatDoor
namespace Go.Proofs.YtlmnpocifldpmaaGreatDoor
open Go.RowKit
theorem b0e {w W w3:World}{t:TypeId}{z:Nat}{v:Value}{m:Nat}{vs:List Value}(h:W.ownsRow w.heap.size t z v m vs)(h0:Below w.heap.size w W)(hg:W.grownBy w3 v.ownBlock):Below w.heap.size w w3:=by
 refine h0.trans ⟨hg.os,hg.tape,hg.output,hg.size,fun j hj=>hg.block j (Nat.lt_of_lt_of_le hj h0.size) fun e=>?_⟩;have:=(h.lt j e.symm).1;omega
open Go.Shelf
theorem l0k {us:List Int}{t x:Int}{i:Nat}(h:(us ++ [t])[i]?=some x):us[i]?=some x∨(i=us.length∧x=t):=by
 by_cases hi:i<us.length
 ·rw[List.getElem?_append_left hi]at h;exact .inl h
 ·rw[List.getElem?_append_right (by omega)]at h;have:i-us.length=0:=by
   rcases Nat.eq_zero_or_pos (i-us.length) with h0 | h0
   ·exact h0
   ·rw[List.getElem?_eq_none (by simp;omega)]at h;cases h
  rw[this]at h;simp at h;exact .inr ⟨by omega,h.symm⟩
theorem f0a {w w':World}{base:Nat}{e:TypeId}{size:Nat}{v:Value}{n:Nat}{xs:List Value}(h:w.ownsRow base e size v n xs)(hb:∀ g,v.ownBlock=some g→w'.heap[g]?=w.heap[g]?):w'.ownsRow base e size v n xs:=by
 refine⟨h.1,?_⟩;rcases h.2 with h0 | ⟨g,cap,cur,rfl,h1,h2,h3⟩
 ·exact .inl h0
 ·exact .inr ⟨g,cap,cur,rfl,h1,(hb g rfl).trans h2,h3⟩
structure TwoZ (B:Nat)(W:World)(v1 v2:Value)(ts os:List Int):Prop where
 o1:W.ownsRow B 3 1 v1 ts.length (zs ts)
 o2:W.ownsRow B 3 1 v2 os.length (zs os)
 ne:∀ g,v1.ownBlock=some g→v2.ownBlock≠some g
theorem TwoZ.nil (B:Nat)(W:World):TwoZ B W (.slice none 0 0) (.slice none 0 0) [] []:=⟨World.ownsRow_nil _ _ _ _,World.ownsRow_nil _ _ _ _,fun g h=>by simp[Value.ownBlock]at h⟩
theorem TwoZ.below {B:Nat}{W W':World}{v1 v2:Value}{ts os:List Int}(h:TwoZ B W v1 v2 ts os)(hb:Below W.heap.size W W'):TwoZ B W' v1 v2 ts os:=⟨a0s h.o1 hb,a0s h.o2 hb,h.ne⟩
theorem TwoZ.app1 {B:Nat}{W W':World}{v1 v1' v2:Value}{ts os:List Int}{x:Int}(h:TwoZ B W v1 v2 ts os)(hown:W'.ownsRow B 3 1 v1' (ts.length+1) (zs ts ++ [.int .i64 x]))(hg:W.grownBy W' v1.ownBlock)(hat:v1'.ownBlock=v1.ownBlock∨v1'.ownBlock=some W.heap.size):TwoZ B W' v1' v2 (ts ++ [x]) os:=by
 refine⟨by rw[i0A,List.length_append];exact hown,f0a h.o2 fun g hg'=>hg.block g (h.o2.lt g hg').2 (fun e=>h.ne g e.symm hg'),fun g hg1 hg2=>?_⟩;rcases hat with e | e
 ·exact h.ne g (e ▸ hg1) hg2
 ·rw[e]at hg1;have:=(h.o2.lt g hg2).2;injection hg1 with hg1
  omega
theorem TwoZ.app2 {B:Nat}{W W':World}{v1 v2 v2':Value}{ts os:List Int}{x:Int}(h:TwoZ B W v1 v2 ts os)(hown:W'.ownsRow B 3 1 v2' (os.length+1) (zs os ++ [.int .i64 x]))(hg:W.grownBy W' v2.ownBlock)(hat:v2'.ownBlock=v2.ownBlock∨v2'.ownBlock=some W.heap.size):TwoZ B W' v1 v2' ts (os ++ [x]):=by
 refine⟨f0a h.o1 fun g hg'=>hg.block g (h.o1.lt g hg').2 (fun e=>h.ne g hg' e.symm),by rw[i0A,List.length_append];exact hown,fun g hg1 hg2=>?_⟩;rcases hat with e | e
 ·exact h.ne g hg1 (e ▸ hg2)
 ·rw[e]at hg2;have:=(h.o1.lt g hg1).2;injection hg2 with hg2
  omega
theorem d0w {W:World}{g:Nat}{x:Value}{t:TypeId}(h:Blk W g #[x] t):∀ j u,[x][j]?=some u→W.cell? ((⟨g,0,none⟩:Addr).add j)=some u:=fun j u hj=>by
 match j,hj with
 | 0,hj=>
  simp at hj;subst hj;rw[Addr.add_lit];exact h.cell 0
theorem t0l {x:Int}(h1 : -9223372036854775808≤x)(h2:x≤9223372036854775807) : -4611686018427387904≤x.tdiv 2∧x.tdiv 2≤4611686018427387904:=by
 rcases Int.lt_or_le x 0 with h | h
 ·obtain⟨y,rfl⟩:∃ y,x = -y:=⟨-x,by omega⟩;rw[Int.neg_tdiv,Int.tdiv_eq_ediv_of_nonneg (by omega)];omega
 ·rw[Int.tdiv_eq_ediv_of_nonneg h];omega
end Go.Proofs.YtlmnpocifldpmaaGreatDoor
namespace Go.Proofs.YtlmnpocifldpmaaGreatDoor
open Go.RowKit
open Go.Lib (decDigits nDigits)
def DfU (same:Bool)(S:Nat)(ts os:List Int):Prop:=∀ (i:Nat) (u v:Int),ts[i]?=some u→os[i]?=some v→v-u≤S∧u-v≤S∧(same=true→u≤v)
theorem DfU.nil (same:Bool)(S:Nat):DfU same S [] []:=fun i u v hu=>by simp at hu
theorem DfU.snoc {same:Bool}{S S':Nat}{us vs:List Int}{t k:Int}(h:DfU same S us vs)(hl:us.length=vs.length)(hS:S≤S')(k1:k≤S')(k2 : -k≤S')(k3:same=true→0≤k):DfU same S' (us ++ [t]) (vs ++ [t+k]):=fun i u v hu hv=>by
 rcases l0k hu with hu | ⟨h1,rfl⟩<;>rcases l0k hv with hv | ⟨h2,rfl⟩
 ·obtain⟨a,b,c⟩:=h i u v hu hv;exact⟨by omega,by omega,c⟩
 ·have:=(List.getElem?_eq_some_iff.1 hu).1;omega
 ·have:=(List.getElem?_eq_some_iff.1 hv).1;omega
 ·exact⟨by omega,by omega,fun h=>by have:=k3 h;omega⟩
theorem o0v (n d:Nat):∀ m:Nat,(mkRat (n:Int) d:Rat) ^ m=mkRat ((n ^ m:Nat):Int) (d ^ m)
 | 0=>by rw[Rat.pow_zero,Nat.pow_zero,Nat.pow_zero];rfl
 | m+1=>by rw[Rat.pow_succ,o0v n d m,Rat.mkRat_mul_mkRat,Nat.pow_succ,Nat.pow_succ,Int.natCast_mul]
theorem v0W (n d:Nat):(mkRat (n:Int) d:Rat)⁻¹ = mkRat (d:Int) n:=by
 rw[← Rat.divInt_ofNat,Rat.inv_divInt,Rat.divInt_ofNat]
theorem v0U {a:ByteArray}(h:gPE a=0):bN (qD a)<10 ^ (a.size+1):=by
 obtain⟨h1,-⟩:=h0y h;obtain⟨hb,-,-⟩:=h0G h1;have e:=d0V (h0H hb);have h2:=a0W (bN (qD a));rw[← e]at h2;have h3:=k0q a;exact Nat.lt_of_lt_of_le (Go.Lib.lt_pow_nDigits _) (Nat.pow_le_pow_right (by omega) (by omega))
theorem v0A {c:List Int}{thr:Int}{a r:ByteArray}{n:Int}(h:slE c thr a r n=0):1≤c.length∧gPE a=0∧gPE r=0∧0≤n:=by
 unfold slE at h
 split at h
 ·rename_i h1;exact absurd h h1
 ·rename_i h1
  obtain⟨q1,q2,q3,q4⟩:=k0h (Classical.byContradiction h1)
  split at h
  ·cases h
  ·refine⟨?_,q3,q4,by omega⟩;unfold ctE at q1
   split at q1
   ·cases q1
   ·omega
theorem l0l {c:List Int}{thr:Int}{a r:ByteArray}{n:Int}:∀ p∈slR c thr a r n,p.2.size≤10000:=fun p hp=>by
 unfold slR at hp
 split at hp
 ·rw[b0x,h0o]at hp;rw[(f0K.1 hp.1).2];unfold dyB shB;exact c0Y _
 ·simp at hp
theorem s0H {a:ByteArray}(h:gPE a=0)(h0:a≠⟨#[48]⟩)(ha:a.size≤12){s:Nat}(hs:s≤4):bN (cW a)<bN (qD a)∧0<bN (cW a)∧bN (qD a)<10 ^ 13∧¬ ovQ (mkRat ((bN (qD a) ^ s:Nat):Int) (bN (cW a) ^ s))∧i0x s a=txQ (mkRat ((bN (qD a) ^ s:Nat):Int) (bN (cW a) ^ s))∧o0x s a=0:=by
 have hP:=j0b h h0;obtain⟨-,hND⟩:=b0S h;have hT:=v0U h;have hV:=r0c h;obtain⟨hq,-⟩:=h0y h;have hT13:bN (qD a)<10 ^ 13:=Nat.lt_of_lt_of_le hT (Nat.pow_le_pow_right (by omega) (by omega));have hpw:(fun q:Rat=>q⁻¹ ^ s) (mkRat (bN (cW a):Nat) (bN (qD a)))=mkRat ((bN (qD a) ^ s:Nat):Int) (bN (cW a) ^ s):=by
  show (mkRat (bN (cW a):Nat) (bN (qD a)))⁻¹ ^ s=_
  rw[v0W,o0v]
 have nz:bN (cW a) ^ s≠0:=Nat.ne_of_gt (Nat.pow_pos hP);have b1:bN (qD a) ^ s≤(10 ^ 13) ^ 4:=Nat.le_trans (Nat.pow_le_pow_left (by omega) s) (Nat.pow_le_pow_right (by omega) hs);have b2:bN (cW a) ^ s≤bN (qD a) ^ s:=Nat.pow_le_pow_left (by omega) s;have d1:=a0j (k:=60) (by omega) (show bN (qD a) ^ s<10 ^ 60 from Nat.lt_of_le_of_lt b1 (by decide));have d2:=a0j (k:=60) (by omega) (show bN (cW a) ^ s<10 ^ 60 from Nat.lt_of_le_of_lt (Nat.le_trans b2 b1) (by decide));have fit:¬ ovQ (mkRat ((bN (qD a) ^ s:Nat):Int) (bN (cW a) ^ s)):=(c0O (K:=1000) nz (by rw[Int.natAbs_natCast];omega) (by omega)).fits (by omega) (by omega);refine⟨hND,hP,hT13,fit,?_,?_⟩
 ·unfold i0x v0i;rw[if_pos hq,hV,hpw,f0V fit]
 ·unfold o0x v0Y;rw[if_pos hq,hV,hpw,j0k fit]
theorem t0v {ts os:List Int}{thr:Int}{a r:ByteArray}{n:Int}{mm:Nat}{same:Bool}(h1:slE ts thr a r n=0)(h2:slE os thr a r n=0)(hl:ts.length=os.length)(h4:ts.length≤3)(ha:a.size≤12)(hr:r.size≤12)(ha0:a≠⟨#[48]⟩)(hr0:r≠⟨#[48]⟩)(hn:n≤5)(hmm:mm≤2)(hD:DfU same mm ts os):
 v0D a r mm same=0∧e0h (slR ts thr a r n) a0H=e0h (slR os thr a r n) a0H ∧
 cmB (i0y (o0e a r mm same) (slR ts thr a r n) (slR os thr a r n)) (b0b (· * ·) (o0e a r mm same) (e0h (slR ts thr a r n) a0H))≤0 ∧
 cmB (i0y (o0e a r mm same) (slR os thr a r n) (slR ts thr a r n)) (b0b (· * ·) (o0e a r mm same) (e0h (slR ts thr a r n) a0H))≤0:=by
 obtain⟨c1,hga,hgr,hn0⟩:=v0A h1;obtain⟨s,hs⟩:∃ s,ffM (mm:Int) same=s:=⟨_,rfl⟩;have hs4:s≤4:=by rw[← hs];unfold ffM;split<;>omega
 have hs2:(same=true→s=mm)∧(same=false→s=2*mm):=by
  rw[← hs];unfold ffM;refine⟨fun h=>?_,fun h=>?_⟩
  ·rw[if_pos h];omega
  ·rw[if_neg (by rw[h];decide)];omega
 obtain⟨p1,p2,p3,p4,p5,p6⟩:=s0H hga ha0 ha (s:=mm) (by omega);obtain⟨q1,q2,q3,q4,q5,q6⟩:=s0H hgr hr0 hr hs4;have iva:g0V a=0:=by unfold g0V;rw[if_neg (by simpa using hga),if_neg ha0]
 have ivr:g0V r=0:=by unfold g0V;rw[if_neg (by simpa using hgr),if_neg hr0]
 have hX:s0C a r mm=0:=by unfold s0C;rw[if_neg (by simpa using iva),if_neg (by simpa using ivr),if_neg (by omega)]
 have hY:v0h a r mm same=0:=by unfold v0h;rw[Int.toNat_natCast,if_neg (by simpa using p6),hs];exact q6
 have hE:v0D a r mm same=d0b (· * ·) (i0x mm a) (i0x s r):=by unfold v0D;rw[if_neg (by simpa using hX),if_neg (by simpa using hY),Int.toNat_natCast,hs]
 have hB:o0e a r mm same=b0b (· * ·) (i0x mm a) (i0x s r):=by unfold o0e;rw[if_neg (by simpa using hX),if_neg (by simpa using hY),Int.toNat_natCast,hs]
 have hR1:slR ts thr a r n=a0D (sqD (gV (bN (cW a)) (bN (qD a)) true n.toNat) (gV (bN (cW r)) (bN (qD r)) true n.toNat) n.toNat thr ts):=if_pos h1;have hR2:slR os thr a r n=a0D (sqD (gV (bN (cW a)) (bN (qD a)) true n.toNat) (gV (bN (cW r)) (bN (qD r)) true n.toNat) n.toNat thr os):=if_pos h2;rw[hE,hB,hR1,hR2,p5,q5];obtain⟨N1,hN1⟩:∃ N,bN (cW a)=N:=⟨_,rfl⟩;obtain⟨D1,hD1⟩:∃ N,bN (qD a)=N:=⟨_,rfl⟩;obtain⟨N2,hN2⟩:∃ N,bN (cW r)=N:=⟨_,rfl⟩;obtain⟨D2,hD2⟩:∃ N,bN (qD r)=N:=⟨_,rfl⟩;obtain⟨k,hk⟩:∃ k:Nat,n.toNat=k:=⟨_,rfl⟩;rw[hN1,hD1,hN2,hD2,hk];rw[hN1,hD1]at p1 p4;rw[hN1]at p2;rw[hD1]at p3;rw[hN2,hD2]at q1 q4;rw[hN2]at q2;rw[hD2]at q3;have hk4:k*(ts.length+1)≤20:=by
  have:k≤5:=by omega
  exact Nat.le_trans (Nat.mul_le_mul this (show ts.length+1≤4 by omega)) (by omega)
 have h20:2 ^ (k*(ts.length+1))≤2 ^ 20:=Nat.pow_le_pow_right (by omega) hk4;have b1:D1 ^ mm≤(10 ^ 13) ^ 2:=Nat.le_trans (Nat.pow_le_pow_left (by omega) mm) (Nat.pow_le_pow_right (by omega) hmm);have b2:D2 ^ s≤(10 ^ 13) ^ 4:=Nat.le_trans (Nat.pow_le_pow_left (by omega) s) (Nat.pow_le_pow_right (by omega) hs4);have b3:N1 ^ mm*N2 ^ s≤D1 ^ mm*D2 ^ s:=Nat.mul_le_mul (Nat.pow_le_pow_left (by omega) mm) (Nat.pow_le_pow_left (by omega) s);have hH:D1 ^ mm*D2 ^ s*2 ^ (k*(ts.length+1))<10 ^ 90:=Nat.lt_of_le_of_lt (Nat.mul_le_mul (Nat.mul_le_mul b1 b2) h20) (by decide);have hG:N1 ^ mm*N2 ^ s*2 ^ (k*(ts.length+1))<10 ^ 90:=Nat.lt_of_le_of_lt (Nat.mul_le_mul_right _ b3) hH;have nz:N1 ^ mm*N2 ^ s≠0:=Nat.ne_of_gt (Nat.mul_pos (Nat.pow_pos p2) (Nat.pow_pos q2));have d1:=a0j (k:=90) (by omega) (Nat.lt_of_le_of_lt (Nat.le_mul_of_pos_right (D1 ^ mm*D2 ^ s) (Nat.pow_pos (n:=k*(ts.length+1)) (show 0<2 by omega))) hH);have d2:=a0j (k:=90) (by omega) (Nat.lt_of_le_of_lt (Nat.le_mul_of_pos_right (N1 ^ mm*N2 ^ s) (Nat.pow_pos (n:=k*(ts.length+1)) (show 0<2 by omega))) hG);have fit:¬ ovQ (mkRat ((D1 ^ mm*D2 ^ s:Nat):Int) (N1 ^ mm*N2 ^ s)):=(c0O (K:=1000) nz (by rw[Int.natAbs_natCast];omega) (by omega)).fits (by omega) (by omega);have hmul:mkRat ((D1 ^ mm:Nat):Int) (N1 ^ mm)*mkRat ((D2 ^ s:Nat):Int) (N2 ^ s)=mkRat ((D1 ^ mm*D2 ^ s:Nat):Int) (N1 ^ mm*N2 ^ s):=by
  rw[Rat.mkRat_mul_mkRat,Int.natCast_mul]
 obtain⟨o1,o2⟩:=d0a (f:=(· * ·)) p4 q4 (by show ¬ ovQ (_*_);rw[hmul];exact fit);rw[o2,o1];show (0:Int)=0∧_∧cmB (i0y (txQ (_*_)) _ _) (b0b _ (txQ (_*_)) _)≤0∧cmB (i0y (txQ (_*_)) _ _) (b0b _ (txQ (_*_)) _)≤0
 rw[hmul];have r1:=g0F (N1:=N1) (D1:=D1) (N2:=N2) (D2:=D2) (n:=k) (e:=mm) (s:=mm) (e':=s) (s':=s) p1 q1 p2 q2 (Nat.le_refl _) (Nat.le_refl _) (K:=90) (by omega) (thr:=thr) hl (by omega) (by omega) hG hH (fun j x y hx hy=>by
  obtain⟨d1,d2,d3⟩:=hD j x y hx hy;cases same
  ·have:=hs2.2 rfl;omega
  ·have:=hs2.1 rfl;have:=d3 rfl;omega)
 have r2:=g0F (N1:=N1) (D1:=D1) (N2:=N2) (D2:=D2) (n:=k) (e:=mm) (s:=if same=true then 0 else mm) (e':=s) (s':=s) p1 q1 p2 q2 (by split<;>omega) (Nat.le_refl _) (K:=90) (by omega) (thr:=thr) hl.symm (by rw[← hl];omega) (by omega) (by rw[← hl];exact hG) (by rw[← hl];exact hH) (fun j x y hx hy=>by
  obtain⟨d1,d2,d3⟩:=hD j y x hy hx;cases same
  ·have:=hs2.2 rfl;simp;omega
  ·have:=hs2.1 rfl;have:=d3 rfl;simp;omega)
 refine⟨rfl,r1.2,r1.1,?_⟩;rw[r1.2];exact r2.1
open Go.Shelf
theorem h0q (w:World)(a:ByteArray)(ha:a.size≤100000)(hL:Lay w):
 Calls Tryz.prog 68 #[.string a] w fun e w'=>e=.returned (.int .i64 (gPE a))∧Below w.heap.size w w':=by
 have HG:=hid (x0w w a ⟨#[]⟩ ha (by decide) hL);rw[r0Q]at HG;obtain⟨t,ht⟩:∃ t,oT a ⟨#[]⟩=t:=⟨_,rfl⟩;obtain⟨x,hx⟩:∃ x,gPE a=x:=⟨_,rfl⟩;rw[ht,hx]at HG;rw[hx];obtain⟨d,v,u⟩:=t;simp only[d3]at HG;clear ha hL ht hx;go_enter Tryz.func68,Tryz.ntmps68;go_wp2_with fail;refine HG.out.mono ?_;rintro e w1 ⟨rfl,hb1⟩;go_wp2_with fail;go_ret
 exact⟨rfl,hb1.alloc hb1.size _⟩
theorem n0S (w:World)(u:Int):Calls Tryz.prog 92 #[.int .i64 u] w fun e w'=>e=.returned (.bool (f0G u))∧w=w':=by
 unfold f0G;obtain⟨a,ha⟩:∃ a,decide (u < -1125899906842624)=a:=⟨_,rfl⟩;obtain⟨b,hb⟩:∃ b,decide (1125899906842624<u)=b:=⟨_,rfl⟩;rw[ha,hb];cases a
 ·go_enter Tryz.func92,Tryz.ntmps92;go_wp2_with fail;go_ret
  exact⟨rfl,rfl⟩
 ·clear hb;go_enter Tryz.func92,Tryz.ntmps92;go_wp2_with fail;go_ret
  exact⟨rfl,rfl⟩
theorem h0r (w:World)(s t:ByteArray)(hs:s.size≤1000000)(ht:t.size≤1000000)(hL:Lay w):
 Calls Tryz.prog 34 #[.string s,.string t] w fun e w'=>e=.returned (.string (b0b (· + ·) s t))∧Below w.heap.size w w':=by
 have H:=hid (x0o w s t hs ht hL);obtain⟨B,hB⟩:∃ B,b0b (· + ·) s t=B:=⟨_,rfl⟩;obtain⟨E,hE⟩:∃ E,d0b (· + ·) s t=E:=⟨_,rfl⟩;rw[hB,hE]at H;rw[hB];clear hs ht hL hB hE;go_enter Tryz.func34,Tryz.ntmps34;go_wp2_with fail;refine H.out.mono ?_;rintro e w1 ⟨rfl,hb1⟩;go_wp2_with fail;go_ret
 exact⟨rfl,hb1⟩
theorem n0T (w:World)(s t:ByteArray)(hs:s.size≤1000000)(ht:t.size≤1000000)(hL:Lay w):
 Calls Tryz.prog 37 #[.string s,.string t] w fun e w'=>e=.returned (.string (b0b (· - ·) s t))∧Below w.heap.size w w':=by
 have H:=hid (x0m w s t hs ht hL);obtain⟨B,hB⟩:∃ B,b0b (· - ·) s t=B:=⟨_,rfl⟩;obtain⟨E,hE⟩:∃ E,d0b (· - ·) s t=E:=⟨_,rfl⟩;rw[hB,hE]at H;rw[hB];clear hs ht hL hB hE;go_enter Tryz.func37,Tryz.ntmps37;go_wp2_with fail;refine H.out.mono ?_;rintro e w1 ⟨rfl,hb1⟩;go_wp2_with fail;go_ret
 exact⟨rfl,hb1⟩
theorem e0s (w:World)(s t:ByteArray)(hs:s.size≤1000000)(ht:t.size≤1000000)(hL:Lay w):
 Calls Tryz.prog 35 #[.string s,.string t] w fun e w'=>e=.returned (.string (b0b (· * ·) s t))∧Below w.heap.size w w':=by
 have H:=hid (v0Q w s t hs ht hL);obtain⟨B,hB⟩:∃ B,b0b (· * ·) s t=B:=⟨_,rfl⟩;obtain⟨E,hE⟩:∃ E,d0b (· * ·) s t=E:=⟨_,rfl⟩;rw[hB,hE]at H;rw[hB];clear hs ht hL hB hE;go_enter Tryz.func35,Tryz.ntmps35;go_wp2_with fail;refine H.out.mono ?_;rintro e w1 ⟨rfl,hb1⟩;go_wp2_with fail;go_ret
 exact⟨rfl,hb1⟩
def orZ:List Int→Int
 | []=>0
 | x::r=>if x≠0 then x else orZ r
theorem o0F:∀ {l:List Int} {i:Nat},(∀ (j:Nat) (x:Int),j<i→l[j]?=some x→x=0)→orZ l=orZ (l.drop i)
 | [],i,_=>by simp[orZ]
 | b::r,0,_=>rfl
 | b::r,i+1,h=>by
  have h1:=h 0 b (by omega) rfl;have h3:=o0F (l:=r) (i:=i) (fun j c hj hc=>h (j+1) c (by omega) (by simpa using hc));rw[orZ,if_neg (by simp[h1]),h3]
  rfl
theorem o0i (w:World)(v:Value)(l:List Int)(hv:Row w v (zs l)):
 Calls Tryz.prog 44 #[v] w fun e w'=>e=.returned (.int .i64 (orZ l))∧w=w':=by
 obtain⟨a,c,rfl,q1,q2,q3⟩:=hv.openZ;obtain⟨n,hn⟩:∃ n,l.length=n:=⟨_,rfl⟩;obtain⟨X,hX⟩:∃ X,orZ l=X:=⟨_,rfl⟩;rw[hn]at q1 ⊢;rw[hX];have HN:=hid hn;have Q3:=hid q3;have HX:=hid hX;clear hv q3 hn hX;go_enter Tryz.func44,Tryz.ntmps44;go_wp2_with fail
 go_loop [8] (fun ii=>∃ i:Nat,ii=.int .i64 i∧i≤n∧Hid (∀ (j:Nat) (x:Int),j<i→l[j]?=some x→x=0)) (fun ii=>n-(intOf ii).toNat)
 case atStart=>exact⟨0,rfl,Nat.zero_le _,fun j x hj=>absurd hj (by omega)⟩
 case round=>
  obtain⟨i,rfl,hi,hI⟩:=hrel;by_cases hlt:i<n
  ·obtain⟨x,hx⟩:∃ x,l[i]?=some x:=⟨_,List.getElem?_eq_getElem (by rw[HN.out];exact hlt)⟩;obtain⟨g,o,rfl,hg,hc⟩:=Q3.out i x hx;have hdrop:l.drop i=x::l.drop (i+1):=by
    have hil:i<l.length:=by rw[HN.out];exact hlt
    rw[List.drop_eq_getElem_cons hil];have:=List.getElem?_eq_getElem hil;rw[hx]at this;rw[Option.some.inj this]
   have HXX:=hid hx;have HD:=hid hdrop;have b1:(0:Int)≤(i:Int):=by omega
   have b2:(i:Int)<(n:Int):=by omega
   have wi:IntKind.i64.wrap ((i:Int)+1)=((i+1:Nat):Int):=by rw[IntWalk.i64_in _ ⟨by omega,by omega⟩];omega
   clear hx hdrop;by_cases hx0:x=0
   ·have HZ:=hid hx0;have q0:(x==0)=true:=by rw[beq_iff_eq];exact hx0
    clear hx0;go_wp2_with fail;go_round
    case rel=>exact⟨i+1,by go_num,by omega,fun j y hj hy=>by
     rcases Nat.lt_or_ge j i with h | h
     ·exact hI.out j y h hy
     ·obtain rfl:j=i:=by omega
      rw[HXX.out]at hy;cases hy;exact HZ.out⟩
    case measure=>simp[intOf]<;>omega
   ·have q0:(x==0)=false:=by rw[beq_eq_false_iff_ne];exact hx0
    have HE:Hid (X=x):=by
     show X=x
     rw[← HX.out,o0F hI.out,HD.out,orZ,if_pos hx0]
    clear hx0;go_wp2_with fail;go_ret
    exact⟨by rw[HE.out];rfl,rfl⟩
  ·obtain rfl:i=n:=by omega
   have HE:Hid (X=0):=by
    show X=0
    have hd:l.drop i = []:=List.drop_eq_nil_of_le (by rw[HN.out];exact Nat.le_refl _);rw[← HX.out,o0F hI.out,hd];rfl
   have q0:decide ((i:Int)<(i:Int))=false:=by simp
   clear hlt;go_wp2_with fail;go_ret
   exact⟨by rw[HE.out];rfl,rfl⟩
end Go.Proofs.YtlmnpocifldpmaaGreatDoor
namespace Go.Proofs.YtlmnpocifldpmaaGreatDoor
open Go.RowKit
open Go.Shelf
theorem b0r (w:World)(p q:Int)(t:TypeId):Row (w.alloc (.cells #[.int .i64 p,.int .i64 q] t)) (.slice (some ⟨w.heap.size,0,none⟩) 2 2) (zs [p,q]):=by
 refine Row.of_blk (n:=2) (xs:=zs [p,q]) (Blk.new w #[.int .i64 p,.int .i64 q] t) rfl (by decide) (fun i x hx=>?_) (Nat.le_refl _) (by decide)
 match i,hx with
 | 0,hx=>exact hx
 | 1,hx=>exact hx
 | i+2,hx=>simp[zs]at hx
open Go.Lib (decDigits nDigits)
theorem t0S (w:World)(v:Value)(q:Rat)(n g1:Nat)(z:Int)(hp:IsQ .u64 w v q)(sp:Sml 1000 q)(h0:q≠0)(hn1:1≤n)(hn:n≤1000000000)(hzn:z = -(n:Int))(hL:Lay w)(c1:w.cell? ⟨g1,0,none⟩=some (.int .i64 z)):
 Calls Tryz.prog 134 #[v,.pointer (some ⟨g1,0,none⟩)] w fun e w'=>e=.returned (.tuple #[.string (c0I (q⁻¹ ^ n)),.int .i64 (c0U (q⁻¹ ^ n))])∧Below w.heap.size w w':=by
 have FS:=fun V v hv=>hid (w0E V v q hv)
 have FI:=fun V v hv=>hid (x0A V v q hv h0)
 have sg:=x0l h0;have spi:=t0A h0 sp;obtain⟨sx,hz⟩:∃ z,sgQ q=z:=⟨_,rfl⟩;rw[hz]at FS sg;obtain⟨p,hpq⟩:∃ p,q⁻¹ = p:=⟨_,rfl⟩;rw[hpq]at FI spi ⊢;have F1:=fun V v hv hV=>hid (p0d V v p.num.natAbs n hv (Nat.le_trans spi.n (by omega)) (by omega) hV)
 have F2:=fun V v hv hV=>hid (p0d V v p.den n hv (Nat.le_trans spi.d (by omega)) (by omega) hV)
 obtain⟨e1,e2,e3⟩:=f0S p n;have HOV:=hid (fun h=>l0B (q:=p) (n:=n) h);have F3:=fun V v hv hV (h1:nDigits (p.num.natAbs ^ n)≤4000) (h2:nDigits (p.den ^ n)≤4000)=>hid (m0Y V v (p ^ n) hv (by rw[e2];exact Nat.le_trans (a0u h1) (by omega)) (by rw[e3];exact Nat.le_trans (a0u h2) (by omega)) hV)
 obtain⟨B,hB⟩:∃ B,c0I (p ^ n)=B:=⟨_,rfl⟩;obtain⟨E,hE⟩:∃ E,c0U (p ^ n)=E:=⟨_,rfl⟩;rw[hB,hE]at F3 HOV ⊢;clear hB hE;have HL:=hid hL;obtain⟨N1,D1,rfl,hn1',hd1⟩:=hp.ex;obtain⟨a1,c1',rfl,_⟩:=hn1'.openI;obtain⟨a2,c2',rfl,_⟩:=hd1.openI;obtain⟨k1,hk1⟩:∃ k,(limbs q.num.natAbs).length=k:=⟨_,rfl⟩;obtain⟨k2,hk2⟩:∃ k,(limbs q.den).length=k:=⟨_,rfl⟩;obtain⟨mq,hmq⟩:∃ m,decide (q.num<0)=m:=⟨_,rfl⟩;rw[hk1,hk2,hmq]at hp ⊢;have X1:=hid (Blk.new w #[.bool mq,.slice a1 k1 c1',.slice a2 k2 c2'] 94);have b1:=hid ((Below.refl w.heap.size w).alloc (Nat.le_refl _) (.cells #[.bool mq,.slice a1 k1 c1',.slice a2 k2 c2'] 94));have HP:=hid (hp.call b1.out);have r0:=X1.out.cell 0;have r1:=X1.out.cell 1;have r2:=X1.out.cell 2;have C1:=(b1.out.cell (a0k c1)).trans c1;simp at r0 r1 r2;have q0:decide (z<0)=true:=decide_eq_true (by omega);obtain⟨u,hu⟩:∃ u:Int,18446744073709551616-(n:Int)=u:=⟨_,rfl⟩;have w0:IntKind.u64.wrap z=u:=by simp[IntKind.wrap,IntKind.bits,IntKind.signed];omega
 have w1:IntKind.u64.wrap (-u)=(n:Int):=by simp[IntKind.wrap,IntKind.bits,IntKind.signed];omega
 have E1:=hid e1;have E2:=hid e2;have E3:=hid e3;have HN:=hid hn;clear hk1 hk2 hmq hn1' hd1 hp hL sp spi e1 e2 e3 c1 hn hn1 h0 hz hpq hzn hu;go_enter Tryz.func134,Tryz.ntmps134;go_wp2_with fail;refine (FS _ _ HP.out).out.mono ?_;rintro e w2 ⟨rfl,hb2⟩;have y2:=hid (a0a b1.out hb2);have X2:=hid (X1.out.call hb2);have C2:=(hb2.cell (a0k C1)).trans C1;have HP2:=hid (HP.out.call hb2);clear hb2 r0 r1 r2 C1;have r0:=X2.out.cell 0;have r1:=X2.out.cell 1;have r2:=X2.out.cell 2;simp at r0 r1 r2;go_wp2_with fail;refine (FI _ _ HP2.out).out.mono ?_;rintro e w3 ⟨⟨vi,rfl,hvi⟩,hb3⟩;have y3:=hid (a0a y2.out hb3);have X3:=hid (X2.out.call hb3);have C3:=(hb3.cell (a0k C2)).trans C2;obtain⟨N3,D3,rfl,hn3,hd3⟩:=hvi.ex;obtain⟨a3,c3,rfl,_⟩:=hn3.openI;obtain⟨a4,c4,rfl,_⟩:=hd3.openI;obtain⟨k3,hk3⟩:∃ k,(limbs p.num.natAbs).length=k:=⟨_,rfl⟩;obtain⟨k4,hk4⟩:∃ k,(limbs p.den).length=k:=⟨_,rfl⟩;obtain⟨m1,hm1⟩:∃ m,decide (p.num<0)=m:=⟨_,rfl⟩;rw[hk3,hk4,hm1]at hvi ⊢;rw[hk3]at hn3;rw[hk4]at hd3;have E1':=E1.out;rw[hm1]at E1';have E1:=hid E1';have HN3:=hid hn3;have HD3:=hid hd3;clear hb3 r0 r1 r2 C2 hk3 hk4 hm1 hvi hn3 hd3 E1';have r0:=X3.out.cell 0;have r1:=X3.out.cell 1;have r2:=X3.out.cell 2;have f0:=X3.out.free 0;have f1:=X3.out.free 1;have f2:=X3.out.free 2;simp at r0 r1 r2;obtain⟨s1,s2⟩:=c0c X3.out m1 a3 a4 k3 c3 k4 c4;have N2:=hid (s1 _ _ _ HN3.out);have D2:=hid (s1 _ _ _ HD3.out);have X0:=hid s2;have y0:Hid (Below w.heap.size w (((w3.setCell ⟨w.heap.size,0,none⟩ (.bool m1)).setCell ⟨w.heap.size,1,none⟩ (.slice a3 k3 c3)).setCell ⟨w.heap.size,2,none⟩ (.slice a4 k4 c4))):=((y3.out.setCell (Nat.le_refl _) _).setCell (Nat.le_refl _) _).setCell (Nat.le_refl _) _;clear s1 s2;go_wp2_with fail;clear f0 f1 f2;refine (F1 _ _ N2.out (HL.out.call y0.out)).out.mono ?_;rintro e w3 ⟨hr3,hb3⟩;have y3:=hid (a0a y0.out hb3);have X3:=hid (X0.out.call hb3);have D3:=hid (D2.out.call hb3);clear hb3 r0 r1 r2;have r0:=X3.out.cell 0;have r1:=X3.out.cell 1;have r2:=X3.out.cell 2;simp at r0 r1 r2;rcases hr3 with ⟨l3,v3,rfl,hv3⟩ | ⟨l3,rfl⟩
 ·obtain⟨a3,c3,rfl,_⟩:=hv3.openI;obtain⟨k3,hk3⟩:∃ k,(limbs (p.num.natAbs ^ n)).length=k:=⟨_,rfl⟩;rw[hk3]at hv3 ⊢;have V3:=hid hv3;have L3:=hid l3;clear hk3 hv3 l3;go_wp2_with fail;refine (F2 _ _ D3.out (HL.out.call y3.out)).out.mono ?_;rintro e w4 ⟨hr4,hb4⟩;have y4:=hid (a0a y3.out hb4);have X4:=hid (X3.out.call hb4);have V4:=hid (V3.out.call hb4);clear hb4 r0 r1 r2;have r0:=X4.out.cell 0;have r1:=X4.out.cell 1;have r2:=X4.out.cell 2;simp at r0 r1 r2;rcases hr4 with ⟨l4,v4,rfl,hv4⟩ | ⟨l4,rfl⟩
  ·obtain⟨a4,c4,rfl,_⟩:=hv4.openI;obtain⟨k4,hk4⟩:∃ k,(limbs (p.den ^ n)).length=k:=⟨_,rfl⟩;rw[hk4]at hv4 ⊢;have W4:=hid hv4;have L4:=hid l4;clear hk4 hv4 l4;have M:=hid (show IsQ .u64 w4 (.agg #[.bool (m1 && decide (n%2=1)),.slice a3 k3 c3,.slice a4 k4 c4]) (p ^ n) from⟨_,_,by rw[E1.out],by rw[E2.out];exact V4.out,by rw[E3.out];exact W4.out⟩);obtain⟨Q,hQ⟩:∃ Q,p ^ n=Q:=⟨_,rfl⟩;rw[hQ]at F3 M;clear hQ HOV F1 F2;have F4:=F3 _ _ M.out (HL.out.call y4.out) L3.out L4.out;cases m1
   ·simp only[Bool.false_and]at F4;go_wp2_with fail;refine F4.out.mono ?_;rintro e w5 ⟨rfl,hb5⟩;have y5:=hid (a0a y4.out hb5);clear hb5;go_wp2_with fail;go_ret2
    exact⟨rfl,y5.out⟩
   ·simp only[Bool.true_and]at F4;have e9:((n:Int)%2==1)=decide (n%2=1):=by
     rw[Bool.eq_iff_iff,beq_iff_eq,decide_eq_true_eq];omega
    rw[← e9]at F4;clear e9;go_wp2_with fail;refine F4.out.mono ?_;rintro e w5 ⟨rfl,hb5⟩;have y5:=hid (a0a y4.out hb5);clear hb5;go_wp2_with fail;go_ret2
    exact⟨rfl,y5.out⟩
  ·have e7:=hid (HOV.out (.inr l4));clear l4;go_wp2_with fail;go_ret2
   exact⟨by rw[e7.out.1,e7.out.2];rfl,y4.out⟩
 ·have e7:=hid (HOV.out (.inl l3));clear l3;go_wp2_with fail;refine (F2 _ _ D3.out (HL.out.call y3.out)).out.mono ?_;rintro e w4 ⟨hr4,hb4⟩;have y4:=hid (a0a y3.out hb4);rcases hr4 with ⟨l4,v4,rfl,hv4⟩ | ⟨l4,rfl⟩
  ·obtain⟨a4,c4,rfl,_⟩:=hv4.openI;obtain⟨k4,hk4⟩:∃ k,(limbs (p.den ^ n)).length=k:=⟨_,rfl⟩;rw[hk4];clear hk4 hv4 l4 hb4;go_wp2_with fail;go_ret2
   exact⟨by rw[e7.out.1,e7.out.2];rfl,y4.out⟩
  ·clear l4 hb4;go_wp2_with fail;go_ret2
   exact⟨by rw[e7.out.1,e7.out.2];rfl,y4.out⟩
def pnB (n:Nat)(s:ByteArray):ByteArray:=v0i (fun q=>q⁻¹ ^ n) s
def pnE (n:Nat)(s:ByteArray):Int:=v0Y (fun q=>q⁻¹ ^ n) s
theorem s0G (w:World)(s:ByteArray)(n:Nat)(z:Int)(hs:s.size≤1000000)(hq:qE s=0)(h0:vQ s≠0)(hn:n≤1000000000)(hzn:z = -(n:Int))(hL:Lay w):
 Calls Tryz.prog 63 #[.string s,.int .i64 z] w fun e w'=>e=.returned (.tuple #[.string (pnB n s),.int .i64 (pnE n s)])∧Below w.heap.size w w':=by
 by_cases hn0:n=0
 ·subst hn0;obtain rfl:z=((0:Nat):Int):=by omega
  refine (x0n w s 0 hs (by omega) hL).mono ?_;rintro e w' ⟨rfl,hb⟩;refine⟨?_,hb⟩;unfold pwB pwE pnB pnE v0i v0Y;simp only[Rat.pow_zero]
 have HL:=hid hL;have b1:=hid ((Below.refl w.heap.size w).alloc (Nat.le_refl _) (.cells #[.int .i64 z] 3));have X1:=hid (Blk.new w #[.int .i64 z] 3);obtain⟨g1,hg1⟩:∃ g,w.heap.size=g:=⟨_,rfl⟩;obtain⟨w1,hw1⟩:∃ w1,w.alloc (.cells #[.int .i64 z] 3)=w1:=⟨_,rfl⟩;have L1:=hid (HL.out.call b1.out);have b1':=b1;rw[hw1]at b1 X1 L1;rw[hg1]at X1;have W1:=hid (l0z w1 s 134 #[.pointer (some ⟨g1,0,none⟩)] (c0I ((vQ s)⁻¹ ^ n)) (c0U ((vQ s)⁻¹ ^ n)) hs L1.out (enters_of Tryz.func134 (by kernel_rfl) rfl)
  (fun W v hq hb hv hLW=>t0S W v (vQ s) n g1 z hv (e0Y hq) h0 (by omega) hn hzn hLW ((X1.out.call hb).cell 0)))
 have e1:wB (c0I ((vQ s)⁻¹ ^ n)) s=pnB n s:=rfl;have e2:wE (c0U ((vQ s)⁻¹ ^ n)) s=pnE n s:=rfl;rw[e1,e2]at W1;obtain⟨B,hB⟩:∃ B,pnB n s=B:=⟨_,rfl⟩;obtain⟨E,hE⟩:∃ E,pnE n s=E:=⟨_,rfl⟩;rw[hB,hE]at W1 ⊢;have HW:=hid hw1;have HG:=hid hg1;clear hB hE hs hL hn e1 e2 hw1 hg1 b1' hq h0 hn0 hzn;go_enter Tryz.func63,Tryz.ntmps63;go_wp2_with fail;have hw1:=HW.out;have hg1:=HG.out;rw[hw1,hg1];refine W1.out.mono ?_;rintro e w2 ⟨rfl,hb2⟩;have y2:=hid (a0a b1.out hb2);clear hb2 hw1 hg1;go_wp2_with fail;go_ret2
 exact⟨rfl,y2.out⟩
theorem f0W (x y:Int):orZ [x,y]=if x≠0 then x else y:=by
 unfold orZ;by_cases h:x=0
 ·by_cases h2:y=0<;>simp[orZ,h,h2]
 ·simp[h]
theorem g0G (w:World)(a:ByteArray)(ha:a.size≤100000)(hL:Lay w):
 Calls Tryz.prog 62 #[.string a] w fun e w'=>e=.returned (.int .i64 (g0V a))∧Below w.heap.size w w':=by
 have HR:=hid (h0q w a ha hL);unfold g0V;obtain⟨z,hz⟩:∃ z,gPE a=z:=⟨_,rfl⟩;rw[hz]at HR ⊢;by_cases c0:z=0
 ·subst c0;rw[if_neg (by simp)];by_cases ca:a=⟨#[48]⟩
  ·subst ca;rw[if_pos rfl];clear hz ha hL;go_enter Tryz.func62,Tryz.ntmps62;go_wp2_with fail;refine HR.out.mono ?_;rintro e w0 ⟨rfl,hb0⟩;go_wp2_with fail;go_ret
   exact⟨rfl,hb0⟩
  ·rw[if_neg ca];have t0:(a.toList == [48])=false:=a0J ca;clear hz ha hL ca;go_enter Tryz.func62,Tryz.ntmps62;go_wp2_with fail;refine HR.out.mono ?_;rintro e w0 ⟨rfl,hb0⟩;go_wp2_with fail;go_ret
   exact⟨rfl,hb0⟩
 ·rw[if_pos c0];have t0:(z==0)=false:=by rw[beq_eq_false_iff_ne];exact c0
  have t0':(z != 0)=true:=by simpa using c0
  clear hz c0 ha hL;go_enter Tryz.func62,Tryz.ntmps62;go_wp2_with fail;refine HR.out.mono ?_;rintro e w0 ⟨rfl,hb0⟩;go_wp2_with fail;go_ret
  exact⟨rfl,hb0⟩
theorem j0f (n:Nat)(s:ByteArray):(i0x n s).size≤10000:=by
 unfold i0x v0i
 split
 ·exact c0Y _
 ·exact Nat.zero_le _
theorem n0V (w:World)(a r:ByteArray)(reach:Int)(one:Bool)(ha:a.size≤100000)(hr:r.size≤100000)(hL:Lay w):
 Calls Tryz.prog 19 #[.string a,.string r,.int .i64 reach,.bool one] w fun e w'=>e=.returned (.tuple #[.string (o0e a r reach one),.int .i64 (v0D a r reach one)])∧Below w.heap.size w w':=by
 have HA:=hid (g0G w a ha hL);have HB:=fun V hV=>hid (g0G V r hr hV)
 have CO:=fun V v h=>hid (o0i V v [g0V a,g0V r] h)
 rw[f0W]at CO;have HL:=hid hL;unfold o0e v0D;by_cases h0:s0C a r reach=0
 ·rw[h0];simp only[ne_eq,not_true_eq_false,if_false];have h0':=h0;unfold s0C at h0'
  split at h0'
  ·rename_i h1;exact absurd h0' h1
  rename_i h1
  have h1:g0V a=0:=Classical.byContradiction h1
  split at h0'
  ·rename_i h2;exact absurd h0' h2
  rename_i h2
  have h2:g0V r=0:=Classical.byContradiction h2
  split at h0'
  ·cases h0'
  rename_i h3
  rw[if_neg (by simpa using h1)]at CO;rw[h1]at HA CO;rw[h2]at HB CO;obtain⟨hq1,-⟩:=p0g h1;obtain⟨hq2,-⟩:=p0g h2;obtain⟨m,rfl⟩:∃ m:Nat,reach=(m:Nat):=⟨reach.toNat,by omega⟩;have H1:=fun V hV=>hid (s0G V a m (-(m:Int)) (by omega) hq1 (w0p h1) (by omega) rfl hV)
  have H2:=fun V hV=>hid (s0G V r (ffM (m:Nat) one) (-((ffM (m:Nat) one:Nat):Int)) (by omega) hq2 (w0p h2) (by unfold ffM;split<;>simp<;>omega) rfl hV)
  have e1:pnB m a=i0x m a:=rfl;have e2:pnE m a=o0x m a:=rfl;have e3:pnB (ffM (m:Nat) one) r=i0x (ffM (m:Nat) one) r:=rfl;have e4:pnE (ffM (m:Nat) one) r=o0x (ffM (m:Nat) one) r:=rfl;rw[e1,e2]at H1;rw[e3,e4]at H2;have CY:=fun V v h=>hid (o0i V v [o0x m a,o0x (ffM (m:Nat) one) r] h)
  rw[f0W]at CY;have H3:=fun V hV=>hid (v0Q V (i0x m a) (i0x (ffM (m:Nat) one) r) (Nat.le_trans (j0f _ _) (by omega)) (Nat.le_trans (j0f _ _) (by omega)) hV)
  unfold v0h;rw[Int.toNat_natCast];obtain⟨M,hM⟩:∃ M,ffM (m:Nat) one=M:=⟨_,rfl⟩;have hM':M=if one=true then m else 2*m:=by rw[← hM];unfold ffM;rw[Int.toNat_natCast]
  rw[hM]at H2 H3 CY ⊢;obtain⟨X,hX⟩:∃ s,i0x m a=s:=⟨_,rfl⟩;obtain⟨Y,hY⟩:∃ s,i0x M r=s:=⟨_,rfl⟩;obtain⟨xe,hxe⟩:∃ s,o0x m a=s:=⟨_,rfl⟩;obtain⟨ye,hye⟩:∃ s,o0x M r=s:=⟨_,rfl⟩;rw[hX,hxe]at H1;rw[hY,hye]at H2;rw[hX,hY]at H3 ⊢;rw[hxe,hye]at CY ⊢;obtain⟨Z,hZ⟩:∃ s,b0b (· * ·) X Y=s:=⟨_,rfl⟩;obtain⟨ze,hze⟩:∃ s,d0b (· * ·) X Y=s:=⟨_,rfl⟩;rw[hZ,hze]at H3 ⊢;obtain⟨q,hqq⟩:∃ q,(if xe≠0 then xe else ye)=q:=⟨_,rfl⟩;rw[hqq]at CY ⊢;have hneg1:IntKind.i64.wrap (-(m:Int)) = -(m:Int):=by rw[IntWalk.i64_in _ ⟨by omega,by omega⟩]
  have hneg2:IntKind.i64.wrap (-(M:Int)) = -(M:Int):=by rw[hM'];split<;>rw[IntWalk.i64_in _ ⟨by omega,by omega⟩]
  have t1:decide ((m:Int)<0)=false:=decide_eq_false (by omega);have t2:decide ((10000:Int)<(m:Int))=false:=decide_eq_false (by omega);have t3:decide (10000<m)=false:=decide_eq_false (by omega);have hm4:m≤10000:=by omega
  clear ha hr hL h0 h0' h1 h2 h3 hq1 hq2 e1 e2 e3 e4 hM hX hY hxe hye hZ hze hqq;cases one
  case false=>
   simp only[Bool.false_eq_true,if_false]at hM';have wr2:IntKind.i64.wrap (2*(m:Int))=(M:Int):=by rw[IntWalk.i64_in _ ⟨by omega,by omega⟩];omega
   clear hM' hm4;by_cases cq:q=0
   ·subst cq;rw[if_neg (by simp),if_neg (by simp)];go_enter Tryz.func19,Tryz.ntmps19;go_wp2_with fail;refine HA.out.mono ?_;rintro e w1 ⟨rfl,hb1⟩;have y1:=hid hb1;clear hb1;go_wp2_with fail;refine (HB _ (HL.out.call y1.out)).out.mono ?_;rintro e w2 ⟨rfl,hb2⟩;have y2:=hid (a0a y1.out hb2);clear hb2;go_wp2_with fail;refine (CO _ _ (b0r _ _ _ _)).out.mono ?_;rintro e w3 ⟨rfl,rfl⟩;have y3:=hid (y2.out.alloc y2.out.size (.cells #[.int .i64 0,.int .i64 0] 27));go_wp2_with fail;refine (H1 _ (HL.out.call y3.out)).out.mono ?_;rintro e w4 ⟨rfl,hb4⟩;have y4:=hid (a0a y3.out hb4);clear hb4;go_wp2_with fail;refine (H2 _ (HL.out.call y4.out)).out.mono ?_;rintro e w5 ⟨rfl,hb5⟩;have y5:=hid (a0a y4.out hb5);clear hb5;go_wp2_with fail;refine (CY _ _ (b0r _ _ _ _)).out.mono ?_;rintro e w6 ⟨rfl,rfl⟩;have y6:=hid (y5.out.alloc y5.out.size (.cells #[.int .i64 xe,.int .i64 ye] 27));go_wp2_with fail;refine (H3 _ (HL.out.call y6.out)).out.mono ?_;rintro e w7 ⟨rfl,hb7⟩;have y7:=hid (a0a y6.out hb7);clear hb7;go_wp2_with fail;go_ret2
    exact⟨rfl,y7.out⟩
   ·rw[if_pos cq,if_pos cq];have t0:(q==0)=false:=by rw[beq_eq_false_iff_ne];exact cq
    have t0':(q != 0)=true:=by simpa using cq
    clear cq;go_enter Tryz.func19,Tryz.ntmps19;go_wp2_with fail;refine HA.out.mono ?_;rintro e w1 ⟨rfl,hb1⟩;have y1:=hid hb1;clear hb1;go_wp2_with fail;refine (HB _ (HL.out.call y1.out)).out.mono ?_;rintro e w2 ⟨rfl,hb2⟩;have y2:=hid (a0a y1.out hb2);clear hb2;go_wp2_with fail;refine (CO _ _ (b0r _ _ _ _)).out.mono ?_;rintro e w3 ⟨rfl,rfl⟩;have y3:=hid (y2.out.alloc y2.out.size (.cells #[.int .i64 0,.int .i64 0] 27));go_wp2_with fail;refine (H1 _ (HL.out.call y3.out)).out.mono ?_;rintro e w4 ⟨rfl,hb4⟩;have y4:=hid (a0a y3.out hb4);clear hb4;go_wp2_with fail;refine (H2 _ (HL.out.call y4.out)).out.mono ?_;rintro e w5 ⟨rfl,hb5⟩;have y5:=hid (a0a y4.out hb5);clear hb5;go_wp2_with fail;refine (CY _ _ (b0r _ _ _ _)).out.mono ?_;rintro e w6 ⟨rfl,rfl⟩;have y6:=hid (y5.out.alloc y5.out.size (.cells #[.int .i64 xe,.int .i64 ye] 27));go_wp2_with fail;go_ret2
    exact⟨rfl,y6.out⟩
  case true=>
   simp only[if_true]at hM';subst hM';clear hm4 hneg2;by_cases cq:q=0
   ·subst cq;rw[if_neg (by simp),if_neg (by simp)];go_enter Tryz.func19,Tryz.ntmps19;go_wp2_with fail;refine HA.out.mono ?_;rintro e w1 ⟨rfl,hb1⟩;have y1:=hid hb1;clear hb1;go_wp2_with fail;refine (HB _ (HL.out.call y1.out)).out.mono ?_;rintro e w2 ⟨rfl,hb2⟩;have y2:=hid (a0a y1.out hb2);clear hb2;go_wp2_with fail;refine (CO _ _ (b0r _ _ _ _)).out.mono ?_;rintro e w3 ⟨rfl,rfl⟩;have y3:=hid (y2.out.alloc y2.out.size (.cells #[.int .i64 0,.int .i64 0] 27));go_wp2_with fail;refine (H1 _ (HL.out.call y3.out)).out.mono ?_;rintro e w4 ⟨rfl,hb4⟩;have y4:=hid (a0a y3.out hb4);clear hb4;go_wp2_with fail;refine (H2 _ (HL.out.call y4.out)).out.mono ?_;rintro e w5 ⟨rfl,hb5⟩;have y5:=hid (a0a y4.out hb5);clear hb5;go_wp2_with fail;refine (CY _ _ (b0r _ _ _ _)).out.mono ?_;rintro e w6 ⟨rfl,rfl⟩;have y6:=hid (y5.out.alloc y5.out.size (.cells #[.int .i64 xe,.int .i64 ye] 27));go_wp2_with fail;refine (H3 _ (HL.out.call y6.out)).out.mono ?_;rintro e w7 ⟨rfl,hb7⟩;have y7:=hid (a0a y6.out hb7);clear hb7;go_wp2_with fail;go_ret2
    exact⟨rfl,y7.out⟩
   ·rw[if_pos cq,if_pos cq];have t0:(q==0)=false:=by rw[beq_eq_false_iff_ne];exact cq
    have t0':(q != 0)=true:=by simpa using cq
    clear cq;go_enter Tryz.func19,Tryz.ntmps19;go_wp2_with fail;refine HA.out.mono ?_;rintro e w1 ⟨rfl,hb1⟩;have y1:=hid hb1;clear hb1;go_wp2_with fail;refine (HB _ (HL.out.call y1.out)).out.mono ?_;rintro e w2 ⟨rfl,hb2⟩;have y2:=hid (a0a y1.out hb2);clear hb2;go_wp2_with fail;refine (CO _ _ (b0r _ _ _ _)).out.mono ?_;rintro e w3 ⟨rfl,rfl⟩;have y3:=hid (y2.out.alloc y2.out.size (.cells #[.int .i64 0,.int .i64 0] 27));go_wp2_with fail;refine (H1 _ (HL.out.call y3.out)).out.mono ?_;rintro e w4 ⟨rfl,hb4⟩;have y4:=hid (a0a y3.out hb4);clear hb4;go_wp2_with fail;refine (H2 _ (HL.out.call y4.out)).out.mono ?_;rintro e w5 ⟨rfl,hb5⟩;have y5:=hid (a0a y4.out hb5);clear hb5;go_wp2_with fail;refine (CY _ _ (b0r _ _ _ _)).out.mono ?_;rintro e w6 ⟨rfl,rfl⟩;have y6:=hid (y5.out.alloc y5.out.size (.cells #[.int .i64 xe,.int .i64 ye] 27));go_wp2_with fail;go_ret2
    exact⟨rfl,y6.out⟩
 ·rw[if_pos h0,if_pos h0];unfold s0C at h0 ⊢;obtain⟨x0,hx⟩:∃ z,g0V a=z:=⟨_,rfl⟩;obtain⟨z0,hz⟩:∃ z,g0V r=z:=⟨_,rfl⟩;rw[hx]at HA CO h0 ⊢;simp only[hz]at HB;rw[hz]at CO h0 ⊢;by_cases c0:x0=0
  case neg=>
   rw[if_pos c0]at CO ⊢;have t0:(x0==0)=false:=by rw[beq_eq_false_iff_ne];exact c0
   clear hx hz h0 c0 ha hr hL;go_enter Tryz.func19,Tryz.ntmps19;go_wp2_with fail;refine HA.out.mono ?_;rintro e w1 ⟨rfl,hb1⟩;have y1:=hid hb1;clear hb1;go_wp2_with fail;refine (HB _ (HL.out.call y1.out)).out.mono ?_;rintro e w2 ⟨rfl,hb2⟩;have y2:=hid (a0a y1.out hb2);clear hb2;go_wp2_with fail;refine (CO _ _ (b0r _ _ _ _)).out.mono ?_;rintro e w3 ⟨rfl,rfl⟩;have y3:=hid (y2.out.alloc y2.out.size (.cells #[.int .i64 x0,.int .i64 z0] 27));go_wp2_with fail;go_ret2
   exact⟨rfl,y3.out⟩
  subst c0;rw[if_neg (by simp)]at h0 CO ⊢;by_cases c2:z0=0
  case neg=>
   rw[if_pos c2];have t0:(z0==0)=false:=by rw[beq_eq_false_iff_ne];exact c2
   clear hx hz h0 c2 ha hr hL;go_enter Tryz.func19,Tryz.ntmps19;go_wp2_with fail;refine HA.out.mono ?_;rintro e w1 ⟨rfl,hb1⟩;have y1:=hid hb1;clear hb1;go_wp2_with fail;refine (HB _ (HL.out.call y1.out)).out.mono ?_;rintro e w2 ⟨rfl,hb2⟩;have y2:=hid (a0a y1.out hb2);clear hb2;go_wp2_with fail;refine (CO _ _ (b0r _ _ _ _)).out.mono ?_;rintro e w3 ⟨rfl,rfl⟩;have y3:=hid (y2.out.alloc y2.out.size (.cells #[.int .i64 0,.int .i64 z0] 27));go_wp2_with fail;go_ret2
   exact⟨rfl,y3.out⟩
  subst c2;rw[if_neg (by simp)]at h0 ⊢;by_cases c1:reach<0∨10000<reach
  ·rw[if_pos c1];obtain⟨p1,h1⟩:∃ p,decide (reach<0)=p:=⟨_,rfl⟩;obtain⟨p2,h2⟩:∃ p,decide (10000<reach)=p:=⟨_,rfl⟩;have hpq:(p1 || p2)=true:=by rw[← h1,← h2];simpa using c1
   clear hx hz h0 c1 ha hr hL;cases p1
   case true=>
    clear hpq h2;go_enter Tryz.func19,Tryz.ntmps19;go_wp2_with fail;refine HA.out.mono ?_;rintro e w1 ⟨rfl,hb1⟩;have y1:=hid hb1;clear hb1;go_wp2_with fail;refine (HB _ (HL.out.call y1.out)).out.mono ?_;rintro e w2 ⟨rfl,hb2⟩;have y2:=hid (a0a y1.out hb2);clear hb2;go_wp2_with fail;refine (CO _ _ (b0r _ _ _ _)).out.mono ?_;rintro e w3 ⟨rfl,rfl⟩;have y3:=hid (y2.out.alloc y2.out.size (.cells #[.int .i64 0,.int .i64 0] 27));go_wp2_with fail;go_ret2
    exact⟨rfl,y3.out⟩
   obtain rfl:p2=true:=by simpa using hpq
   clear hpq;go_enter Tryz.func19,Tryz.ntmps19;go_wp2_with fail;refine HA.out.mono ?_;rintro e w1 ⟨rfl,hb1⟩;have y1:=hid hb1;clear hb1;go_wp2_with fail;refine (HB _ (HL.out.call y1.out)).out.mono ?_;rintro e w2 ⟨rfl,hb2⟩;have y2:=hid (a0a y1.out hb2);clear hb2;go_wp2_with fail;refine (CO _ _ (b0r _ _ _ _)).out.mono ?_;rintro e w3 ⟨rfl,rfl⟩;have y3:=hid (y2.out.alloc y2.out.size (.cells #[.int .i64 0,.int .i64 0] 27));go_wp2_with fail;go_ret2
   exact⟨rfl,y3.out⟩
  ·rw[if_neg c1]at h0;exact absurd rfl h0
end Go.Proofs.YtlmnpocifldpmaaGreatDoor
namespace Go.Proofs.YtlmnpocifldpmaaGreatDoor
open Go.RowKit
open Go.Lib (decDigits nDigits)
structure CutR (s W B D:ByteArray)(S M I fb:Bool)(k:Nat):Prop where
 sl:∀ w,Calls Tryz.prog 197 #[.string s] w fun e w'=>e=.returned (.int .i64 k)∧w=w'
 kle:k≤s.size
 cutW:s.extract 0 k=W
 cutB:S=true→s.extract (k+1) s.size=B
 has:S=decide (k<s.size)
 int:∀ w,Calls Tryz.prog 176 #[.string W] w fun e w'=>e=.returned (.tuple #[.bool M,.string D,.bool I])∧w=w'
 form:∀ w,Calls Tryz.prog 198 #[.string B] w fun e w'=>e=.returned (.bool fb)∧w=w'
theorem u0I (s:ByteArray)(hs:s.size≤1000000):CutR s (cW s) (cB s) (iD (cW s)) (cS s) (iM (cW s)) (iB (cW s)) (fB (cB s)) (cW s).size:=by
 have key:∀ k,h0X s.data.toList k→k=(cW s).size:=by
  intro k hk;obtain⟨h1,h2,-⟩:=i0V hk;rw[h2];simp;omega
 have ex:∃ k,h0X s.data.toList k:=by
  rcases f0m s.data.toList with hn | ⟨A,B,hA,e⟩
  ·exact⟨s.data.toList.length,Nat.le_refl _,fun j b _ hb=>hn b (List.mem_of_getElem? hb),fun h=>absurd h (Nat.lt_irrefl _)⟩
  ·refine⟨A.length,by rw[e];simp,fun j b hj hb=>?_,fun _=>by rw[e];simp⟩;rw[e,List.getElem?_append_left hj]at hb;exact hA b (List.mem_of_getElem? hb)
 obtain⟨k,hk⟩:=ex;obtain⟨h1,h2,h3,h4⟩:=i0V hk;have hk':=key k hk;subst hk';exact {
  sl:=fun w=>(r0d w s (by omega)).mono (by
   rintro e w' ⟨⟨j,rfl,hj⟩,rfl⟩;rw[key j hj];exact⟨rfl,rfl⟩)
  kle:=h1
  cutW:=h2.symm
  cutB:=fun h=>(h4 (by rw[h3]at h;simpa using h)).symm
  has:=h3
  int:=fun w=>m0y w (cW s) (by have:=i0p s;omega)
  form:=fun w=>e0w w (cB s) (by have:=k0O s;omega) }
def RetR (x:Int)(m:Bool)(n d:Nat)(e:Ending)(w':World):Prop:=∃ v,e=.returned (.tuple #[v,.int .i64 x])∧(x=0→∃ N D,v=.agg #[.bool m,N,D]∧IsN .i64 w' N n∧IsN .i64 w' D d)∧(x≠0→v=.agg #[.bool false,.slice none 0 0,.slice none 0 0])
theorem RetR.err {x:Int}{m:Bool}{n d:Nat}{w':World}(h:x≠0):RetR x m n d (.returned (.tuple #[.agg #[.bool false,.slice none 0 0,.slice none 0 0],.int .i64 x])) w':=⟨_,rfl,fun e=>absurd e h,fun _=>rfl⟩
theorem v0I (w:World)(s W B D:ByteArray)(S M I fb:Bool)(k:Nat)(hs:s.size≤1000000)(HC:CutR s W B D S M I fb k)
 (h:(I && (!S || (decide (D≠⟨#[48]⟩) && fb && decide (B≠⟨#[48]⟩) && decide (B≠⟨#[49]⟩))))=false):
 Calls Tryz.prog 130 #[.string s] w fun e w'=>e=.returned (.tuple #[.agg #[.bool false,.slice none 0 0,.slice none 0 0],.int .i64 3])∧Below w.heap.size w w':=by
 have key:(I=false)∨(I=true∧S=true∧(D=⟨#[48]⟩∨(¬ D=⟨#[48]⟩∧(fb=false∨(fb=true∧(B=⟨#[48]⟩∨(¬ B=⟨#[48]⟩∧B=⟨#[49]⟩))))))):=by
  by_cases h1:D=⟨#[48]⟩<;>by_cases h2:B=⟨#[48]⟩<;>by_cases h3:B=⟨#[49]⟩<;>cases I<;>cases S<;>cases fb<;>simp[h1,h2,h3]at h ⊢
 have HK:=hid HC;have kle:=HC.kle;have hlt:=HC.has;have cw:=hid HC.cutW;have cb:=hid HC.cutB;clear HC h;have t0:=hid (Blk.new w #[.bool false,.slice none 0 0,.slice none 0 0] 100);have t1:=hid ((Below.refl w.heap.size w).alloc (Nat.le_refl _) (.cells #[.bool false,.slice none 0 0,.slice none 0 0] 100));have d0:=t0.out.cell 0;have d1:=t0.out.cell 1;have d2:=t0.out.cell 2;have e0:=t0.out.free 0;have e1:=t0.out.free 1;have e2:=t0.out.free 2;simp at d0 d1 d2;have ht:∀ {b:Bool},b=decide (k<s.size)→decide (k<s.size)=b:=fun h=>h.symm
 have wk:IntKind.i64.wrap ((k:Int)+1)=(k:Int)+1:=by rw[IntWalk.i64_in _ ⟨by omega,by omega⟩]
 have kle2:S=true→k+1≤s.size:=fun h=>by rw[h]at hlt;have:=of_decide_eq_true hlt.symm;omega
 rcases key with rfl | ⟨rfl,rfl,rfl | ⟨h1,rfl | ⟨rfl,rfl | ⟨h2,rfl⟩⟩⟩⟩
 ·cases S
  ·have q0:=ht hlt;clear hlt ht kle2;go_enter Tryz.func130,Tryz.ntmps130;go_wp2_with (first
    | (go_at_call 197;refine (HK.out.sl _).mono ?_;rintro e w1 ⟨rfl,rfl⟩)
    | (go_at_call 176;rw[cw.out];refine (HK.out.int _).mono ?_;rintro e w2 ⟨rfl,rfl⟩)
    | (go_at_call 198;(first | rw[cb.out trivial] | rw[cb.out rfl]);refine (HK.out.form _).mono ?_;rintro e w3 ⟨rfl,rfl⟩)
    | fail)
   obtain⟨s1,s2⟩:=c0c t0.out false none none 0 0 0 0;have f0:=s2.cell 0;have f1:=s2.cell 1;have f2:=s2.cell 2;simp at f0 f1 f2;refine bodyPost_ret (v:=.tuple #[.agg #[.bool false,.slice none 0 0,.slice none 0 0],.int .i64 3]) (by simp[results,Tryz.results130,go_sem,f0,f1,f2]) rfl ⟨rfl,?_⟩
   first | exact t1.out | exact ((t1.out.setCell (Nat.le_refl _) _).setCell (Nat.le_refl _) _).setCell (Nat.le_refl _) _
  ·have q0:=ht hlt;have kle3:=kle2 rfl;clear hlt ht kle2;go_enter Tryz.func130,Tryz.ntmps130;go_wp2_with (first
    | (go_at_call 197;refine (HK.out.sl _).mono ?_;rintro e w1 ⟨rfl,rfl⟩)
    | (go_at_call 176;rw[cw.out];refine (HK.out.int _).mono ?_;rintro e w2 ⟨rfl,rfl⟩)
    | (go_at_call 198;(first | rw[cb.out trivial] | rw[cb.out rfl]);refine (HK.out.form _).mono ?_;rintro e w3 ⟨rfl,rfl⟩)
    | fail)
   obtain⟨s1,s2⟩:=c0c t0.out false none none 0 0 0 0;have f0:=s2.cell 0;have f1:=s2.cell 1;have f2:=s2.cell 2;simp at f0 f1 f2;refine bodyPost_ret (v:=.tuple #[.agg #[.bool false,.slice none 0 0,.slice none 0 0],.int .i64 3]) (by simp[results,Tryz.results130,go_sem,f0,f1,f2]) rfl ⟨rfl,?_⟩
   first | exact t1.out | exact ((t1.out.setCell (Nat.le_refl _) _).setCell (Nat.le_refl _) _).setCell (Nat.le_refl _) _
 ·have q0:=ht hlt;have kle3:=kle2 rfl;clear hlt ht kle2;go_enter Tryz.func130,Tryz.ntmps130;go_wp2_with (first
   | (go_at_call 197;refine (HK.out.sl _).mono ?_;rintro e w1 ⟨rfl,rfl⟩)
   | (go_at_call 176;rw[cw.out];refine (HK.out.int _).mono ?_;rintro e w2 ⟨rfl,rfl⟩)
   | (go_at_call 198;(first | rw[cb.out trivial] | rw[cb.out rfl]);refine (HK.out.form _).mono ?_;rintro e w3 ⟨rfl,rfl⟩)
   | fail)
  obtain⟨s1,s2⟩:=c0c t0.out false none none 0 0 0 0;have f0:=s2.cell 0;have f1:=s2.cell 1;have f2:=s2.cell 2;simp at f0 f1 f2;refine bodyPost_ret (v:=.tuple #[.agg #[.bool false,.slice none 0 0,.slice none 0 0],.int .i64 3]) (by simp[results,Tryz.results130,go_sem,f0,f1,f2]) rfl ⟨rfl,?_⟩
  first | exact t1.out | exact ((t1.out.setCell (Nat.le_refl _) _).setCell (Nat.le_refl _) _).setCell (Nat.le_refl _) _
 ·have q0:=ht hlt;have kle3:=kle2 rfl;have i1:=a0J (l:=[48]) h1;clear hlt ht kle2;go_enter Tryz.func130,Tryz.ntmps130;go_wp2_with (first
   | (go_at_call 197;refine (HK.out.sl _).mono ?_;rintro e w1 ⟨rfl,rfl⟩)
   | (go_at_call 176;rw[cw.out];refine (HK.out.int _).mono ?_;rintro e w2 ⟨rfl,rfl⟩)
   | (go_at_call 198;(first | rw[cb.out trivial] | rw[cb.out rfl]);refine (HK.out.form _).mono ?_;rintro e w3 ⟨rfl,rfl⟩)
   | fail)
  obtain⟨s1,s2⟩:=c0c t0.out false none none 0 0 0 0;have f0:=s2.cell 0;have f1:=s2.cell 1;have f2:=s2.cell 2;simp at f0 f1 f2;refine bodyPost_ret (v:=.tuple #[.agg #[.bool false,.slice none 0 0,.slice none 0 0],.int .i64 3]) (by simp[results,Tryz.results130,go_sem,f0,f1,f2]) rfl ⟨rfl,?_⟩
  first | exact t1.out | exact ((t1.out.setCell (Nat.le_refl _) _).setCell (Nat.le_refl _) _).setCell (Nat.le_refl _) _
 ·have q0:=ht hlt;have kle3:=kle2 rfl;have i1:=a0J (l:=[48]) h1;clear hlt ht kle2;go_enter Tryz.func130,Tryz.ntmps130;go_wp2_with (first
   | (go_at_call 197;refine (HK.out.sl _).mono ?_;rintro e w1 ⟨rfl,rfl⟩)
   | (go_at_call 176;rw[cw.out];refine (HK.out.int _).mono ?_;rintro e w2 ⟨rfl,rfl⟩)
   | (go_at_call 198;(first | rw[cb.out trivial] | rw[cb.out rfl]);refine (HK.out.form _).mono ?_;rintro e w3 ⟨rfl,rfl⟩)
   | fail)
  obtain⟨s1,s2⟩:=c0c t0.out false none none 0 0 0 0;have f0:=s2.cell 0;have f1:=s2.cell 1;have f2:=s2.cell 2;simp at f0 f1 f2;refine bodyPost_ret (v:=.tuple #[.agg #[.bool false,.slice none 0 0,.slice none 0 0],.int .i64 3]) (by simp[results,Tryz.results130,go_sem,f0,f1,f2]) rfl ⟨rfl,?_⟩
  first | exact t1.out | exact ((t1.out.setCell (Nat.le_refl _) _).setCell (Nat.le_refl _) _).setCell (Nat.le_refl _) _
 ·have q0:=ht hlt;have kle3:=kle2 rfl;have i1:=a0J (l:=[48]) h1;have i2:=a0J (l:=[48]) h2;clear hlt ht kle2;go_enter Tryz.func130,Tryz.ntmps130;go_wp2_with (first
   | (go_at_call 197;refine (HK.out.sl _).mono ?_;rintro e w1 ⟨rfl,rfl⟩)
   | (go_at_call 176;rw[cw.out];refine (HK.out.int _).mono ?_;rintro e w2 ⟨rfl,rfl⟩)
   | (go_at_call 198;(first | rw[cb.out trivial] | rw[cb.out rfl]);refine (HK.out.form _).mono ?_;rintro e w3 ⟨rfl,rfl⟩)
   | fail)
  obtain⟨s1,s2⟩:=c0c t0.out false none none 0 0 0 0;have f0:=s2.cell 0;have f1:=s2.cell 1;have f2:=s2.cell 2;simp at f0 f1 f2;refine bodyPost_ret (v:=.tuple #[.agg #[.bool false,.slice none 0 0,.slice none 0 0],.int .i64 3]) (by simp[results,Tryz.results130,go_sem,f0,f1,f2]) rfl ⟨rfl,?_⟩
  first | exact t1.out | exact ((t1.out.setCell (Nat.le_refl _) _).setCell (Nat.le_refl _) _).setCell (Nat.le_refl _) _
theorem t0K (w:World)(s W B D:ByteArray)(S M fb:Bool)(k:Nat)(hs:s.size≤1000000)(HC:CutR s W B D S M true fb k)
 (h:S=false∨(S=true∧¬ D=⟨#[48]⟩∧¬ B=⟨#[48]⟩∧¬ B=⟨#[49]⟩∧fb=true)) (hl:4000<D.size∨(¬ 4000<D.size∧S=true∧4000<B.size)):
 Calls Tryz.prog 130 #[.string s] w fun e w'=>e=.returned (.tuple #[.agg #[.bool false,.slice none 0 0,.slice none 0 0],.int .i64 5])∧Below w.heap.size w w':=by
 have HK:=hid HC;have kle:=HC.kle;have hlt:=HC.has;have cw:=hid HC.cutW;have cb:=hid HC.cutB;clear HC;have t0:=hid (Blk.new w #[.bool false,.slice none 0 0,.slice none 0 0] 100);have t1:=hid ((Below.refl w.heap.size w).alloc (Nat.le_refl _) (.cells #[.bool false,.slice none 0 0,.slice none 0 0] 100));have wk:IntKind.i64.wrap ((k:Int)+1)=(k:Int)+1:=by rw[IntWalk.i64_in _ ⟨by omega,by omega⟩]
 have d0:=t0.out.cell 0;have d1:=t0.out.cell 1;have d2:=t0.out.cell 2;have e0:=t0.out.free 0;have e1:=t0.out.free 1;have e2:=t0.out.free 2;simp at d0 d1 d2;have kle2:S=true→k+1≤s.size:=fun h=>by rw[h]at hlt;have:=of_decide_eq_true hlt.symm;omega
 have q0:=hlt.symm;clear hlt;rcases h with rfl | ⟨rfl,h1,h2,h3,rfl⟩
 ·have q1:decide ((4000:Int)<(D.size:Int))=true:=by
   rcases hl with hl | ⟨_,hl,_⟩
   ·simp;omega
   ·cases hl
  clear hl kle2;go_enter Tryz.func130,Tryz.ntmps130;go_wp2_with (first
   | (go_at_call 197;refine (HK.out.sl _).mono ?_;rintro e w1 ⟨rfl,rfl⟩)
   | (go_at_call 176;rw[cw.out];refine (HK.out.int _).mono ?_;rintro e w2 ⟨rfl,rfl⟩)
   | (go_at_call 198;(first | rw[cb.out trivial] | rw[cb.out rfl]);refine (HK.out.form _).mono ?_;rintro e w3 ⟨rfl,rfl⟩)
   | fail)
  obtain⟨s1,s2⟩:=c0c t0.out false none none 0 0 0 0;have f0:=s2.cell 0;have f1:=s2.cell 1;have f2:=s2.cell 2;simp at f0 f1 f2;refine bodyPost_ret (v:=.tuple #[.agg #[.bool false,.slice none 0 0,.slice none 0 0],.int .i64 5]) (by simp[results,Tryz.results130,go_sem,f0,f1,f2]) rfl ⟨rfl,?_⟩
  first | exact t1.out | exact ((t1.out.setCell (Nat.le_refl _) _).setCell (Nat.le_refl _) _).setCell (Nat.le_refl _) _
 ·have kle3:=kle2 rfl;have i1:=a0J (l:=[48]) h1;have i2:=a0J (l:=[48]) h2;have i3:=a0J (l:=[49]) h3;clear kle2;rcases hl with hl | ⟨hl,-,hl2⟩
  ·have q1:decide ((4000:Int)<(D.size:Int))=true:=by simp;omega
   clear hl;go_enter Tryz.func130,Tryz.ntmps130;go_wp2_with (first
    | (go_at_call 197;refine (HK.out.sl _).mono ?_;rintro e w1 ⟨rfl,rfl⟩)
    | (go_at_call 176;rw[cw.out];refine (HK.out.int _).mono ?_;rintro e w2 ⟨rfl,rfl⟩)
    | (go_at_call 198;(first | rw[cb.out trivial] | rw[cb.out rfl]);refine (HK.out.form _).mono ?_;rintro e w3 ⟨rfl,rfl⟩)
    | fail)
   obtain⟨s1,s2⟩:=c0c t0.out false none none 0 0 0 0;have f0:=s2.cell 0;have f1:=s2.cell 1;have f2:=s2.cell 2;simp at f0 f1 f2;refine bodyPost_ret (v:=.tuple #[.agg #[.bool false,.slice none 0 0,.slice none 0 0],.int .i64 5]) (by simp[results,Tryz.results130,go_sem,f0,f1,f2]) rfl ⟨rfl,?_⟩
   first | exact t1.out | exact ((t1.out.setCell (Nat.le_refl _) _).setCell (Nat.le_refl _) _).setCell (Nat.le_refl _) _
  ·have q1:decide ((4000:Int)<(D.size:Int))=false:=by simp;omega
   have q2:decide ((4000:Int)<(B.size:Int))=true:=by simp;omega
   clear hl hl2;go_enter Tryz.func130,Tryz.ntmps130;go_wp2_with (first
    | (go_at_call 197;refine (HK.out.sl _).mono ?_;rintro e w1 ⟨rfl,rfl⟩)
    | (go_at_call 176;rw[cw.out];refine (HK.out.int _).mono ?_;rintro e w2 ⟨rfl,rfl⟩)
    | (go_at_call 198;(first | rw[cb.out trivial] | rw[cb.out rfl]);refine (HK.out.form _).mono ?_;rintro e w3 ⟨rfl,rfl⟩)
    | fail)
   obtain⟨s1,s2⟩:=c0c t0.out false none none 0 0 0 0;have f0:=s2.cell 0;have f1:=s2.cell 1;have f2:=s2.cell 2;simp at f0 f1 f2;refine bodyPost_ret (v:=.tuple #[.agg #[.bool false,.slice none 0 0,.slice none 0 0],.int .i64 5]) (by simp[results,Tryz.results130,go_sem,f0,f1,f2]) rfl ⟨rfl,?_⟩
   first | exact t1.out | exact ((t1.out.setCell (Nat.le_refl _) _).setCell (Nat.le_refl _) _).setCell (Nat.le_refl _) _
def RetRF (B:Nat)(x:Int)(m:Bool)(n d:Nat)(e:Ending)(w':World):Prop:=∃ v,e=.returned (.tuple #[v,.int .i64 x])∧(x=0→∃ N D,v=.agg #[.bool m,N,D]∧IsN .i64 w' N n∧IsN .i64 w' D d∧(∀ g,N.ownBlock=some g→B≤g)∧(∀ g,D.ownBlock=some g→B≤g))∧(x≠0→v=.agg #[.bool false,.slice none 0 0,.slice none 0 0])
theorem RetRF.err {B:Nat}{x:Int}{m:Bool}{n d:Nat}{w':World}(h:x≠0):RetRF B x m n d (.returned (.tuple #[.agg #[.bool false,.slice none 0 0,.slice none 0 0],.int .i64 x])) w':=⟨_,rfl,fun e=>absurd e h,fun _=>rfl⟩
theorem r0b (w:World)(s W B D:ByteArray)(M:Bool)(k:Nat)(hs:s.size≤1000000)(HC:CutR s W B D true M true true k)
 (h1:¬ D=⟨#[48]⟩) (h2:¬ B=⟨#[48]⟩) (h3:¬ B=⟨#[49]⟩) (hl1:¬ 4000<D.size) (hl2:¬ 4000<B.size) (hd1:allDig D.data.toList) (hd2:allDig B.data.toList):
 Calls Tryz.prog 130 #[.string s] w fun e w'=>RetRF w.heap.size (if Nat.gcd (bN D) (bN B)=1 then 0 else 3) M (bN D) (bN B) e w'∧Below w.heap.size w w':=by
 obtain⟨xc,hxc⟩:∃ x:Int,(if Nat.gcd (bN D) (bN B)=1 then 0 else 3)=x:=⟨_,rfl⟩;rw[hxc];have HXC:=hid hxc;clear hxc;have HK:=hid HC;have kle:=HC.kle;have hlt:=HC.has;have cw:=hid HC.cutW;have cb:=hid HC.cutB;clear HC;have t0:=hid (Blk.new w #[.bool false,.slice none 0 0,.slice none 0 0] 100);have t1:=hid ((Below.refl w.heap.size w).alloc (Nat.le_refl _) (.cells #[.bool false,.slice none 0 0,.slice none 0 0] 100));have wk:IntKind.i64.wrap ((k:Int)+1)=(k:Int)+1:=by rw[IntWalk.i64_in _ ⟨by omega,by omega⟩]
 have kle3:k+1≤s.size:=by have:=of_decide_eq_true hlt.symm;omega
 have q0:=hlt.symm;clear hlt;have i1:=a0J (l:=[48]) h1;have i2:=a0J (l:=[48]) h2;have i3:=a0J (l:=[49]) h3;have q1:decide ((4000:Int)<(D.size:Int))=false:=by simp;omega
 have q2:decide ((4000:Int)<(B.size:Int))=false:=by simp;omega
 have L1:=hid (e0O hd1 hl1);have L2:=hid (e0O hd2 hl2);have P1:=fun W=>hid (f0o W D hd1 (by omega))
 have P2:=fun W=>hid (f0o W B hd2 (by omega))
 clear hd1 hd2 h1 h2 h3 hl1 hl2;go_enter Tryz.func130,Tryz.ntmps130;go_wp2_with (first
  | (go_at_call 197;refine (HK.out.sl _).mono ?_;rintro e w1 ⟨rfl,rfl⟩)
  | (go_at_call 176;rw[cw.out];refine (HK.out.int _).mono ?_;rintro e w2 ⟨rfl,rfl⟩)
  | (go_at_call 198;(first | rw[cb.out trivial] | rw[cb.out rfl]);refine (HK.out.form _).mono ?_;rintro e w3 ⟨rfl,rfl⟩)
  | fail)
 refine (P1 _).out.mono ?_;rintro e w4 ⟨⟨v4,rfl,hv4,hf4⟩,hb4⟩;have F4:=hid (fun g hg=>Nat.le_trans t1.out.size (hf4 g hg));have x4:=hid (t0.out.call hb4);have y4:=hid (a0a t1.out hb4);have N4:=hid hv4;clear hb4 hv4 hf4;obtain⟨a4,c4,rfl,_⟩:=N4.out.openI;obtain⟨k1,hk1⟩:∃ k,(limbs (dv D.data.toList)).length=k:=⟨_,rfl⟩;rw[hk1]at N4 F4 ⊢;clear P1;go_wp2_with fail;refine (P2 _).out.mono ?_;rintro e w5 ⟨⟨v5,rfl,hv5,hf5⟩,hb5⟩;have F5:=hid (fun g hg=>Nat.le_trans y4.out.size (hf5 g hg));have x5:=hid (x4.out.call hb5);have y5:=hid (a0a y4.out hb5);have N5:=hid (N4.out.call hb5);have D5:=hid hv5;clear hb5 hv5 hf5;obtain⟨a5,c5,rfl,_⟩:=D5.out.openI;obtain⟨k2,hk2⟩:∃ k,(limbs (dv B.data.toList)).length=k:=⟨_,rfl⟩;rw[hk2]at D5 F5 ⊢;clear P2;go_wp2_with fail;have z5:=hid (Blk.new w5 #[.bool M,.slice a4 k1 c4,.slice a5 k2 c5] 100);have b5:=hid ((Below.refl w5.heap.size w5).alloc (Nat.le_refl _) (.cells #[.bool M,.slice a4 k1 c4,.slice a5 k2 c5] 100));have g0:=z5.out.cell 0;have g1:=z5.out.cell 1;have g2:=z5.out.cell 2;simp at g0 g1 g2;go_wp2_with fail;refine (f0R _ _ _ _ _ (N5.out.call b5.out) (D5.out.call b5.out) L1.out L2.out).mono ?_;rintro e w6 ⟨⟨v6,rfl,hv6⟩,hb6⟩;have z6:=hid (z5.out.call hb6);have x6:=hid ((x5.out.call b5.out).call hb6);have y6:=hid (a0a (a0a y5.out b5.out) hb6);have N6:=hid ((N5.out.call b5.out).call hb6);have D6:=hid ((D5.out.call b5.out).call hb6);have G6:=hid hv6;clear hb6 hv6 g0 g1 g2;go_wp2_with fail;refine (o0n _).mono ?_;rintro e w7 ⟨⟨v7,rfl,hv7⟩,hb7⟩;have z7:=hid (z6.out.call hb7);have x7:=hid (x6.out.call hb7);have y7:=hid (a0a y6.out hb7);have N7:=hid (N6.out.call hb7);have D7:=hid (D6.out.call hb7);have G7:=hid (G6.out.call hb7);have O7:=hid hv7;clear hb7 hv7;go_wp2_with fail;refine (c0E _ _ _ _ _ G7.out O7.out).mono ?_;rintro e w8 ⟨rfl,hb8⟩;have z8:=hid (z7.out.call hb8);have x8:=hid (x7.out.call hb8);have y8:=hid (a0a y7.out hb8);have N8:=hid (N7.out.call hb8);have D8:=hid (D7.out.call hb8);clear hb8;have d0:=x8.out.cell 0;have d1:=x8.out.cell 1;have d2:=x8.out.cell 2;have e0:=x8.out.free 0;have e1:=x8.out.free 1;have e2:=x8.out.free 2;have g0:=z8.out.cell 0;have g1:=z8.out.cell 1;have g2:=z8.out.cell 2;simp at d0 d1 d2 g0 g1 g2;by_cases hG:Nat.gcd (bN D) (bN B)=1
 ·have hO:b0G (Nat.gcd (dv D.data.toList) (dv B.data.toList)) 1=0:=by rw[show Nat.gcd (dv D.data.toList) (dv B.data.toList)=1 from hG];exact c0Z
  have X0:=hid (show xc=0 from by rw[← HXC.out,if_pos hG]);rw[hO];clear hO hG;go_wp2_with fail;obtain⟨s1,s2⟩:=c0c x8.out M a4 a5 k1 c4 k2 c5;have f0:=s2.cell 0;have f1:=s2.cell 1;have f2:=s2.cell 2;simp at f0 f1 f2;refine bodyPost_ret (v:=.tuple #[.agg #[.bool M,.slice a4 k1 c4,.slice a5 k2 c5],.int .i64 0]) (by simp[results,Tryz.results130,go_sem,f0,f1,f2]) rfl ⟨by rw[X0.out];exact⟨_,rfl,fun _=>⟨_,_,rfl,s1 _ _ _ N8.out,s1 _ _ _ D8.out,F4.out,F5.out⟩,fun h=>absurd rfl h⟩,?_⟩;exact ((y8.out.setCell (Nat.le_refl _) _).setCell (Nat.le_refl _) _).setCell (Nat.le_refl _) _
 ·have hO:(b0G (Nat.gcd (dv D.data.toList) (dv B.data.toList)) 1 != 0)=true:=by
   have hG':¬ Nat.gcd (dv D.data.toList) (dv B.data.toList)=1:=hG;unfold b0G
   split
   ·rfl
   ·split
    ·rfl
    ·omega
  have X0:=hid (show xc=3 from by rw[← HXC.out,if_neg hG]);obtain⟨t,ht⟩:∃ t,b0G (Nat.gcd (dv D.data.toList) (dv B.data.toList)) 1=t:=⟨_,rfl⟩;rw[ht]at hO ⊢;clear ht hG;go_wp2_with fail;obtain⟨s1,s2⟩:=c0c x8.out false none none 0 0 0 0;have f0:=s2.cell 0;have f1:=s2.cell 1;have f2:=s2.cell 2;simp at f0 f1 f2;refine bodyPost_ret (v:=.tuple #[.agg #[.bool false,.slice none 0 0,.slice none 0 0],.int .i64 3]) (by simp[results,Tryz.results130,go_sem,f0,f1,f2]) rfl ⟨by rw[X0.out];exact RetRF.err (by decide),?_⟩;exact ((y8.out.setCell (Nat.le_refl _) _).setCell (Nat.le_refl _) _).setCell (Nat.le_refl _) _
theorem t0L (w:World)(s W B D:ByteArray)(M fb:Bool)(k:Nat)(hs:s.size≤1000000)(HC:CutR s W B D false M true fb k)
 (hl1:¬ 4000<D.size) (hd1:allDig D.data.toList):
 Calls Tryz.prog 130 #[.string s] w fun e w'=>RetRF w.heap.size 0 M (bN D) 1 e w'∧Below w.heap.size w w':=by
 have HK:=hid HC;have kle:=HC.kle;have hlt:=HC.has;have cw:=hid HC.cutW;have cb:=hid HC.cutB;clear HC;have t0:=hid (Blk.new w #[.bool false,.slice none 0 0,.slice none 0 0] 100);have t1:=hid ((Below.refl w.heap.size w).alloc (Nat.le_refl _) (.cells #[.bool false,.slice none 0 0,.slice none 0 0] 100));have wk:IntKind.i64.wrap ((k:Int)+1)=(k:Int)+1:=by rw[IntWalk.i64_in _ ⟨by omega,by omega⟩]
 have q0:=hlt.symm;clear hlt;have q1:decide ((4000:Int)<(D.size:Int))=false:=by simp;omega
 have L1:=hid (e0O hd1 hl1);have L2:Hid ((limbs 1).length≤1000000):=by show _≤_;rw[d0f];decide
 have P1:=fun W=>hid (f0o W D hd1 (by omega))
 have P2:∀ W,Hid (Calls Tryz.prog 50 #[.string ⟨#[49]⟩] W fun e w'=>RetFr W.heap.size .i64 1 e w'∧Below W.heap.size W w'):=fun W=>hid (f0o W ⟨#[49]⟩ (by intro b hb;simp at hb;subst hb;rfl) (Nat.succ_le_succ (Nat.zero_le _)))
 have hO:b0G (Nat.gcd (dv D.data.toList) 1) 1=0:=by rw[Nat.gcd_one_right];exact c0Z
 have HO:=hid hO;clear hd1 hl1 hO;go_enter Tryz.func130,Tryz.ntmps130;go_wp2_with (first
  | (go_at_call 197;refine (HK.out.sl _).mono ?_;rintro e w1 ⟨rfl,rfl⟩)
  | (go_at_call 176;rw[cw.out];refine (HK.out.int _).mono ?_;rintro e w2 ⟨rfl,rfl⟩)
  | (go_at_call 198;(first | rw[cb.out trivial] | rw[cb.out rfl]);refine (HK.out.form _).mono ?_;rintro e w3 ⟨rfl,rfl⟩)
  | fail)
 refine (P1 _).out.mono ?_;rintro e w4 ⟨⟨v4,rfl,hv4,hf4⟩,hb4⟩;have F4:=hid (fun g hg=>Nat.le_trans t1.out.size (hf4 g hg));have x4:=hid (t0.out.call hb4);have y4:=hid (a0a t1.out hb4);have N4:=hid hv4;clear hb4 hv4 hf4;obtain⟨a4,c4,rfl,_⟩:=N4.out.openI;obtain⟨k1,hk1⟩:∃ k,(limbs (dv D.data.toList)).length=k:=⟨_,rfl⟩;rw[hk1]at N4 F4 ⊢;clear P1;go_wp2_with fail;refine (P2 _).out.mono ?_;rintro e w5 ⟨⟨v5,rfl,hv5,hf5⟩,hb5⟩;have F5:=hid (fun g hg=>Nat.le_trans y4.out.size (hf5 g hg));have x5:=hid (x4.out.call hb5);have y5:=hid (a0a y4.out hb5);have N5:=hid (N4.out.call hb5);have D5:=hid hv5;clear hb5 hv5 hf5;obtain⟨a5,c5,rfl,_⟩:=D5.out.openI;obtain⟨k2,hk2⟩:∃ k,(limbs 1).length=k:=⟨_,rfl⟩;rw[hk2]at D5 F5 ⊢;clear P2;go_wp2_with fail;have z5:=hid (Blk.new w5 #[.bool M,.slice a4 k1 c4,.slice a5 k2 c5] 100);have b5:=hid ((Below.refl w5.heap.size w5).alloc (Nat.le_refl _) (.cells #[.bool M,.slice a4 k1 c4,.slice a5 k2 c5] 100));have g0:=z5.out.cell 0;have g1:=z5.out.cell 1;have g2:=z5.out.cell 2;simp at g0 g1 g2;go_wp2_with fail;refine (f0R _ _ _ _ _ (N5.out.call b5.out) (D5.out.call b5.out) L1.out L2.out).mono ?_;rintro e w6 ⟨⟨v6,rfl,hv6⟩,hb6⟩;have z6:=hid (z5.out.call hb6);have x6:=hid ((x5.out.call b5.out).call hb6);have y6:=hid (a0a (a0a y5.out b5.out) hb6);have N6:=hid ((N5.out.call b5.out).call hb6);have D6:=hid ((D5.out.call b5.out).call hb6);have G6:=hid hv6;clear hb6 hv6 g0 g1 g2;go_wp2_with fail;refine (o0n _).mono ?_;rintro e w7 ⟨⟨v7,rfl,hv7⟩,hb7⟩;have z7:=hid (z6.out.call hb7);have x7:=hid (x6.out.call hb7);have y7:=hid (a0a y6.out hb7);have N7:=hid (N6.out.call hb7);have D7:=hid (D6.out.call hb7);have G7:=hid (G6.out.call hb7);have O7:=hid hv7;clear hb7 hv7;go_wp2_with fail;refine (c0E _ _ _ _ _ G7.out O7.out).mono ?_;rintro e w8 ⟨rfl,hb8⟩;have z8:=hid (z7.out.call hb8);have x8:=hid (x7.out.call hb8);have y8:=hid (a0a y7.out hb8);have N8:=hid (N7.out.call hb8);have D8:=hid (D7.out.call hb8);clear hb8;have d0:=x8.out.cell 0;have d1:=x8.out.cell 1;have d2:=x8.out.cell 2;have e0:=x8.out.free 0;have e1:=x8.out.free 1;have e2:=x8.out.free 2;have g0:=z8.out.cell 0;have g1:=z8.out.cell 1;have g2:=z8.out.cell 2;simp at d0 d1 d2 g0 g1 g2;rw[HO.out];go_wp2_with fail;obtain⟨s1,s2⟩:=c0c x8.out M a4 a5 k1 c4 k2 c5;have f0:=s2.cell 0;have f1:=s2.cell 1;have f2:=s2.cell 2;simp at f0 f1 f2;refine bodyPost_ret (v:=.tuple #[.agg #[.bool M,.slice a4 k1 c4,.slice a5 k2 c5],.int .i64 0]) (by simp[results,Tryz.results130,go_sem,f0,f1,f2]) rfl ⟨⟨_,rfl,fun _=>⟨_,_,rfl,s1 _ _ _ N8.out,s1 _ _ _ D8.out,F4.out,F5.out⟩,fun h=>absurd rfl h⟩,?_⟩;exact ((y8.out.setCell (Nat.le_refl _) _).setCell (Nat.le_refl _) _).setCell (Nat.le_refl _) _
theorem RetRF.ret {B:Nat}{x:Int}{m:Bool}{n d:Nat}{e:Ending}{w':World}(h:RetRF B x m n d e w'):RetR x m n d e w':=by
 obtain⟨v,h1,h2,h3⟩:=h;refine⟨v,h1,fun h=>?_,h3⟩;obtain⟨N,D,k1,k2,k3,-,-⟩:=h2 h;exact⟨N,D,k1,k2,k3⟩
theorem t0M (w:World)(s W B D:ByteArray)(M:Bool)(k:Nat)(hs:s.size≤1000000)(HC:CutR s W B D true M true true k)
 (h1:¬ D=⟨#[48]⟩) (h2:¬ B=⟨#[48]⟩) (h3:¬ B=⟨#[49]⟩) (hl1:¬ 4000<D.size) (hl2:¬ 4000<B.size) (hd1:allDig D.data.toList) (hd2:allDig B.data.toList):
 Calls Tryz.prog 130 #[.string s] w fun e w'=>RetR (if Nat.gcd (bN D) (bN B)=1 then 0 else 3) M (bN D) (bN B) e w'∧Below w.heap.size w w':=
 (r0b w s W B D M k hs HC h1 h2 h3 hl1 hl2 hd1 hd2).mono fun _ _ h=>⟨h.1.ret,h.2⟩
theorem v0H (w:World)(s W B D:ByteArray)(M fb:Bool)(k:Nat)(hs:s.size≤1000000)(HC:CutR s W B D false M true fb k)
 (hl1:¬ 4000<D.size) (hd1:allDig D.data.toList):
 Calls Tryz.prog 130 #[.string s] w fun e w'=>RetR 0 M (bN D) 1 e w'∧Below w.heap.size w w':=
 (t0L w s W B D M fb k hs HC hl1 hd1).mono fun _ _ h=>⟨h.1.ret,h.2⟩
theorem r0f (w:World)(s:ByteArray)(hs:s.size≤1000000):
 Calls Tryz.prog 130 #[.string s] w fun e w'=>RetR (qE s) (iM (cW s)) (bN (iD (cW s))) (bN (qD s)) e w'∧Below w.heap.size w w':=by
 have HC:=u0I s hs;by_cases hq:qB s=true
 ·have hi:=c0G hq;rw[hi]at HC;have hdD:=g0i (e0a hi);have hcS:cS s=false∨(cS s=true∧¬ iD (cW s)=⟨#[48]⟩∧¬ cB s=⟨#[48]⟩∧¬ cB s=⟨#[49]⟩∧fB (cB s)=true):=by
   have hq':=hq;unfold qB at hq';simp only[Bool.and_eq_true,Bool.or_eq_true,Bool.not_eq_true',decide_eq_true_eq]at hq';rcases hq'.2 with h | h
   ·exact .inl h
   ·cases hc:cS s
    ·exact .inl rfl
    ·exact .inr ⟨rfl,h.1.1.1,h.1.2,h.2,h.1.1.2⟩
  by_cases hl:qL s=true
  ·have e:qE s=5:=by simp[qE,hq,hl]
   rw[e];unfold qL at hl;simp only[Bool.or_eq_true,decide_eq_true_eq]at hl;refine (t0K w s _ _ _ _ _ _ _ hs HC hcS ?_).mono ?_
   ·by_cases h4:4000<(iD (cW s)).size
    ·exact .inl h4
    ·refine .inr ⟨h4,?_⟩;rcases hcS with hc | ⟨hc,-⟩
     ·rw[e0y hc]at hl;exact absurd (hl.resolve_left h4) (by decide)
     ·rw[c0F hc]at hl;exact⟨hc,hl.resolve_left h4⟩
   ·rintro e w' ⟨rfl,hb⟩;exact⟨RetR.err (by decide),hb⟩
  ·have hl':qL s=false:=by simpa using hl
   have hl1:¬ 4000<(iD (cW s)).size∧¬ 4000<(qD s).size:=by
    unfold qL at hl';simpa using hl'
   rcases hcS with hc | ⟨hc,h1,h2,h3,h4⟩
   ·rw[hc]at HC;have e:qE s=0:=by simp[qE,hq,hl',qG,hc]
    rw[e,e0y hc];exact v0H w s _ _ _ _ _ _ hs HC hl1.1 hdD
   ·rw[hc,h4]at HC;have hl2:=hl1.2;rw[c0F hc]at hl2;have e:qE s=if Nat.gcd (bN (iD (cW s))) (bN (cB s))=1 then 0 else 3:=by
     simp only[qE,hq,hl',qG,hc,c0F hc];by_cases hg:Nat.gcd (bN (iD (cW s))) (bN (cB s))=1<;>simp[hg]
    rw[e,c0F hc];exact t0M w s _ _ _ _ _ hs HC h1 h2 h3 hl1.1 hl2 hdD (g0i h4)
 ·have hq':qB s=false:=by simpa using hq
  have e:qE s=3:=by simp[qE,hq']
  rw[e];refine (v0I w s _ _ _ _ _ _ _ _ hs HC hq').mono ?_;rintro e w' ⟨rfl,hb⟩;exact⟨RetR.err (by decide),hb⟩
def RetQE (s:ByteArray)(e:Ending)(w':World):Prop:=∃ v,e=.returned (.tuple #[v,.int .i64 (qE s)])∧(qE s=0→IsQ .i64 w' v (vQ s))∧(qE s≠0→v=.agg #[.bool false,.slice none 0 0,.slice none 0 0])
theorem o0o (w:World)(s:ByteArray)(hs:s.size≤1000000):
 Calls Tryz.prog 130 #[.string s] w fun e w'=>RetQE s e w'∧Below w.heap.size w w':=by
 refine (r0f w s hs).mono ?_;rintro e w' ⟨⟨v,rfl,h1,h2⟩,hb⟩;refine⟨⟨v,rfl,fun h=>?_,h2⟩,hb⟩;obtain⟨N,D,rfl,hN,hD⟩:=h1 h;obtain⟨e1,e2,e3⟩:=n0y h;exact⟨N,D,by rw[e1],by rw[e2];exact hN,by rw[e3];exact hD⟩
end Go.Proofs.YtlmnpocifldpmaaGreatDoor
namespace Go.Proofs.YtlmnpocifldpmaaGreatDoor
open Go.RowKit
theorem o0O {q:Rat}{m:Bool}(hm:decide (q.num<0)=m):decide ((-q).num<0)=(!m && decide (0<q.num.natAbs))∧(-q).num.natAbs=q.num.natAbs∧(-q).den=q.den:=by
 refine⟨?_,by rw[Rat.neg_num,Int.natAbs_neg],Rat.neg_den q⟩;rw[Rat.neg_num,← hm,Bool.eq_iff_iff];simp only[Bool.and_eq_true,Bool.not_eq_true',decide_eq_true_eq,decide_eq_false_iff_not];omega
theorem f0O (w:World)(v:Value)(q:Rat)(h:IsQ .i64 w v q):
 Calls Tryz.prog 90 #[v] w fun e w'=>n0n .i64 (-q) e w'∧Below w.heap.size w w':=by
 obtain⟨N,D,rfl,hn,hd⟩:=h.ex;obtain⟨m,hm⟩:∃ m,decide (q.num<0)=m:=⟨_,rfl⟩;have HN:=hid hn;have HD:=hid hd;have HP:=hid (o0O hm);rw[hm];obtain⟨a1,c1,rfl,_⟩:=hn.openI;obtain⟨a2,c2,rfl,_⟩:=hd.openI;clear hn hd hm h;obtain⟨l,hl⟩:∃ l,(limbs q.num.natAbs).length=l:=⟨_,rfl⟩;have hz:decide (0<l)=decide (0<q.num.natAbs):=by
  have h1:l=0↔q.num.natAbs=0:=by rw[← hl,List.length_eq_zero_iff,b0D]
  exact decide_eq_decide.2 (by omega)
 have HZ:=hid hz;have HL:=hid hl;rw[hl];clear hz hl;go_enter Tryz.func90,Tryz.ntmps90;go_wp2_with fail
 all_goals
  obtain⟨p1,p2,p3⟩:=HP.out;rw[← HZ.out]at p1;refine bodyPost_ret (v:=.agg #[_,.slice a1 l c1,.slice a2 (limbs q.den).length c2]) (by simp[results,Tryz.results90,go_sem];rfl) rfl ⟨⟨_,rfl,⟨.slice a1 l c1,.slice a2 (limbs q.den).length c2,?_,?_,?_⟩⟩,?_⟩
  ·rw[p1];clear HP HZ HL HN HD;simp_all
  ·have hh:=HN.out;rw[HL.out]at hh;rw[p2];exact hh.call (((Below.refl w.heap.size w).alloc (Nat.le_refl _) _).alloc (by simp) _)
  ·rw[p3];exact HD.out.call (((Below.refl w.heap.size w).alloc (Nat.le_refl _) _).alloc (by simp) _)
  ·exact (((Below.refl w.heap.size w).alloc (Nat.le_refl _) _).alloc (by simp) _)
end Go.Proofs.YtlmnpocifldpmaaGreatDoor
