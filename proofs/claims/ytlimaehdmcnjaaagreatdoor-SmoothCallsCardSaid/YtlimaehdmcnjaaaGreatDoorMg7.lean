/- Texts that the proof rests on, merged: Sy0, Lasts, So4, QC, FrC, Ins, So5, ShL, Last2, So6, So11, Sy1, Rt2, Flo, Rd0. -/
import Derived.Test.YtlimaehdmcnjaaaGreatDoorMg6
import Derived.Deep.DeepCutAuto
import Derived.Shelf.Small.Bits
import Derived.Ground.NamesProg
import Derived.Test.YtlimaehdmcnjaaaGreatDoorProg
set_option linter.unusedVariables false
set_option linter.unusedSimpArgs false
set_option linter.unusedSectionVars false
set_option maxRecDepth 100000
set_option maxHeartbeats 8000000
namespace Go.Proofs.YtlimaehdmcnjaaaGreatDoor
open Go.RowKit
open Go.Lib (decDigits nDigits)
def e0A (l:List ByteArray):Bool:=l.all (fun s=>decide (s.size≤20)) && decide (l.length≤12)
structure VL (K:Nat)(l:List ByteArray):Prop where
 q:∀ s∈l,qE s=0
 sz:∀ s∈l,s.size≤K
 pos:0<l.length
 le:l.length≤12
theorem VL.dig {K:Nat}{l:List ByteArray}(h:VL K l)(hK:1≤K):∀ q∈l.map vQ,Dig K q:=by
 intro q hq;obtain⟨s,hs,rfl⟩:=List.mem_map.1 hq;exact i0X (h.q s hs) (h.sz s hs) hK
def vD (l:List ByteArray):Nat:=dnP (l.map vQ)
theorem i0g (l:List ByteArray):0<vD l:=l0Z _
theorem VL.vD_le {K:Nat}{l:List ByteArray}(h:VL K l)(hK:1≤K):vD l≤10 ^ (12*K):=by
 refine Nat.le_trans (o0t (h.dig hK)) (Nat.pow_le_pow_right (by omega) ?_);rw[List.length_map,Nat.mul_comm];exact Nat.mul_le_mul_right _ h.le
theorem q0B {l:List ByteArray}(h:∀ s∈l,qE s=0):∀ (i:Nat) (s:ByteArray) (q:Rat),l[i]?=some s→(l.map vQ)[i]?=some q→Tx s q:=by
 intro i s q h1 h2;rw[List.getElem?_map,h1]at h2;simp at h2;subst h2;exact Tx.of (h s (List.mem_of_getElem? h1))
theorem VL.tx {K:Nat}{l:List ByteArray}(h:VL K l)(hK:1≤K):TxL (vD l) (10 ^ K) l (l.map vQ):=
 ⟨by simp,q0B h.q,fun q hq=>(h.dig hK q hq).dn.dvd (i0g l) (m0a hq)⟩
theorem o0k {B D a b K:Nat}(hB:B≤10 ^ a)(hD:D≤10 ^ b)(h:a+b<K):(B+1)*D<10 ^ K:=by
 have h1:0<10 ^ a:=Nat.pow_pos (by omega);have h2:0<10 ^ b:=Nat.pow_pos (by omega);refine Nat.lt_of_le_of_lt (Nat.mul_le_mul (Nat.add_le_add_right hB 1) hD) (Nat.lt_of_lt_of_le ?_ (Nat.pow_le_pow_right (by omega) (show a+1+b≤K by omega)));rw[Nat.pow_add,Nat.pow_succ];exact Nat.mul_lt_mul_of_pos_right (by omega) h2
theorem f0R {B C a b:Nat}(hB:B≤10 ^ a)(hC:C≤10 ^ b):B*C≤10 ^ (a+b):=by
 rw[Nat.pow_add];exact Nat.mul_le_mul hB hC
theorem m0A {B C a:Nat}(hB:B≤10 ^ a)(hC:C≤10 ^ a):B+C≤10 ^ (a+1):=by
 have h1:0<10 ^ a:=Nat.pow_pos (by omega);rw[Nat.pow_succ];omega
theorem o0a {B a b:Nat}(hB:B≤10 ^ a)(h:a≤b):B≤10 ^ b:=Nat.le_trans hB (Nat.pow_le_pow_right (by omega) h)
theorem n12 {n:Nat}(h:n≤12):n≤10 ^ 2:=by omega
end Go.Proofs.YtlimaehdmcnjaaaGreatDoor
namespace Go.Proofs.YtlimaehdmcnjaaaGreatDoor
open Go.RowKit
variable {P : Program} {Q : Exit → Act → World → Prop}
def c0D (P:Program)(ops:Array Oper)(Q:Exit→Act→World→Prop)(rest:List Oper):Exit→Act→World→Prop
 | .normal,a,w=>wpList P ops Q rest a w
 | e,a,w=>Q e a w
theorem f0O {md:Region.Mode}{ops:Array Oper}:∀ (fuel:Nat) (listed:Array Bool) (a:Act) (w:World),wpAny P md ops (a0o Q) fuel listed a w→wpAny P md ops Q fuel listed a w:=by
 intro fuel
 induction fuel with
 | zero=>exact fun _ _ _ h=>h
 | succ fuel ih=>
  rintro listed a w ⟨h1,h2⟩;refine⟨h1,fun i hi=>?_⟩;have h:=h2 i hi;unfold wpOp at h ⊢
  split at h
  ·rename_i ho
   exact ih _ _ _ h
  ·rename_i o ho
   split at h
   ·rename_i hw
    rw[if_pos hw];rcases h with h | ⟨_,a',w',h⟩
    ·exact .inl (e0j (fun a w h=>ih _ _ _ h) (fun _ _ _ h=>h.elim) (fun ⟨_,_,h⟩=>h.elim) h)
    ·exact h.elim
   ·rename_i hw
    rw[if_neg hw];exact ih _ _ _ h
theorem n0r {ops:Array Oper}{oz:Oper}{Q':Exit→Act→World→Prop}{a:Act}{w:World}(hB:f0e ops oz=true)
 (hP:∀ c a w,Q' (.panic c) a w→Q (.panic c) a w) (hL:LetsOut Q'→LetsOut Q) (hN:∀ a w,Q' .normal a w→oz.wp P a w (fun a w=>Q .normal a w) Q∨(oz.asks P a w∧LetsOut Q))
 (h:wpAny P .any ops Q' ops.size (Array.replicate ops.size false) a w):wpAny P .any (ops.push oz) Q (ops.push oz).size (Array.replicate (ops.push oz).size false) a w:=by
 simp only[f0e,Bool.and_eq_true,List.all_eq_true,List.any_eq_true,List.mem_range,decide_eq_true_eq,Option.isNone_iff_eq_none,Array.mem_toList_iff]at hB;obtain⟨⟨⟨⟨h1,h2⟩,h3⟩,h4⟩,h5⟩:=hB;have hl:=j0i (P:=P) (md:=.any) (ops:=ops) (oz:=oz) (fun i o ho=>h1 o (Array.mem_of_getElem? ho)) h2 (fun e he _=>h3 e he)
  (fun i hi=>by
   obtain⟨e,he,hb,hon⟩:=h4 i hi;refine⟨e,he,hb,?_⟩;simp only[Bool.or_eq_true,beq_iff_eq]at hon;refine hon.imp (fun h=>h) fun hx=>?_
   split at hx
   ·rename_i o ho
    simp only[List.any_eq_true,Bool.and_eq_true,beq_iff_eq,Array.mem_toList_iff]at hx;obtain⟨f,hf,hfb,hfo⟩:=hx;exact⟨o,ho,f,hf,hfb,hfo⟩
   ·cases hx)
  (fun i o ho e he _=>by
   have:=h5 i (Array.getElem?_eq_some_iff.1 ho).1;rw[ho]at this;simp only[List.all_eq_true,Array.mem_toList_iff,decide_eq_true_eq]at this;exact this e he) hP hL hN ops.size (Array.replicate ops.size false) a w (by simp) (fun j o _ hj=>by simp[Array.getD]at hj) h
 have hr:Array.replicate (ops.push oz).size false=(Array.replicate ops.size false).push false:=by
  rw[Array.size_push];exact Array.replicate_succ
 rw[hr,Array.size_push];exact hl
def i0J (l:List Oper):Nat→Nat→Bool
 | 0,_=>true
 | k+1,n=>(match l[n]? with | some oz=>f0e (l.take n).toArray oz | none=>false) && i0J l k (n+1)
theorem h0j (l:List Oper){a:Act}{w:World}:∀ (k n:Nat),n+k=l.length→i0J l k n=true →
 wpAny P .any (l.take n).toArray (c0D P l.toArray Q (l.drop n)) (l.take n).toArray.size (Array.replicate (l.take n).toArray.size false) a w →
 wpAny P .any l.toArray Q l.toArray.size (Array.replicate l.toArray.size false) a w
 | 0,n,hn,_,h=>by
  have e1:l.take n=l:=List.take_of_length_le (by omega);have e2:l.drop n = []:=List.drop_of_length_le (by omega);have e3:c0D P l.toArray Q []=Q:=by
   funext e a w
   cases e<;>simp[c0D,wpList]
  rw[e1,e2,e3]at h;exact h
 | k+1,n,hn,hB,h=>by
  simp only[i0J,Bool.and_eq_true]at hB;obtain⟨h1,h2⟩:=hB;have hlt:n<l.length:=by omega
  rw[List.getElem?_eq_getElem hlt]at h1;have e1:l.take (n+1)=l.take n ++ [l[n]]:=List.take_succ_eq_append_getElem hlt;have e2:l.drop n=l[n]::l.drop (n+1):=List.drop_eq_getElem_cons hlt;refine h0j l k (n+1) (by omega) h2 ?_;have e3:(l.take (n+1)).toArray=(l.take n).toArray.push l[n]:=by rw[e1];simp
  rw[e3];have hgz:l[n].guard=none:=by
   simp only[f0e,Bool.and_eq_true,Option.isNone_iff_eq_none]at h1;exact h1.1.1.1.2
  refine n0r h1 (Q':=c0D P l.toArray Q (l.drop n)) (fun _ _ _ h=>h) (fun ⟨a,w,h⟩=>⟨a,w,h⟩) (fun a w hq=>?_) h;have hq':wpList P l.toArray Q (l.drop n) a w:=hq;rw[e2]at hq';unfold wpList at hq';have hw:Region.wanted l[n] (yielded l.toArray a.tmps)=true:=by simp[Region.wanted,hgz]
  rw[if_pos hw]at hq';rcases hq' with hq' | ⟨h3,h4⟩
  ·exact .inl (e0j (fun _ _ h=>h) (fun _ _ _ h=>h) (fun ⟨a,w,h⟩=>⟨a,w,h⟩) hq')
  ·exact .inr ⟨h3,by obtain⟨a,w,h⟩:=h4;exact⟨a,w,h⟩⟩
theorem f0q {id:Nat}{a:Act}{w:World}{l:List Oper}(n k:Nat)(is:List Nat)(g:Nat)(S:World→Prop)(hm:P.follows .mixedOrders=true)(hk:n+k=l.length)(hlast:i0J l k n=true)(hsel:Region.noSelect (l.take n).toArray=true)(hg:g+is.length=(l.take n).toArray.size)(hB:g0G .any (l.take n).toArray is (Array.replicate (l.take n).toArray.size false)=true)(hS:S w.drew)
 (h:c0V P (l.take n) S (fun a'=>wpAnyH P .any (l.take n).toArray (a0o (c0D P l.toArray Q (l.drop n))) S g (j0p is (Array.replicate (l.take n).toArray.size false)) a' w.drew) is a):(Code.region id l.toArray true).wp P Q a w:=by
 refine wp_region_any hm (h0j l k n hk hlast ?_);have h2:=b0T (P:=P) (md:=.any) (Q:=c0D P l.toArray Q (l.drop n)) (S:=S) hsel (g:=g) hS is (Array.replicate (l.take n).toArray.size false) a hB h;rw[hg]at h2;exact f0O _ _ _ _ (wpAny_of_held (S:=S) _ _ _ _ h2)
end Go.Proofs.YtlimaehdmcnjaaaGreatDoor
namespace Go.Proofs.YtlimaehdmcnjaaaGreatDoor
open Go.RowKit
open Go.Shelf
open Go.Lib (decDigits nDigits)
def d0j (X v:List Rat)(i:Nat):List Rat:=X.take i++v.drop i
theorem f0S (X v:List Rat):d0j X v 0=v:=by simp[d0j]
theorem h0K {X v:List Rat}(h:X.length=v.length):d0j X v v.length=X:=by simp[d0j,List.take_of_length_le (Nat.le_of_eq h)]
theorem h0J {X v:List Rat}(h:X.length=v.length)(i:Nat):(d0j X v i).length=v.length:=by
 unfold d0j;rw[List.length_append,List.length_take,List.length_drop];omega
theorem g0L {X v:List Rat}{i:Nat}{q:Rat}(h:X.length=v.length)(hq:v[i]?=some q):(d0j X v i)[i]?=some q:=by
 have hi:=(List.getElem?_eq_some_iff.1 hq).1;unfold d0j;rw[List.getElem?_append_right (by rw[List.length_take];omega),List.length_take,Nat.min_eq_left (by omega),Nat.sub_self,List.getElem?_drop,Nat.add_zero];exact hq
theorem e0x {X v:List Rat}{i:Nat}{x:Rat}(h:X.length=v.length)(hx:X[i]?=some x):(d0j X v i).set i x=d0j X v (i+1):=by
 have hi:=(List.getElem?_eq_some_iff.1 hx).1;unfold d0j;rw[List.set_append_right _ _ (by rw[List.length_take];omega),List.length_take,Nat.min_eq_left (by omega),Nat.sub_self,List.take_add_one,hx,Option.toList_some];have hd:v.drop i=v[i]::v.drop (i+1):=List.drop_eq_getElem_cons (by omega);rw[hd,List.set_cons_zero,List.append_assoc];rfl
theorem g0x (w:World)(v:Value)(l:List ByteArray)(t:ByteArray)(hv:Row w v (a0T l))(hs:∀ s∈l,s.size≤1000000)(ht:t.size≤1000000)(hL:Lay w):
 Calls Tryz.prog 29 #[v,.string t] w fun e w'=>(∃ u,e=.returned (.tuple #[u,.int .i64 (cnE l t)])∧Row w' u (a0T (cnR l t)))∧Below w.heap.size w w':=by
 have HB:=hid (k0A w v l t hv hs ht hL);have HL:=hid hL;obtain⟨a,c,rfl,-,-,-⟩:=hv.openS;obtain⟨N,hN⟩:∃ n,l.length=n:=⟨_,rfl⟩;rw[hN]at HB ⊢;by_cases h0:btE l t=0
 case neg=>
  have e1:cnE l t=btE l t:=by unfold cnE;rw[if_neg h0]
  have e2:cnR l t = []:=by unfold cnR;rw[if_neg h0]
  have t2:(btE l t==0)=false:=by simpa using h0
  have t3:(btE l t != 0)=true:=by simpa using h0
  rw[e1,e2];obtain⟨E,hE⟩:∃ x,btE l t=x:=⟨_,rfl⟩;rw[hE]at HB t2 t3 ⊢;clear hv hs hL hN h0 hE e1 e2 ht;go_enter Tryz.func29,Tryz.ntmps29;go_wp2_with fail;refine HB.out.mono ?_;rintro e w1 ⟨⟨u,f,rfl,⟨m1,a1,n1,c1,a2,n2,c2,rfl⟩,-⟩,hb1⟩;have y1:=hid hb1;have y2:=hid (y1.out.alloc y1.out.size (.cells #[.bool m1,.slice a1 n1 c1,.slice a2 n2 c2] 57));clear hb1;go_wp2_with fail;go_ret2
  exact⟨⟨.slice none 0 0,rfl,Row.nil _⟩,y2.out⟩
 case pos=>
  have hve:a0O l=0:=by
   unfold btE at h0
   split at h0
   ·assumption
   ·rename_i h1;exact absurd h0 h1
  have hqt:qE t=0:=by unfold btE at h0;rw[if_pos hve]at h0;exact h0
  have e1:cnE l t=wrE (cnQ (l.map vQ) (vQ t)):=by unfold cnE;rw[if_pos h0]
  have e2:cnR l t=wrL (cnQ (l.map vQ) (vQ t)):=by unfold cnR;rw[if_pos h0]
  obtain⟨g1,g2,-⟩:=c0e hve;have hdq:=e0O hve;have hlen:(l.map vQ).length=N:=by rw[List.length_map,hN]
  rw[e1,e2];rw[h0]at HB;obtain⟨qs,hqs⟩:∃ qs,l.map vQ=qs:=⟨_,rfl⟩;obtain⟨tt,htt⟩:∃ x,vQ t=x:=⟨_,rfl⟩;have dt:Dig 4000 tt:=by rw[← htt];exact i0Y hqt
  rw[hqs,htt]at HB ⊢;rw[hqs]at hdq hlen;have dS:Dig 300000 (rs qs):=(d0P (K:=4000) hdq).up (by omega);have dT:Dig 304001 (tt-rs qs):=(c0o dt dS).up (by omega);have dN:Dig 2 ((N:Nat):Rat):=⟨by rw[Rat.num_natCast];simp;omega,by rw[Rat.den_natCast];omega⟩;have hN0:((N:Nat):Rat)≠0:=b0N (by omega);have dM:Dig 304003 ((tt-rs qs) / ((N:Nat):Rat)):=by rw[Rat.div_def];exact (g0i dT (e0P hN0 dN)).up (by omega)
  have lS:=Lim.of dS (by omega);have lT:=Lim.of dT (by omega);have lt:=Lim.of dt (by omega);have lN:=Lim.of dN (by omega);have lM:=Lim.of dM (by omega);have HSm:=fun V v h=>hid (o0N V w.heap.size v qs h (by omega) hdq)
  have HSub:=fun V v u hv hu=>hid (j0O V v u tt (rs qs) hv hu lt.1 lt.2 lS.1 lS.2)
  have HSl:=fun V=>hid (e0m V N (by omega))
  have HDv:=fun V v u hv hu=>hid (p0S V v u (tt-rs qs) ((N:Nat):Rat) hv hu hN0 lT.1 lT.2 lN.1 lN.2)
  obtain⟨mo,hmo⟩:∃ x,(tt-rs qs) / ((N:Nat):Rat)=x:=⟨_,rfl⟩;have hX:cnQ qs tt=qs.map (fun a=>a+mo):=by unfold cnQ;rw[hlen,hmo]
  rw[hmo]at HDv lM dM;rw[hX];obtain⟨X,hXX⟩:∃ X,qs.map (fun a=>a+mo)=X:=⟨_,rfl⟩;have hXl:X.length=qs.length:=by rw[← hXX,List.length_map]
  have HXat:=hid (fun (i:Nat) (q:Rat) (h:qs[i]?=some q)=>show X[i]?=some (q+mo) by rw[← hXX,List.getElem?_map,h];rfl)
  have HLX:=hid (fun (q:Rat) (h:q∈X)=>show Lim q by
   rw[← hXX]at h;obtain⟨p,hp,rfl⟩:=List.mem_map.1 h;exact Lim.of ((e0Q (hdq p hp) dM).up (L:=308004) (by omega)) (by omega))
  have HADD:=fun V v u q (hq:q∈qs) hv hu=>hid (l0P V v u q mo hv hu (Lim.of (hdq q hq) (by omega)).1 (Lim.of (hdq q hq) (by omega)).2 lM.1 lM.2)
  have HWR:=fun V v h hV=>hid (h0q V w.heap.size v X h (by omega) HLX.out hV)
  rw[hXX];have HXl:=hid hXl;have HN:=hid hlen;have HNN:=hid (show 0<N∧N≤64 by omega);clear hv hs hL hN h0 e1 e2 ht hve hqt g1 g2 hdq hlen hqs htt dt dS dT dN hN0 dM lS lT lt lN lM hmo hX hXX hXl;go_enter Tryz.func29,Tryz.ntmps29;go_wp2_with fail;refine HB.out.mono ?_;rintro e w1 ⟨⟨u,f,rfl,⟨m1,a1,n1,c1,a2,n2,c2,rfl⟩,hu⟩,hb1⟩;obtain⟨hu1,hu2⟩:=hu (by simp);have A1:=hid ((Below.refl w1.heap.size w1).alloc (Nat.le_refl _) (.cells #[.bool m1,.slice a1 n1 c1,.slice a2 n2 c2] 57));have y1:=hid (a0a hb1 A1.out);have RV0:=hid (hu1.call A1.out);have QT:=hid (hu2.call A1.out);have XT:=hid (Blk.new w1 #[.bool m1,.slice a1 n1 c1,.slice a2 n2 c2] 57);obtain⟨W,hW⟩:∃ W,w1.alloc (.cells #[.bool m1,.slice a1 n1 c1,.slice a2 n2 c2] 57)=W:=⟨_,rfl⟩;obtain⟨g7,hg7⟩:∃ g,w1.heap.size=g:=⟨_,rfl⟩;obtain⟨av,cv,rfl,-,-⟩:=hu1.slice;have RV:=RV0;rw[hW]at y1 RV QT XT;rw[hg7]at XT;rw[HN.out]at RV;obtain⟨q0,hq0⟩:∃ q,qs[0]?=some q:=⟨_,List.getElem?_eq_getElem (by rw[HN.out];exact HNN.out.1)⟩;obtain⟨gv,-,-,-,-,-,-,-,rfl,hgB,hgv,-⟩:=RV.out.at hq0;have HGV:=hid hgv;have KK:Hid (∀ V,Below W.heap.size W V→V.cell? ⟨g7,0,none⟩=some (.bool m1)∧V.cell? ⟨g7,1,none⟩=some (.slice a1 n1 c1)∧V.cell? ⟨g7,2,none⟩=some (.slice a2 n2 c2)):=fun V hV=>
   ⟨(XT.out.call hV).cell 0,(XT.out.call hV).cell 1,(XT.out.call hV).cell 2⟩
  have HGB:=hid hgB;clear hb1 hu hu1 hu2 RV0 A1 hq0 hgB hgv
  go_upto_region 4 with fail
  try rw[hW]
  try rw[hg7]
  rw[HN.out];clear hW hg7
  go_cut [9] (fun s9 wx=>∃ g:Nat,s9=.pointer (some ⟨g,0,none⟩)∧Hid (W.heap.size≤g)∧Hid (FB wx g mo)∧Hid (Below W.heap.size W wx))
  case first=>
   refine a0f [0,1,4,5] 6 (fun V=>V.cell? ⟨g7,0,none⟩=some (.bool m1)∧V.cell? ⟨g7,1,none⟩=some (.slice a1 n1 c1)∧V.cell? ⟨g7,2,none⟩=some (.slice a2 n2 c2)) (by kernel_rfl) (by kernel_rfl) (by kernel_rfl) (by kernel_rfl) (KK.out _ (Below.refl _ _).drew) ?_
   iterate 4
    refine⟨_,rfl,?_⟩;apply Exists.intro
    refine⟨.inl ⟨by rfl,?_⟩,?_⟩
    ·(intro W' hW';obtain⟨z1,z2,z3⟩:=hW';go_simp;try (with_reducible rfl))
    (dsimp only[Act.put];try simp only[List.setIfInBounds_toArray,List.set_cons_zero,List.set_cons_succ])
   obtain⟨V0,hV0⟩:∃ x,W.drew=x:=⟨_,rfl⟩;have BV0:=hid (show Below W.heap.size W V0 by rw[← hV0];exact (Below.refl _ _).drew);rw[hV0];clear hV0;refine a0k (i:=2) (j:=8) (by kernel_rfl) (by rfl) (by rfl) (by rfl) (by rfl) ?_ ?_
   ·skip
    go_wp2_with fail;refine (HSm V0 _ (RV.out.call BV0.out)).out.mono ?_;rintro e V1 ⟨⟨u1,rfl,hv⟩,hb⟩;obtain⟨mS,aS,nS,cS,bS,dS,eS,rfl⟩:=hv.qv;have BV1:=hid (a0a BV0.out hb);have CS:=hid hv;clear hb hv;go_wp2_with fail;refine⟨KK.out _ BV1.out,?_⟩;refine a0k (i:=3) (j:=8) (by kernel_rfl) (by rfl) (by rfl) (by rfl) (by rfl) ?_ ?_
    ·skip
     go_wp2_with fail;refine (HSub V1 _ _ (QT.out.call BV1.out) CS.out).out.mono ?_;rintro e V2 ⟨⟨u2,rfl,hv⟩,hb⟩;obtain⟨mT,aT,nT,cT,bT,dT,eT,rfl⟩:=hv.qv;have BV2:=hid (a0a BV1.out hb);have CS:=hid (CS.out.call hb);have CT:=hid hv;clear hb hv;go_wp2_with fail;refine⟨KK.out _ BV2.out,?_⟩;refine a0k (i:=6) (j:=8) (by kernel_rfl) (by rfl) (by rfl) (by rfl) (by rfl) ?_ ?_
     ·skip
      go_wp2_with fail;refine (HSl V2).out.mono ?_;rintro e V3 ⟨⟨u3,rfl,hv⟩,hb⟩;obtain⟨mN,aN,nN,cN,bN,dN,eN,rfl⟩:=hv.qv;have BV3:=hid (a0a BV2.out hb);have CS:=hid (CS.out.call hb);have CT:=hid (CT.out.call hb);have CN:=hid hv;clear hb hv;go_wp2_with fail;refine⟨KK.out _ BV3.out,?_⟩;refine a0k (i:=7) (j:=8) (by kernel_rfl) (by rfl) (by rfl) (by rfl) (by rfl) ?_ ?_
      ·skip
       go_wp2_with fail;refine (HDv V3 _ _ CT.out CN.out).out.mono ?_;rintro e V4 ⟨⟨u4,rfl,hv⟩,hb⟩;obtain⟨mM,aM,nM,cM,bM,dM,eM,rfl⟩:=hv.qv;have BV4:=hid (a0a BV3.out hb);have CS:=hid (CS.out.call hb);have CT:=hid (CT.out.call hb);have CN:=hid (CN.out.call hb);have CM:=hid hv;clear hb hv;go_wp2_with fail;refine⟨KK.out _ BV4.out,?_⟩;refine a0b (i:=8) (by kernel_rfl) (by rfl) (by rfl) ?_;go_wp2_with fail;obtain⟨V5,hV⟩:∃ x,V4.alloc (.cells #[.bool false,.slice none 0 0,.slice none 0 0] 57)=x:=⟨_,rfl⟩;have hb:Below V4.heap.size V4 V5:=by rw[← hV];exact (Below.refl _ _).alloc (Nat.le_refl _) _
       have XM:=hid (show Blk V5 V4.heap.size #[.bool false,.slice none 0 0,.slice none 0 0] 57 by rw[← hV];exact Blk.new _ _ _);have BV5:=hid (a0a BV4.out hb);have GM:=hid (show W.heap.size≤V4.heap.size from BV4.out.size);have CS:=hid (CS.out.call hb);have CT:=hid (CT.out.call hb);have CN:=hid (CN.out.call hb);have CM:=hid (CM.out.call hb);rw[hV];clear hb hV;refine⟨KK.out _ BV5.out,?_⟩;refine a0b (i:=9) (by kernel_rfl) (by rfl) (by rfl) ?_;have r0:=XM.out.cell 0;have r1:=XM.out.cell 1;have r2:=XM.out.cell 2;have f0:=XM.out.free 0;have f1:=XM.out.free 1;have f2:=XM.out.free 2;simp at r0 r1 r2;have FBM:=hid (FB.put XM.out CM.out);have BV6:=hid (((BV5.out.setCell (p:=⟨V4.heap.size,0,none⟩) GM.out (.bool mM)).setCell (p:=⟨V4.heap.size,1,none⟩) GM.out (.slice aM nM cM)).setCell (p:=⟨V4.heap.size,2,none⟩) GM.out (.slice bM dM eM));have KP:=hid (a0X XM.out mM aM bM nM cM dM eM);have CS:=hid (KP.out.isQ CS.out);have CT:=hid (KP.out.isQ CT.out);have CN:=hid (KP.out.isQ CN.out);clear KP;go_wp2_with fail;refine⟨KK.out _ BV6.out,?_⟩;refine wpAnyH_done (by kernel_rfl) ?_ _;simp only[a0o];go_wp2_with fail
       go_meet
       exact⟨_,rfl,GM,FBM,BV6⟩
      ·skip
       go_wp2_with fail;obtain⟨V7,hV⟩:∃ x,V3.alloc (.cells #[.bool false,.slice none 0 0,.slice none 0 0] 57)=x:=⟨_,rfl⟩;have hb:Below V3.heap.size V3 V7:=by rw[← hV];exact (Below.refl _ _).alloc (Nat.le_refl _) _
       have XM:=hid (show Blk V7 V3.heap.size #[.bool false,.slice none 0 0,.slice none 0 0] 57 by rw[← hV];exact Blk.new _ _ _);have BV7:=hid (a0a BV3.out hb);have GM:=hid (show W.heap.size≤V3.heap.size from BV3.out.size);have CS:=hid (CS.out.call hb);have CT:=hid (CT.out.call hb);have CN:=hid (CN.out.call hb);rw[hV];clear hb hV;refine⟨KK.out _ BV7.out,?_⟩;refine a0b (i:=7) (by kernel_rfl) (by rfl) (by rfl) ?_;go_wp2_with fail;refine (HDv V7 _ _ CT.out CN.out).out.mono ?_;rintro e V8 ⟨⟨u8,rfl,hv⟩,hb⟩;obtain⟨mM,aM,nM,cM,bM,dM,eM,rfl⟩:=hv.qv;have BV8:=hid (a0a BV7.out hb);have CS:=hid (CS.out.call hb);have CT:=hid (CT.out.call hb);have CN:=hid (CN.out.call hb);have XM:=hid (XM.out.call hb);have CM:=hid hv;clear hb hv;go_wp2_with fail;refine⟨KK.out _ BV8.out,?_⟩;refine a0b (i:=9) (by kernel_rfl) (by rfl) (by rfl) ?_;have r0:=XM.out.cell 0;have r1:=XM.out.cell 1;have r2:=XM.out.cell 2;have f0:=XM.out.free 0;have f1:=XM.out.free 1;have f2:=XM.out.free 2;simp at r0 r1 r2;have FBM:=hid (FB.put XM.out CM.out);have BV9:=hid (((BV8.out.setCell (p:=⟨V3.heap.size,0,none⟩) GM.out (.bool mM)).setCell (p:=⟨V3.heap.size,1,none⟩) GM.out (.slice aM nM cM)).setCell (p:=⟨V3.heap.size,2,none⟩) GM.out (.slice bM dM eM));have KP:=hid (a0X XM.out mM aM bM nM cM dM eM);have CS:=hid (KP.out.isQ CS.out);have CT:=hid (KP.out.isQ CT.out);have CN:=hid (KP.out.isQ CN.out);clear KP;go_wp2_with fail;refine⟨KK.out _ BV9.out,?_⟩;refine wpAnyH_done (by kernel_rfl) ?_ _;simp only[a0o];go_wp2_with fail
       go_meet
       exact⟨_,rfl,GM,FBM,BV9⟩
     ·skip
      go_wp2_with fail;obtain⟨V10,hV⟩:∃ x,V2.alloc (.cells #[.bool false,.slice none 0 0,.slice none 0 0] 57)=x:=⟨_,rfl⟩;have hb:Below V2.heap.size V2 V10:=by rw[← hV];exact (Below.refl _ _).alloc (Nat.le_refl _) _
      have XM:=hid (show Blk V10 V2.heap.size #[.bool false,.slice none 0 0,.slice none 0 0] 57 by rw[← hV];exact Blk.new _ _ _);have BV10:=hid (a0a BV2.out hb);have GM:=hid (show W.heap.size≤V2.heap.size from BV2.out.size);have CS:=hid (CS.out.call hb);have CT:=hid (CT.out.call hb);rw[hV];clear hb hV;refine⟨KK.out _ BV10.out,?_⟩;refine a0b (i:=6) (by kernel_rfl) (by rfl) (by rfl) ?_;go_wp2_with fail;refine (HSl V10).out.mono ?_;rintro e V11 ⟨⟨u11,rfl,hv⟩,hb⟩;obtain⟨mN,aN,nN,cN,bN,dN,eN,rfl⟩:=hv.qv;have BV11:=hid (a0a BV10.out hb);have CS:=hid (CS.out.call hb);have CT:=hid (CT.out.call hb);have XM:=hid (XM.out.call hb);have CN:=hid hv;clear hb hv;go_wp2_with fail;refine⟨KK.out _ BV11.out,?_⟩;refine a0b (i:=7) (by kernel_rfl) (by rfl) (by rfl) ?_;go_wp2_with fail;refine (HDv V11 _ _ CT.out CN.out).out.mono ?_;rintro e V12 ⟨⟨u12,rfl,hv⟩,hb⟩;obtain⟨mM,aM,nM,cM,bM,dM,eM,rfl⟩:=hv.qv;have BV12:=hid (a0a BV11.out hb);have CS:=hid (CS.out.call hb);have CT:=hid (CT.out.call hb);have CN:=hid (CN.out.call hb);have XM:=hid (XM.out.call hb);have CM:=hid hv;clear hb hv;go_wp2_with fail;refine⟨KK.out _ BV12.out,?_⟩;refine a0b (i:=9) (by kernel_rfl) (by rfl) (by rfl) ?_;have r0:=XM.out.cell 0;have r1:=XM.out.cell 1;have r2:=XM.out.cell 2;have f0:=XM.out.free 0;have f1:=XM.out.free 1;have f2:=XM.out.free 2;simp at r0 r1 r2;have FBM:=hid (FB.put XM.out CM.out);have BV13:=hid (((BV12.out.setCell (p:=⟨V2.heap.size,0,none⟩) GM.out (.bool mM)).setCell (p:=⟨V2.heap.size,1,none⟩) GM.out (.slice aM nM cM)).setCell (p:=⟨V2.heap.size,2,none⟩) GM.out (.slice bM dM eM));have KP:=hid (a0X XM.out mM aM bM nM cM dM eM);have CS:=hid (KP.out.isQ CS.out);have CT:=hid (KP.out.isQ CT.out);have CN:=hid (KP.out.isQ CN.out);clear KP;go_wp2_with fail;refine⟨KK.out _ BV13.out,?_⟩;refine wpAnyH_done (by kernel_rfl) ?_ _;simp only[a0o];go_wp2_with fail
      go_meet
      exact⟨_,rfl,GM,FBM,BV13⟩
    ·skip
     go_wp2_with fail;obtain⟨V14,hV⟩:∃ x,V1.alloc (.cells #[.bool false,.slice none 0 0,.slice none 0 0] 57)=x:=⟨_,rfl⟩;have hb:Below V1.heap.size V1 V14:=by rw[← hV];exact (Below.refl _ _).alloc (Nat.le_refl _) _
     have XM:=hid (show Blk V14 V1.heap.size #[.bool false,.slice none 0 0,.slice none 0 0] 57 by rw[← hV];exact Blk.new _ _ _);have BV14:=hid (a0a BV1.out hb);have GM:=hid (show W.heap.size≤V1.heap.size from BV1.out.size);have CS:=hid (CS.out.call hb);rw[hV];clear hb hV;refine⟨KK.out _ BV14.out,?_⟩;refine a0b (i:=3) (by kernel_rfl) (by rfl) (by rfl) ?_;go_wp2_with fail;refine (HSub V14 _ _ (QT.out.call BV14.out) CS.out).out.mono ?_;rintro e V15 ⟨⟨u15,rfl,hv⟩,hb⟩;obtain⟨mT,aT,nT,cT,bT,dT,eT,rfl⟩:=hv.qv;have BV15:=hid (a0a BV14.out hb);have CS:=hid (CS.out.call hb);have XM:=hid (XM.out.call hb);have CT:=hid hv;clear hb hv;go_wp2_with fail;refine⟨KK.out _ BV15.out,?_⟩;refine a0b (i:=6) (by kernel_rfl) (by rfl) (by rfl) ?_;go_wp2_with fail;refine (HSl V15).out.mono ?_;rintro e V16 ⟨⟨u16,rfl,hv⟩,hb⟩;obtain⟨mN,aN,nN,cN,bN,dN,eN,rfl⟩:=hv.qv;have BV16:=hid (a0a BV15.out hb);have CS:=hid (CS.out.call hb);have CT:=hid (CT.out.call hb);have XM:=hid (XM.out.call hb);have CN:=hid hv;clear hb hv;go_wp2_with fail;refine⟨KK.out _ BV16.out,?_⟩;refine a0b (i:=7) (by kernel_rfl) (by rfl) (by rfl) ?_;go_wp2_with fail;refine (HDv V16 _ _ CT.out CN.out).out.mono ?_;rintro e V17 ⟨⟨u17,rfl,hv⟩,hb⟩;obtain⟨mM,aM,nM,cM,bM,dM,eM,rfl⟩:=hv.qv;have BV17:=hid (a0a BV16.out hb);have CS:=hid (CS.out.call hb);have CT:=hid (CT.out.call hb);have CN:=hid (CN.out.call hb);have XM:=hid (XM.out.call hb);have CM:=hid hv;clear hb hv;go_wp2_with fail;refine⟨KK.out _ BV17.out,?_⟩;refine a0b (i:=9) (by kernel_rfl) (by rfl) (by rfl) ?_;have r0:=XM.out.cell 0;have r1:=XM.out.cell 1;have r2:=XM.out.cell 2;have f0:=XM.out.free 0;have f1:=XM.out.free 1;have f2:=XM.out.free 2;simp at r0 r1 r2;have FBM:=hid (FB.put XM.out CM.out);have BV18:=hid (((BV17.out.setCell (p:=⟨V1.heap.size,0,none⟩) GM.out (.bool mM)).setCell (p:=⟨V1.heap.size,1,none⟩) GM.out (.slice aM nM cM)).setCell (p:=⟨V1.heap.size,2,none⟩) GM.out (.slice bM dM eM));have KP:=hid (a0X XM.out mM aM bM nM cM dM eM);have CS:=hid (KP.out.isQ CS.out);have CT:=hid (KP.out.isQ CT.out);have CN:=hid (KP.out.isQ CN.out);clear KP;go_wp2_with fail;refine⟨KK.out _ BV18.out,?_⟩;refine wpAnyH_done (by kernel_rfl) ?_ _;simp only[a0o];go_wp2_with fail
     go_meet
     exact⟨_,rfl,GM,FBM,BV18⟩
   ·skip
    go_wp2_with fail;obtain⟨V19,hV⟩:∃ x,V0.alloc (.cells #[.bool false,.slice none 0 0,.slice none 0 0] 57)=x:=⟨_,rfl⟩;have hb:Below V0.heap.size V0 V19:=by rw[← hV];exact (Below.refl _ _).alloc (Nat.le_refl _) _
    have XM:=hid (show Blk V19 V0.heap.size #[.bool false,.slice none 0 0,.slice none 0 0] 57 by rw[← hV];exact Blk.new _ _ _);have BV19:=hid (a0a BV0.out hb);have GM:=hid (show W.heap.size≤V0.heap.size from BV0.out.size);rw[hV];clear hb hV;refine⟨KK.out _ BV19.out,?_⟩;refine a0b (i:=2) (by kernel_rfl) (by rfl) (by rfl) ?_;go_wp2_with fail;refine (HSm V19 _ (RV.out.call BV19.out)).out.mono ?_;rintro e V20 ⟨⟨u20,rfl,hv⟩,hb⟩;obtain⟨mS,aS,nS,cS,bS,dS,eS,rfl⟩:=hv.qv;have BV20:=hid (a0a BV19.out hb);have XM:=hid (XM.out.call hb);have CS:=hid hv;clear hb hv;go_wp2_with fail;refine⟨KK.out _ BV20.out,?_⟩;refine a0b (i:=3) (by kernel_rfl) (by rfl) (by rfl) ?_;go_wp2_with fail;refine (HSub V20 _ _ (QT.out.call BV20.out) CS.out).out.mono ?_;rintro e V21 ⟨⟨u21,rfl,hv⟩,hb⟩;obtain⟨mT,aT,nT,cT,bT,dT,eT,rfl⟩:=hv.qv;have BV21:=hid (a0a BV20.out hb);have CS:=hid (CS.out.call hb);have XM:=hid (XM.out.call hb);have CT:=hid hv;clear hb hv;go_wp2_with fail;refine⟨KK.out _ BV21.out,?_⟩;refine a0b (i:=6) (by kernel_rfl) (by rfl) (by rfl) ?_;go_wp2_with fail;refine (HSl V21).out.mono ?_;rintro e V22 ⟨⟨u22,rfl,hv⟩,hb⟩;obtain⟨mN,aN,nN,cN,bN,dN,eN,rfl⟩:=hv.qv;have BV22:=hid (a0a BV21.out hb);have CS:=hid (CS.out.call hb);have CT:=hid (CT.out.call hb);have XM:=hid (XM.out.call hb);have CN:=hid hv;clear hb hv;go_wp2_with fail;refine⟨KK.out _ BV22.out,?_⟩;refine a0b (i:=7) (by kernel_rfl) (by rfl) (by rfl) ?_;go_wp2_with fail;refine (HDv V22 _ _ CT.out CN.out).out.mono ?_;rintro e V23 ⟨⟨u23,rfl,hv⟩,hb⟩;obtain⟨mM,aM,nM,cM,bM,dM,eM,rfl⟩:=hv.qv;have BV23:=hid (a0a BV22.out hb);have CS:=hid (CS.out.call hb);have CT:=hid (CT.out.call hb);have CN:=hid (CN.out.call hb);have XM:=hid (XM.out.call hb);have CM:=hid hv;clear hb hv;go_wp2_with fail;refine⟨KK.out _ BV23.out,?_⟩;refine a0b (i:=9) (by kernel_rfl) (by rfl) (by rfl) ?_;have r0:=XM.out.cell 0;have r1:=XM.out.cell 1;have r2:=XM.out.cell 2;have f0:=XM.out.free 0;have f1:=XM.out.free 1;have f2:=XM.out.free 2;simp at r0 r1 r2;have FBM:=hid (FB.put XM.out CM.out);have BV24:=hid (((BV23.out.setCell (p:=⟨V0.heap.size,0,none⟩) GM.out (.bool mM)).setCell (p:=⟨V0.heap.size,1,none⟩) GM.out (.slice aM nM cM)).setCell (p:=⟨V0.heap.size,2,none⟩) GM.out (.slice bM dM eM));have KP:=hid (a0X XM.out mM aM bM nM cM dM eM);have CS:=hid (KP.out.isQ CS.out);have CT:=hid (KP.out.isQ CT.out);have CN:=hid (KP.out.isQ CN.out);clear KP;go_wp2_with fail;refine⟨KK.out _ BV24.out,?_⟩;refine wpAnyH_done (by kernel_rfl) ?_ _;simp only[a0o];go_wp2_with fail
    go_meet
    exact⟨_,rfl,GM,FBM,BV24⟩
  case rest=>
   obtain⟨g9,rfl,hg9,hF,hBc⟩:=hcut;obtain⟨wq,hwq⟩:∃ x,x=wc:=⟨_,rfl⟩;subst hwq;have yq:=hid (a0a y1.out hBc.out);have RQ:=hid (RV.out.call hBc.out);go_wp2_with fail
   go_loopw [10,31] (fun s10 s31 wr=>∃ i:Nat,s31=.int .i64 (i:Nat)∧i≤N∧Hid (VRow w.heap.size wr (.slice (some ⟨gv,0,none⟩) N cv) (d0j X qs i))∧Hid (FB wr g9 mo)∧Hid (Below w.heap.size w wr)) (fun s10 s31 wr=>N-(intOf s31).toNat)
   case atStart=>exact⟨0,rfl,Nat.zero_le _,by rw[f0S];exact RQ,hF,yq⟩
   case round=>
    obtain⟨i,rfl,hi,hR,hF',hB'⟩:=hrel;by_cases hlt:i<N
    ·obtain⟨q,hq⟩:∃ q,qs[i]?=some q:=⟨_,List.getElem?_eq_getElem (by rw[HN.out];exact hlt)⟩;obtain⟨g',mq,aq,nq,cq,aq',nq',cq',e,-,-,k0,k1,k2,hQQ⟩:=hR.out.at (g0L HXl.out hq);obtain rfl:gv=g':=by simpa using e
     obtain⟨m5,a5,n5,c5,a6,n6,c6,hb5,hq5⟩:=hF'.out;have KK2:Hid (∀ V,Below wr.heap.size wr V→V.cell? ⟨gv,i*3,none⟩=some (.bool mq)∧V.cell? ⟨gv,i*3+1,none⟩=some (.slice aq nq cq)∧V.cell? ⟨gv,i*3+2,none⟩=some (.slice aq' nq' cq')∧V.cell? ⟨g9,0,none⟩=some (.bool m5)∧V.cell? ⟨g9,1,none⟩=some (.slice a5 n5 c5)∧V.cell? ⟨g9,2,none⟩=some (.slice a6 n6 c6)):=fun V hV=>
      ⟨(hV.cell (p:=⟨gv,i*3,none⟩) (a0z k0)).trans k0,(hV.cell (p:=⟨gv,i*3+1,none⟩) (a0z k1)).trans k1,(hV.cell (p:=⟨gv,i*3+2,none⟩) (a0z k2)).trans k2,(hb5.call hV).cell 0,(hb5.call hV).cell 1,(hb5.call hV).cell 2⟩
     have QV:=hid hQQ;have Q5:=hid hq5;have QM:=hid (List.mem_of_getElem? hq);have HXi:=hid (HXat.out i q hq);have f1:(0:Int)≤(i:Int):=by omega
     have f2:(i:Int)<(N:Int):=by omega
     have wi:IntKind.i64.wrap ((i:Int)+1)=((i+1:Nat):Int):=by have:=HNN.out;rw[IntWalk.i64_in _ ⟨by omega,by omega⟩];omega
     have HLT:=hid hlt;clear hq e k0 k1 k2 hQQ hb5 hq5 hlt hi;go_wp2_with fail;refine f0q 8 2 [0,1,2,3,4,5,6] 1 (fun V=>V.cell? ⟨gv,i*3,none⟩=some (.bool mq)∧V.cell? ⟨gv,i*3+1,none⟩=some (.slice aq nq cq)∧V.cell? ⟨gv,i*3+2,none⟩=some (.slice aq' nq' cq')∧V.cell? ⟨g9,0,none⟩=some (.bool m5)∧V.cell? ⟨g9,1,none⟩=some (.slice a5 n5 c5)∧V.cell? ⟨g9,2,none⟩=some (.slice a6 n6 c6)) (by kernel_rfl) rfl (by kernel_rfl) (by kernel_rfl) (by kernel_rfl) (by kernel_rfl) (KK2.out _ (Below.refl _ _).drew) ?_
     iterate 7
      refine⟨_,rfl,?_⟩;apply Exists.intro
      refine⟨.inl ⟨by rfl,?_⟩,?_⟩
      ·(intro W' hW';obtain⟨z1,z2,z3,z4,z5,z6⟩:=hW';go_simp;try (with_reducible rfl))
      (dsimp only[Act.put];try simp only[List.setIfInBounds_toArray,List.set_cons_zero,List.set_cons_succ])
     refine a0b (i:=7) (by kernel_rfl) (by rfl) (by rfl) ?_;go_wp2_with fail;refine (HADD _ _ _ q QM.out (QV.out.call (Below.refl _ _).drew) (Q5.out.call (Below.refl _ _).drew)).out.mono ?_;rintro e w6 ⟨⟨v6,rfl,hv6⟩,hb6⟩;obtain⟨m7,a7,n7,c7,a8,n8,c8,rfl⟩:=hv6.qv;have x6:=hid (show Below wr.heap.size wr w6 from (Below.refl _ _).drew.trans hb6);have V6:=hid hv6;clear hb6 hv6;go_wp2_with fail;refine⟨KK2.out _ x6.out,?_⟩;refine wpAnyH_done (by kernel_rfl) ?_ _;simp only[a0o,c0D,List.drop_succ_cons,List.drop_zero];have R6:=hid (hR.out.call x6.out);obtain⟨z1,z2,z3,-⟩:=KK2.out _ x6.out;have f3:=R6.out.free (i*3);have f4:=R6.out.free (i*3+1);have f5:=R6.out.free (i*3+2);obtain⟨P1,P2⟩:=R6.out.put (i:=i) (by rw[h0J HXl.out,HN.out];exact HLT.out) V6.out;rw[e0x HXl.out HXi.out]at P1;have R7:=hid P1;have hne:g9≠gv:=by have:=HGV.out;have:=hg9.out;omega
     have F7:=hid ((hF'.out.call x6.out).keep P2 (by rw[Below.heap_setCell _ _ _ _ hne,Below.heap_setCell _ _ _ _ hne,Below.heap_setCell _ _ _ _ hne]));have B7:=hid ((((a0a hB'.out x6.out).setCell (p:=⟨gv,i*3,none⟩) HGB.out (.bool m7)).setCell (p:=⟨gv,i*3+1,none⟩) HGB.out (.slice a7 n7 c7)).setCell (p:=⟨gv,i*3+2,none⟩) HGB.out (.slice a8 n8 c8));clear P1 P2 hne;go_wp2_with fail
     try simp only[a0o]
     try go_wp2_with fail
     go_roundw
     case rel=>exact⟨i+1,by go_num,by have:=HLT.out;omega,R7,F7,B7⟩
     case measure=>simp[intOf]<;>(have:=HLT.out;omega)
    ·obtain rfl:i=N:=by omega
     have q9:decide ((i:Int)<(i:Int))=false:=by simp
     have RE:=hid (show VRow w.heap.size wr (.slice (some ⟨gv,0,none⟩) i cv) X by have h:=hR.out;rw[show d0j X qs i=X by rw[← HN.out];exact h0K HXl.out]at h;exact h);clear hlt hi hR;go_wp2_with fail;refine (HWR _ _ RE.out (HL.out.call hB'.out)).out.mono ?_;rintro e w8 ⟨⟨u,rfl,hu⟩,hb8⟩;have y8:=hid (a0a hB'.out hb8);have U8:=hid hu;clear hb8 hu;go_wp2_with fail;go_ret2
     exact⟨⟨_,rfl,U8.out⟩,y8.out⟩
end Go.Proofs.YtlimaehdmcnjaaaGreatDoor
namespace Go.Proofs.YtlimaehdmcnjaaaGreatDoor
open Go.RowKit
def cmF (p q:Rat):Int:=if sgQ p≠sgQ q then sgQ p-sgQ q else if p.num<0 then -b0e (p.num.natAbs*q.den) (q.num.natAbs*p.den) else b0e (p.num.natAbs*q.den) (q.num.natAbs*p.den)
theorem g0t {q:Rat}{d:Nat}(hd:0<d):sgQ q=j0Y (q.num*(d:Int)):=by
 have hd':(0:Int)<(d:Int):=by omega
 unfold sgQ j0Y;by_cases h0:q.num=0
 ·rw[if_pos h0,h0,Int.zero_mul,if_pos rfl]
 ·rw[if_neg h0];have hne:q.num*(d:Int)≠0:=Int.mul_ne_zero h0 (by omega);rw[if_neg hne];by_cases h1:q.num<0
  ·rw[if_pos h1,if_pos (Int.mul_neg_of_neg_of_pos h1 hd')]
  ·rw[if_neg h1,if_neg (by have:=Int.mul_pos (a:=q.num) (b:=(d:Int)) (by omega) hd';omega)]
theorem m0n {P Q:Int}{a b:Nat}(ha:P.natAbs=a)(hb:Q.natAbs=b):
 max (-1) (min 1 (if j0Y P≠j0Y Q then j0Y P-j0Y Q else if P<0 then -b0e a b else b0e a b))=j0Y (P-Q):=by
 unfold j0Y b0e
 split<;>(repeat' split)<;>omega
theorem m0m (p q:Rat):max (-1) (min 1 (cmF p q))=d0V p q:=by
 have e1:d0V p q=j0Y (p.num*q.den-q.num*p.den):=by
  have h:=p0q (a:=p.num) (b:=p.den) (c:=q.num) (d:=q.den) p.den_nz q.den_nz;rw[Rat.mkRat_self,Rat.mkRat_self]at h;exact h
 have h1:=g0t (q:=p) (d:=q.den) q.den_pos;have h2:=g0t (q:=q) (d:=p.den) p.den_pos;have hP:(p.num*(q.den:Int)).natAbs=p.num.natAbs*q.den:=by rw[Int.natAbs_mul,Int.natAbs_natCast]
 have hQ:(q.num*(p.den:Int)).natAbs=q.num.natAbs*p.den:=by rw[Int.natAbs_mul,Int.natAbs_natCast]
 have hs:p.num<0↔p.num*(q.den:Int)<0:=by
  have hd:(0:Int)<(q.den:Int):=by have:=q.den_pos;omega
  constructor
  ·intro h;exact Int.mul_neg_of_neg_of_pos h hd
  ·intro h;rcases Int.lt_or_le p.num 0 with h' | h'
   ·exact h'
   ·exact absurd (Int.mul_nonneg h' (Int.le_of_lt hd)) (by omega)
 rw[e1,← m0n hP hQ,← h1,← h2];unfold cmF;simp only[hs]
theorem g0k (p q:Rat):(0<cmF p q↔0<d0V p q)∧(cmF p q<0↔d0V p q<0)∧(cmF p q=0↔d0V p q=0):=by
 have:=m0m p q;omega
theorem o0d (q:Rat) : -1≤sgQ q∧sgQ q≤1:=by
 unfold sgQ
 split
 ·omega
 ·split<;>omega
theorem p0r (a b:Nat) : -1≤b0e a b∧b0e a b≤1:=by
 unfold b0e
 split
 ·omega
 ·split<;>omega
theorem l0O (w:World)(v u:Value)(p q:Rat)(hp:IsQ .u64 w v p)(hq:IsQ .u64 w u q)
 (h1:(limbs p.num.natAbs).length≤100000) (h2:(limbs p.den).length≤100000) (h3:(limbs q.num.natAbs).length≤100000) (h4:(limbs q.den).length≤100000):
 Calls Tryz.prog 42 #[v,u] w fun e w'=>e=.returned (.int .i64 (cmF p q))∧Below w.heap.size w w':=by
 have PS1:=fun V v h=>hid (i0T V v p h)
 have PS2:=fun V v h=>hid (i0T V v q h)
 have PM1:=fun V v u hv hu=>hid (h0Q V v u p.num.natAbs q.den hv hu (Nat.le_trans h1 (by omega)) (Nat.le_trans h4 (by omega)))
 have PM2:=fun V v u hv hu=>hid (h0Q V v u q.num.natAbs p.den hv hu (Nat.le_trans h3 (by omega)) (Nat.le_trans h2 (by omega)))
 have lx:=d0E h1 h4;have PC:=fun V v u hv hu=>hid (l0s V v u (p.num.natAbs*q.den) (q.num.natAbs*p.den) hv hu (Nat.le_trans lx (by omega)))
 have bp:=o0d p;have bq:=o0d q;have bo:=p0r (p.num.natAbs*q.den) (q.num.natAbs*p.den);obtain⟨Z,hZ⟩:∃ z,cmF p q=z:=⟨_,rfl⟩;rw[hZ];unfold cmF at hZ;obtain⟨s1,hs1⟩:∃ z,sgQ p=z:=⟨_,rfl⟩;obtain⟨s2,hs2⟩:∃ z,sgQ q=z:=⟨_,rfl⟩;obtain⟨oc,hoc⟩:∃ z,b0e (p.num.natAbs*q.den) (q.num.natAbs*p.den)=z:=⟨_,rfl⟩;rw[hs1]at PS1 bp hZ;rw[hs2]at PS2 bq hZ;rw[hoc]at PC bo hZ;have HZ:=hid hZ;have HP:=hid hp;have HQ:=hid hq;obtain⟨N1,D1,rfl,hn1,hd1⟩:=hp.ex;obtain⟨N2,D2,rfl,hn2,hd2⟩:=hq.ex;have HN1:=hid hn1;have HD1:=hid hd1;have HN2:=hid hn2;have HD2:=hid hd2;obtain⟨a1,c1,rfl,_⟩:=hn1.openI;obtain⟨a2,c2,rfl,_⟩:=hd1.openI;obtain⟨a3,c3,rfl,_⟩:=hn2.openI;obtain⟨a4,c4,rfl,_⟩:=hd2.openI;obtain⟨k1,hk1⟩:∃ k,(limbs p.num.natAbs).length=k:=⟨_,rfl⟩;obtain⟨k2,hk2⟩:∃ k,(limbs p.den).length=k:=⟨_,rfl⟩;obtain⟨k3,hk3⟩:∃ k,(limbs q.num.natAbs).length=k:=⟨_,rfl⟩;obtain⟨k4,hk4⟩:∃ k,(limbs q.den).length=k:=⟨_,rfl⟩;obtain⟨m1,hm1⟩:∃ m,decide (p.num<0)=m:=⟨_,rfl⟩;obtain⟨m2,hm2⟩:∃ m,decide (q.num<0)=m:=⟨_,rfl⟩;rw[hk1]at HN1;rw[hk2]at HD1;rw[hk3]at HN2;rw[hk4]at HD2;rw[hk1,hk2,hm1]at HP ⊢;rw[hk3,hk4,hm2]at HQ ⊢;have HM1:Hid ((p.num<0)↔m1=true):=by rw[← hm1];simp[Hid]
 clear hZ hk1 hk2 hk3 hk4 hm1 hm2 hn1 hn2 hd1 hd2 hp hq h1 h2 h3 h4 lx hs1 hs2 hoc;have W12:IntKind.i64.wrap (s1-s2)=s1-s2:=IntWalk.i64_in _ ⟨by omega,by omega⟩;have WO:IntKind.i64.wrap (-oc) = -oc:=IntWalk.i64_in _ ⟨by omega,by omega⟩;clear bp bq bo;go_enter Tryz.func42,Tryz.ntmps42;go_wp2_with fail;obtain⟨W,hW⟩:∃ W,(w.alloc (.cells #[.bool m1,.slice a1 k1 c1,.slice a2 k2 c2] 57)).alloc (.cells #[.bool m2,.slice a3 k3 c3,.slice a4 k4 c4] 57)=W:=⟨_,rfl⟩;have Y0:Blk W w.heap.size #[.bool m1,.slice a1 k1 c1,.slice a2 k2 c2] 57:=by rw[← hW];exact (Blk.new w _ _).alloc _
 have Y1:Blk W (w.heap.size+1) #[.bool m2,.slice a3 k3 c3,.slice a4 k4 c4] 57:=by rw[← hW];exact Blk.made _ _ _ (by simp)
 have y0:Below w.heap.size w W:=by rw[← hW];exact ((Below.refl _ _).alloc (Nat.le_refl _) _).alloc (by simp) _
 rw[hW];have KK:Hid (∀ w',Below W.heap.size W w'→w'.cell? ⟨w.heap.size,0,none⟩=some (.bool m1)∧w'.cell? ⟨w.heap.size,1,none⟩=some (.slice a1 k1 c1)∧w'.cell? ⟨w.heap.size,2,none⟩=some (.slice a2 k2 c2)∧w'.cell? ⟨w.heap.size+1,0,none⟩=some (.bool m2)∧w'.cell? ⟨w.heap.size+1,1,none⟩=some (.slice a3 k3 c3)∧w'.cell? ⟨w.heap.size+1,2,none⟩=some (.slice a4 k4 c4)):=fun w' hb=>
  ⟨(Y0.call hb).cell 0,(Y0.call hb).cell 1,(Y0.call hb).cell 2,(Y1.call hb).cell 0,(Y1.call hb).cell 1,(Y1.call hb).cell 2⟩
 have Q1:=hid (HP.out.call y0);have Q2:=hid (HQ.out.call y0);have N1':=hid (HN1.out.call y0);have D1':=hid (HD1.out.call y0);have N2':=hid (HN2.out.call y0);have D2':=hid (HD2.out.call y0);have HY:=hid y0;clear Y0 Y1 y0 hW HN1 HD1 HN2 HD2 HP HQ;refine a0f [0,2] 4 (fun w'=>w'.cell? ⟨w.heap.size,0,none⟩=some (.bool m1)∧w'.cell? ⟨w.heap.size,1,none⟩=some (.slice a1 k1 c1)∧w'.cell? ⟨w.heap.size,2,none⟩=some (.slice a2 k2 c2)∧w'.cell? ⟨w.heap.size+1,0,none⟩=some (.bool m2)∧w'.cell? ⟨w.heap.size+1,1,none⟩=some (.slice a3 k3 c3)∧w'.cell? ⟨w.heap.size+1,2,none⟩=some (.slice a4 k4 c4)) (by kernel_rfl) (by kernel_rfl) (by kernel_rfl) (by kernel_rfl) (KK.out _ (Below.refl _ _).drew) ?_
 iterate 2
  refine⟨_,rfl,?_⟩;apply Exists.intro
  refine⟨.inl ⟨by rfl,?_⟩,?_⟩
  ·(intro W' hW';obtain⟨q1,q2,q3,q4,q5,q6⟩:=hW';go_simp;try (with_reducible rfl))
  (dsimp only[Act.put];try simp only[List.setIfInBounds_toArray,List.set_cons_zero,List.set_cons_succ])
 refine a0b (i:=1) (by kernel_rfl) (by rfl) (by rfl) ?_;go_wp2_with fail;refine (PS1 _ _ (Q1.out.call (Below.refl _ _).drew)).out.mono ?_;rintro e w1 ⟨rfl,hb1⟩;have x1:=hid (show Below W.heap.size W w1 from (Below.refl _ _).drew.trans hb1);clear hb1;go_wp2_with fail;refine⟨KK.out _ x1.out,?_⟩;refine a0b (i:=3) (by kernel_rfl) (by rfl) (by rfl) ?_;go_wp2_with fail;refine (PS2 _ _ (Q2.out.call x1.out)).out.mono ?_;rintro e w2 ⟨rfl,hb2⟩;have x2:=hid (a0a x1.out hb2);clear hb2;go_wp2_with fail;refine⟨KK.out _ x2.out,?_⟩;refine a0d (is:=[4,5]) (g:=0) (by kernel_rfl) rfl (KK.out _ x2.out) (by kernel_rfl) ?_
 iterate 2
  refine⟨_,rfl,?_⟩;apply Exists.intro
  refine⟨.inl ⟨by rfl,?_⟩,?_⟩
  ·(intro W' hW';obtain⟨q1,q2,q3,q4,q5,q6⟩:=hW';go_simp;try (with_reducible rfl))
  (dsimp only[Act.put];try simp only[List.setIfInBounds_toArray,List.set_cons_zero,List.set_cons_succ])
 refine wpAnyH_done (by kernel_rfl) ?_ _;simp only[a0o];by_cases hne:s1=s2
 ·subst hne;have t0:(s1 != s1)=false:=by simp
  go_wp2_with fail;refine a0f [0,1,2,3,5,6,7,8] 4 (fun w'=>w'.cell? ⟨w.heap.size,0,none⟩=some (.bool m1)∧w'.cell? ⟨w.heap.size,1,none⟩=some (.slice a1 k1 c1)∧w'.cell? ⟨w.heap.size,2,none⟩=some (.slice a2 k2 c2)∧w'.cell? ⟨w.heap.size+1,0,none⟩=some (.bool m2)∧w'.cell? ⟨w.heap.size+1,1,none⟩=some (.slice a3 k3 c3)∧w'.cell? ⟨w.heap.size+1,2,none⟩=some (.slice a4 k4 c4)) (by kernel_rfl) (by kernel_rfl) (by kernel_rfl) (by kernel_rfl) (KK.out _ x2.out.drew) ?_
  iterate 8
   refine⟨_,rfl,?_⟩;apply Exists.intro
   refine⟨.inl ⟨by rfl,?_⟩,?_⟩
   ·(intro W' hW';obtain⟨q1,q2,q3,q4,q5,q6⟩:=hW';go_simp;try (with_reducible rfl))
   (dsimp only[Act.put];try simp only[List.setIfInBounds_toArray,List.set_cons_zero,List.set_cons_succ])
  refine a0b (i:=4) (by kernel_rfl) (by rfl) (by rfl) ?_;go_wp2_with fail;refine (PM1 _ _ _ (N1'.out.call x2.out.drew) (D2'.out.call x2.out.drew)).out.mono ?_;rintro e w3 ⟨⟨v3,rfl,hv3⟩,hb3⟩;have x3:=hid (show Below W.heap.size W w3 from a0a x2.out.drew hb3);have V3:=hid hv3;clear hb3 hv3;go_wp2_with fail;refine⟨KK.out _ x3.out,?_⟩;refine a0b (i:=9) (by kernel_rfl) (by rfl) (by rfl) ?_;go_wp2_with fail;refine (PM2 _ _ _ (N2'.out.call x3.out) (D1'.out.call x3.out)).out.mono ?_;rintro e w4 ⟨⟨v4,rfl,hv4⟩,hb4⟩;have x4:=hid (a0a x3.out hb4);have V4:=hid hv4;have V34:=hid (V3.out.call hb4);clear hb4 hv4;go_wp2_with fail;refine⟨KK.out _ x4.out,?_⟩;refine a0b (i:=10) (by kernel_rfl) (by rfl) (by rfl) ?_;go_wp2_with fail;refine (PC _ _ _ V34.out V4.out).out.mono ?_;rintro e w5 ⟨rfl,hb5⟩;have x5:=hid (a0a x4.out hb5);clear hb5;go_wp2_with fail;refine⟨KK.out _ x5.out,?_⟩;refine a0d (is:=[11]) (g:=0) (by kernel_rfl) rfl (KK.out _ x5.out) (by kernel_rfl) ?_
  iterate 1
   refine⟨_,rfl,?_⟩;apply Exists.intro
   refine⟨.inl ⟨by rfl,?_⟩,?_⟩
   ·(intro W' hW';obtain⟨q1,q2,q3,q4,q5,q6⟩:=hW';go_simp;try (with_reducible rfl))
   (dsimp only[Act.put];try simp only[List.setIfInBounds_toArray,List.set_cons_zero,List.set_cons_succ])
  refine wpAnyH_done (by kernel_rfl) ?_ _;simp only[a0o];obtain⟨e0,e1,e2,e3,e4,e5⟩:=KK.out _ x5.out;have yy:=hid (a0a HY.out x5.out);cases m1
  ·go_wp2_with fail;go_ret
   exact⟨by rw[← HZ.out,if_neg (fun h=>h rfl),if_neg (fun h=>by have:=HM1.out.1 h;simp at this)];rfl,yy.out⟩
  ·go_wp2_with fail;go_ret
   exact⟨by rw[← HZ.out,if_neg (fun h=>h rfl),if_pos (HM1.out.2 (by simp))];rfl,yy.out⟩
 ·have t0:(s1 != s2)=true:=by simpa using hne
  have HNE:=hid hne;have yy:=hid (a0a HY.out x2.out);clear hne;go_wp2_with fail;go_ret
  exact⟨by rw[← HZ.out,if_pos HNE.out];rfl,yy.out⟩
end Go.Proofs.YtlimaehdmcnjaaaGreatDoor
namespace Go.Proofs.YtlimaehdmcnjaaaGreatDoor
variable {α : Type}
def c0R (S:List α)(x : α)(j:Nat):List α := S.take j++x::S.drop j
theorem c0l (S:List α)(x : α)(j:Nat):(c0R S x j).length=S.length+1:=by
 unfold c0R;rw[List.length_append,List.length_cons,List.length_take,List.length_drop];omega
theorem l0B (S:List α)(x : α):c0R S x S.length=S ++ [x]:=by simp[c0R]
theorem j0L {S:List α}{x : α}{i:Nat}(h:S.length=i):c0R S x i=S ++ [x]:=by subst h;exact l0B S x
theorem j0K {S:List α}{x : α}{j:Nat}(h:j≤S.length):(c0R S x j)[j]?=some x:=by
 unfold c0R;rw[List.getElem?_append_right (by rw[List.length_take];omega),List.length_take,Nat.min_eq_left h,Nat.sub_self];rfl
theorem h0V {S:List α}{x y : α}{j:Nat}(h:S[j]?=some y):(c0R S x (j+1))[j]?=some y:=by
 have hj:=(List.getElem?_eq_some_iff.1 h).1;unfold c0R;rw[List.getElem?_append_left (by rw[List.length_take];omega),List.getElem?_take,if_pos (by omega)];exact h
theorem j0J {S:List α}{x y : α}{j:Nat}(h:S[j]?=some y):((c0R S x (j+1)).set (j+1) y).set j x=c0R S x j:=by
 have hj:=(List.getElem?_eq_some_iff.1 h).1;unfold c0R;have hl:(S.take (j+1)).length=j+1:=by rw[List.length_take];omega
 have hd:S.drop j=y::S.drop (j+1):=by
  rw[List.drop_eq_getElem_cons hj]
  congr 1
  exact (List.getElem?_eq_some_iff.1 h).2
 rw[List.set_append_right _ _ (by omega),hl,Nat.sub_self,List.set_cons_zero,List.set_append_left _ _ (by omega),List.take_add_one,h,Option.toList_some,
  List.set_append_right _ _ (by rw[List.length_take];omega),List.length_take,Nat.min_eq_left (by omega),Nat.sub_self,List.set_cons_zero,hd]
 simp
theorem c0W {p : α→Bool}:∀ {a:List α} {b:List α},(∀ e∈a,p e=true)→(∀ e r,b=e::r→p e=false)→(a++b).takeWhile p=a∧(a++b).dropWhile p=b
 | [],b,_,hb=>by
  cases b with
  | nil=>simp
  | cons e r=>simp[hb e r rfl]
 | x::a,b,ha,hb=>by
  have:=c0W (a:=a) (fun e he=>ha e (by simp[he])) hb;simp[ha x (by simp),this]
theorem g0T {key : α→Rat}{S:List α}{x : α}{j:Nat}(hj:j≤S.length)(h1:∀ e∈S.drop j,key e<key x)(h2:∀ i y,j=i+1→S[i]?=some y→¬ key y<key x):c0R S x j=j0Z key x S:=by
 have hS:S.reverse=(S.drop j).reverse++(S.take j).reverse:=by rw[← List.reverse_append,List.take_append_drop]
 obtain⟨q1,q2⟩:=c0W (p:=fun e=>decide (key e<key x)) (a:=(S.drop j).reverse) (b:=(S.take j).reverse) (fun e he=>decide_eq_true (h1 e (List.mem_reverse.1 he))) (fun e r he=>by
  cases j with
  | zero=>simp at he
  | succ i=>
   have hi:i<S.length:=by omega
   have hy:S[i]?=some S[i]:=List.getElem?_eq_getElem hi;rw[List.take_add_one,hy,Option.toList_some,List.reverse_append]at he;simp at he;rw[← he.1];exact decide_eq_false (h2 i _ rfl hy))
 unfold j0Z c0R;rw[hS,q1,q2,List.reverse_reverse,List.reverse_reverse]
theorem d0L (key : α→Rat)(l:List α)(x : α):a0r key (l ++ [x])=j0Z key x (a0r key l):=by
 unfold a0r;rw[List.foldl_append];rfl
theorem a0N (key : α→Rat)(l:List α):(a0r key l).length=l.length:=(a0I key l).length_eq
def e0U (key : α→Rat)(l:List α)(i j:Nat)(x : α):List α := c0R (a0r key (l.take i)) x j++l.drop (i+1)
theorem g0a {key : α→Rat}{l:List α}{i j:Nat}{x : α}(hi:i<l.length):(e0U key l i j x).length=l.length:=by
 unfold e0U;rw[List.length_append,c0l,a0N,List.length_take,List.length_drop];omega
theorem i0M {key : α→Rat}{l:List α}{i:Nat}{x : α}(h:l[i]?=some x):e0U key l i i x=a0r key (l.take i)++l.drop i:=by
 have hi:=(List.getElem?_eq_some_iff.1 h).1;have hl:(a0r key (l.take i)).length=i:=by rw[a0N,List.length_take];omega
 have hd:l.drop i=x::l.drop (i+1):=by
  rw[List.drop_eq_getElem_cons hi]
  congr 1
  exact (List.getElem?_eq_some_iff.1 h).2
 unfold e0U;rw[j0L hl,hd];simp
theorem g0S {key : α→Rat}{l:List α}{i j:Nat}{x : α}(hi:i<l.length)(hj:j≤i):(e0U key l i j x)[j]?=some x:=by
 unfold e0U;have hl:(a0r key (l.take i)).length=i:=by rw[a0N,List.length_take];omega
 rw[List.getElem?_append_left (by rw[c0l];omega)];exact j0K (by omega)
theorem f0p {key : α→Rat}{l:List α}{i j:Nat}{x : α}(hi:i<l.length)(hj:j<i):∃ y,(a0r key (l.take i))[j]?=some y∧(e0U key l i (j+1) x)[j]?=some y∧((e0U key l i (j+1) x).set (j+1) y).set j x=e0U key l i j x:=by
 have hl:(a0r key (l.take i)).length=i:=by rw[a0N,List.length_take];omega
 obtain⟨y,hy⟩:∃ y,(a0r key (l.take i))[j]?=some y:=⟨_,List.getElem?_eq_getElem (by omega)⟩;refine⟨y,hy,?_,?_⟩
 ·unfold e0U;rw[List.getElem?_append_left (by rw[c0l];omega)];exact h0V hy
 ·unfold e0U;rw[List.set_append_left _ _ (by rw[c0l];omega),List.set_append_left _ _ (by rw[List.length_set,c0l];omega),j0J hy]
theorem e0d {key : α→Rat}{l:List α}{i j:Nat}{x : α}(h:l[i]?=some x)(hj:j≤i)(h1:∀ e∈(a0r key (l.take i)).drop j,key e<key x)(h2:∀ k y,j=k+1→(a0r key (l.take i))[k]?=some y→¬ key y<key x):e0U key l i j x=a0r key (l.take (i+1))++l.drop (i+1):=by
 have hi:=(List.getElem?_eq_some_iff.1 h).1;have hl:(a0r key (l.take i)).length=i:=by rw[a0N,List.length_take];omega
 unfold e0U;rw[g0T (by omega) h1 h2,List.take_add_one,h,Option.toList_some,d0L]
theorem h0e {key : α→Rat}{S:List α}{x y : α}{j:Nat}(hy:S[j]?=some y)(h:key y<key x)(h1:∀ e∈S.drop (j+1),key e<key x):∀ e∈S.drop j,key e<key x:=by
 have hj:=(List.getElem?_eq_some_iff.1 hy).1;have hd:S.drop j=y::S.drop (j+1):=by
  rw[List.drop_eq_getElem_cons hj]
  congr 1
  exact (List.getElem?_eq_some_iff.1 hy).2
 rw[hd];intro e he;rcases List.mem_cons.1 he with rfl | he
 ·exact h
 ·exact h1 e he
end Go.Proofs.YtlimaehdmcnjaaaGreatDoor
namespace Go.Proofs.YtlimaehdmcnjaaaGreatDoor
open Go.RowKit
open Go.Shelf
open Go.Lib (decDigits nDigits)
theorem QL.cells {W:World}{cs:List (List Value)}{qs:List Rat}(h:QL .u64 W cs qs):(∀ u∈cs.flatten,u.oneCell'=true)∧NoKL .u64 cs.flatten:=by
 have key:∀ u∈cs.flatten,(∃ b,u=.bool b)∨∃ a n c,u=.slice a n c:=by
  intro u hu;rw[List.mem_flatten]at hu;obtain⟨c,h1,h2⟩:=hu;obtain⟨i,hi⟩:=List.getElem?_of_mem h1;obtain⟨q,hq⟩:∃ q,qs[i]?=some q:=⟨_,List.getElem?_eq_getElem (by rw[← h.len];exact (List.getElem?_eq_some_iff.1 hi).1)⟩;obtain⟨d,e1,e2⟩:=h.at_ i q hq;rw[hi]at e1;obtain rfl:=Option.some.inj e1;obtain⟨a,n,p,b,n',p',rfl,-⟩:=e2.ex;simp at h2;rcases h2 with rfl | rfl | rfl
  ·exact .inl ⟨_,rfl⟩
  ·exact .inr ⟨_,_,_,rfl⟩
  ·exact .inr ⟨_,_,_,rfl⟩
 refine⟨fun u hu=>?_,fun x hx=>?_⟩
 ·rcases key u hu with ⟨b,rfl⟩ | ⟨a,n,c,rfl⟩<;>rfl
 ·rcases key _ hx with ⟨b,e⟩ | ⟨a,n,c,e⟩<;>cases e
theorem n0P (g n c:Nat)(W:World):(binOp BinOp.eql 53 (.slice (some ⟨g,0,none⟩) n c) (.slice none 0 0)).run Tryz.prog W=.ok (.bool false) W:=by kernel_rfl
theorem o0R (w:World)(B:Nat)(v:Value)(qs:List Rat)(hv:VRow B w v qs)(hl:qs.length≤64)(h0:0<qs.length):
 Calls Tryz.prog 39 #[v] w fun e w'=>(∃ u,e=.returned u∧VRow w.heap.size w' u qs)∧Below w.heap.size w w':=by
 obtain⟨i0,hi,hz0,hz1,hz2⟩:=info_parts e0F;obtain⟨q0,hq0⟩:∃ q,qs[0]?=some q:=⟨_,List.getElem?_eq_getElem h0⟩;obtain⟨a,c,rfl,c1,c2⟩:=hv.slice;obtain⟨g,-,-,-,-,-,-,-,rfl,-,hg,-⟩:=hv.at hq0;obtain⟨N,hN⟩:∃ n,qs.length=n:=⟨_,rfl⟩;obtain⟨cs,hk,hQ⟩:=hv.ex;have hcl:cs.length=N:=by rw[hQ.len,hN]
 rw[hN]at hk c1 ⊢;have A0:=hid ((Below.refl w.heap.size w).alloc (Nat.le_refl _) (.cells #[] 57));have X0:=Blk.new w #[] 57;have HE:Hid (KRow .u64 57 3 w.heap.size (w.alloc (.cells #[] 57)) (.slice (some ⟨w.heap.size,0,none⟩) 0 0) []):=by
  refine⟨World.ownsRow_made w #[] 0 (Nat.le_refl _) (by unfold maxLen;omega) rfl,fun c hc=>(by cases hc),fun g' hg'=>?_⟩;obtain rfl:w.heap.size=g':=by simpa[Value.ownBlock]using hg'
  exact⟨_,X0,fun i x h=>by simp at h⟩
 have hc:=hQ.cells
 have SRC:=hid (show ∀ j u,cs.flatten[j]?=some u→(w.alloc (.cells #[] 57)).cell? ((⟨g,0,none⟩:Addr).add j)=some u from fun j u hu=>by
  have h:=hk.own.cells rfl j u hu;rw[Addr.add_lit]at h ⊢;exact (A0.out.cell (p:=⟨g,0+j,none⟩) hg).trans h)
 have HC1:=hid hc.1;have HC2:=hid hc.2;have HAL:=hid hk.all;have HQ:=hid (hQ.call A0.out);have HCL:=hid hcl;have HN4:=hid (show N≤64 by omega);clear hv hl h0 hq0 hk hQ hc X0 hg hN hcl;have hnil:=n0P g N c;go_enter Tryz.func39,Tryz.ntmps39
 go_wp2_with (at_builtin;refine a0s _ .u64 rfl _ _ 53 rfl w.heap.size 57 i0 (.agg #[.bool false,.slice none 0 0,.slice none 0 0]) 3 56 Tryz.underlying53 hi hz0 hz1 hz2 rfl (by decide) i0C _ [] rfl HE.out ⟨g,0,none⟩ N c cs rfl HCL.out HAL.out SRC.out HC1.out HC2.out (by have:=HN4.out;simp;unfold maxLen;omega) (by have:=HN4.out;simp;omega) (by exact A0.out.size) ?_
              intro v' w3 hown hgrow hkeep hat;have O3:=hid (show VRow w.heap.size w3 v' qs from⟨cs,hown,HQ.out.keep hkeep⟩);have B3:=hid (b0l HE.out A0.out hgrow);clear hown hgrow hkeep hat)
 go_ret
 exact⟨⟨_,rfl,O3.out⟩,B3.out⟩
theorem o0v {p q:Rat}:cmF p q<0↔p<q:=(g0k p q).2.1.trans c0M
theorem m0l {p q:Rat}:cmF p q≤0↔p≤q:=by
 have h:=(g0k p q).1;have h2:cmF p q≤0↔d0V p q≤0:=by omega
 exact h2.trans c0N
theorem q0L (w:World)(v u:Value)(p q:Rat)(hv:IsQ .u64 w v p)(hu:IsQ .u64 w u q)(lp:Lim p)(lq:Lim q):
 Calls Tryz.prog 41 #[v,u] w fun e w'=>e=.returned (.int .i64 (cmF q p))∧Below w.heap.size w w':=by
 obtain⟨m1,a1,n1,c1,b1,d1,e1,rfl⟩:=hv.qv;obtain⟨m2,a2,n2,c2,b2,d2,e2,rfl⟩:=hu.qv;have A1:=hid ((Below.refl w.heap.size w).alloc (Nat.le_refl _) (.cells #[.bool m1,.slice a1 n1 c1,.slice b1 d1 e1] 57));have A2:=hid (A1.out.alloc A1.out.size (.cells #[.bool m2,.slice a2 n2 c2,.slice b2 d2 e2] 57));have V2:=hid (hv.call A2.out);have U2:=hid (hu.call A2.out);have HC:=fun V x y hx hy=>hid (l0O V x y q p hx hy lq.1 lq.2 lp.1 lp.2)
 obtain⟨z,hz⟩:∃ z,cmF q p=z:=⟨_,rfl⟩;rw[hz]at HC ⊢;clear hv hu lp lq hz;go_enter Tryz.func41,Tryz.ntmps41;go_wp2_with fail;refine (HC _ _ _ U2.out V2.out).out.mono ?_;rintro e w1 ⟨rfl,hb1⟩;have y1:=hid (A2.out.trans (hb1.mono A2.out.size));clear hb1;go_wp2_with fail;go_ret
 exact⟨rfl,y1.out⟩
end Go.Proofs.YtlimaehdmcnjaaaGreatDoor
namespace Go.Proofs
open Go.Shelf
def Tryz.lenW_ren:Go.Shelf.Ren:=⟨fun | 125=>93 | 128=>141 | 129=>142 | n=>n,fun | 46=>118 | 3=>3 | 51=>161 | 53=>122 | 4=>4 | 5=>5 | 9=>9 | n=>n,fun | n=>n⟩
theorem Tryz.lenW:Go.Proofs.Lays.n125 Tryz.prog Tryz.lenW_ren:={
 mixed:=by kernel_rfl
 f125:=Tryz.func93.trans (congrArg some (by kernel_rfl))
 f128:=Tryz.func141.trans (congrArg some (by kernel_rfl))
 f129:=Tryz.func142.trans (congrArg some (by kernel_rfl))
 t3:=Tryz.underlying3
 a3:=Tryz.isAgg3
 z3:=Tryz.sizeOf3
 v3:=Tryz.zeroValue3
 t4:=Tryz.underlying4
 a4:=Tryz.isAgg4
 z4:=Tryz.sizeOf4
 v4:=Tryz.zeroValue4
 t5:=Tryz.underlying5
 a5:=Tryz.isAgg5
 z5:=Tryz.sizeOf5
 v5:=Tryz.zeroValue5
 t9:=Tryz.underlying9
 a9:=Tryz.isAgg9
 z9:=Tryz.sizeOf9
 v9:=Tryz.zeroValue9
 t46:=Tryz.underlying118
 a46:=Tryz.isAgg118
 z46:=Tryz.sizeOf118
 v46:=Tryz.zeroValue118
 t51:=Tryz.underlying161
 a51:=Tryz.isAgg161
 z51:=Tryz.sizeOf161
 v51:=Tryz.zeroValue161
 t53:=Tryz.underlying122
 a53:=Tryz.isAgg122
 z53:=Tryz.sizeOf122
 v53:=Tryz.zeroValue122 }
end Go.Proofs
namespace Go.Proofs.YtlimaehdmcnjaaaGreatDoor
open Go.RowKit
variable {P : Program} {Q : Exit → Act → World → Prop} {md : Region.Mode} {ops : Array Oper} {oz : Oper}
inductive Dep (md:Region.Mode) (ops:Array Oper) (oz:Oper):Nat→Prop
 | here {e:Edge}:e∈oz.after→Region.binds md e=true→Dep md ops oz e.on
 | step {i:Nat} {o:Oper} {f:Edge}:Dep md ops oz i→ops[i]?=some o→f∈o.after→Region.binds md f=true→Dep md ops oz f.on
theorem Dep.on {listed:Array Bool}(hc:Closed md ops listed)(h:∀ e∈oz.after,Region.binds md e=true→listed.getD e.on false=true){i:Nat}(hd:Dep md ops oz i):listed.getD i false=true:=by
 induction hd with
 | here he hb=>exact h _ he hb
 | step _ ho hf hb ih=>exact hc _ _ ho ih _ hf hb
theorem d0R {L0:List Nat}(hz:∀ e∈oz.after,Region.binds md e=true→e.on<ops.size)(hz2:∀ i,i<ops.size→i∈L0∨Dep md ops oz i)(hfwd:∀ i o,ops[i]?=some o→∀ e∈o.after,Region.binds md e=true→e.on<i){listed:Array Bool}(hs:listed.size=ops.size)(hcl:Closed md ops listed)(h0L:∀ i∈L0,listed.getD i false=true)(hn:¬ f0a ops.size listed):
 ∀ j,j∈Region.ready md (ops.push oz) (listed.push false)→j∈Region.ready md ops listed:=by
 intro j hj;rw[mem_ready]at hj ⊢;obtain⟨h0,o,ho,hall⟩:=hj;have hlt:j<ops.size+1:=by have:=(Array.getElem?_eq_some_iff.1 ho).1;simpa using this
 by_cases hj':j=ops.size
 ·subst hj';have:o=oz:=by simpa using ho.symm
  subst this;refine absurd (fun i hi=>?_) hn;rcases hz2 i hi with h | h
  ·exact h0L i h
  ·refine Dep.on hcl (fun e he hb=>?_) h;have h1:=hall e he hb;have h2:=hz e he hb;rwa[a0l (by omega)]at h1
 ·have hjl:j<ops.size:=by omega
  rw[Array.getElem?_push_lt hjl]at ho;rw[a0l (by omega)]at h0;refine⟨h0,o,by rw[Array.getElem?_eq_getElem hjl];exact ho,fun e he hb=>?_⟩;have h1:=hall e he hb;have h2:=hfwd j o (by rw[Array.getElem?_eq_getElem hjl];exact ho) e he hb;rwa[a0l (by omega)]at h1
theorem h0m {Q':Exit→Act→World→Prop}{L0:List Nat}(hgd:∀ (i:Nat) (o:Oper),ops[i]?=some o→o.guard=none)(hgz:oz.guard=none)
 (hz:∀ e∈oz.after,Region.binds md e=true→e.on<ops.size) (hz2:∀ i,i<ops.size→i∈L0∨Dep md ops oz i)
 (hfwd:∀ i o,ops[i]?=some o→∀ e∈o.after,Region.binds md e=true→e.on<i)
 (hP:∀ c a w,Q' (.panic c) a w→Q (.panic c) a w) (hL:LetsOut Q'→LetsOut Q) (hN:∀ a w,Q' .normal a w→oz.wp P a w (fun a w=>Q .normal a w) Q∨(oz.asks P a w∧LetsOut Q)):
 ∀ (fuel:Nat) (listed:Array Bool) (a:Act) (w:World),listed.size=ops.size→Closed md ops listed→(∀ i∈L0,listed.getD i false=true)→wpAny P md ops Q' fuel listed a w→wpAny P md (ops.push oz) Q (fuel+1) (listed.push false) a w:=by
 have lastStep:∀ (fuel:Nat) (listed:Array Bool) (a:Act) (w:World),listed.size=ops.size→f0a ops.size listed→Q' .normal a w→wpAny P md (ops.push oz) Q (fuel+1) (listed.push false) a w:=by
  intro fuel listed a w hs hall hq;have hmem:ops.size∈Region.ready md (ops.push oz) (listed.push false):=by
   rw[mem_ready];refine⟨by rw[← hs];simp[Array.getD],oz,by simp,fun e he hb=>?_⟩;have:=hz e he hb;rw[a0l (by omega)];exact hall _ this
  refine⟨fun h=>(by rw[h]at hmem;cases hmem),fun j hj=>?_⟩;have hje:=b0L hs hall j hj;subst hje;have hdone:Region.ready md (ops.push oz) ((listed.push false).setIfInBounds ops.size true) = []:=by
   refine List.eq_nil_iff_forall_not_mem.2 fun k hk=>?_
   rw[mem_ready]at hk;obtain⟨h0,o,ho,_⟩:=hk;have hlt:k<ops.size+1:=by have:=(Array.getElem?_eq_some_iff.1 ho).1;simpa using this
   by_cases hk':k=ops.size
   ·subst hk';simp[Array.getD,hs]at h0
   ·have h1:k<ops.size:=by omega
    have h2:=hall k h1;have h3:k<listed.size:=by omega
    simp[Array.getD,h3,Nat.lt_succ_of_lt h3,Ne.symm hk',Array.getElem_push_lt h3]at h0 h2;rw[h0]at h2;cases h2
  unfold wpOp;simp only[Array.getElem?_push_size];have hw:Region.wanted oz (yielded (ops.push oz) a.tmps)=true:=by simp[Region.wanted,hgz]
  rw[if_pos hw];refine (hN a w hq).imp (fun hx=>Oper.wp_mono (fun a' w' h'=>?_) hx) id;cases fuel with
  | zero=>exact⟨hdone,h'⟩
  | succ fuel=>exact⟨fun _=>h',fun k hk=>by rw[hdone]at hk;cases hk⟩
 intro fuel
 induction fuel with
 | zero=>
  intro listed a w hs _ _ h;exact lastStep 0 listed a w hs (b0m hfwd hs h.1) h.2
 | succ fuel ih=>
  intro listed a w hs hcl h0L h;by_cases hall:f0a ops.size listed
  ·refine lastStep (fuel+1) listed a w hs hall (h.1 (List.eq_nil_iff_forall_not_mem.2 fun k hk=>?_));rw[mem_ready]at hk;obtain⟨h0,o,ho,_⟩:=hk;have h1:=(Array.getElem?_eq_some_iff.1 ho).1;have h2:=hall k h1;have h3:k<listed.size:=by omega
   simp[Array.getD,h3]at h0 h2;rw[h0]at h2;cases h2
  ·refine⟨fun hr=>?_,fun j hj=>?_⟩
   ·have:Region.ready md ops listed = []:=List.eq_nil_iff_forall_not_mem.2 fun k hk=>by
     have hk2:k∈Region.ready md (ops.push oz) (listed.push false):=by
      rw[mem_ready]at hk ⊢;obtain⟨h0,o,ho,hh⟩:=hk;have h1:=(Array.getElem?_eq_some_iff.1 ho).1;refine⟨by rw[a0l (by omega)];exact h0,o,by rw[Array.getElem?_push_lt h1,← Array.getElem?_eq_getElem h1];exact ho,fun e he hb=>?_⟩;rw[a0l (by have:=hfwd k o ho e he hb;omega)];exact hh e he hb
     rw[hr]at hk2;cases hk2
    exact absurd (b0m hfwd hs this) hall
   ·have hj':=d0R hz hz2 hfwd hs hcl h0L hall j hj;have h1:=h.2 j hj';have hlt:j<ops.size:=by
     rw[mem_ready]at hj';obtain⟨_,o,ho,_⟩:=hj';exact (Array.getElem?_eq_some_iff.1 ho).1
    unfold wpOp at h1 ⊢;rw[Array.getElem?_push_lt hlt];rw[Array.getElem?_eq_getElem hlt]at h1;simp only at h1 ⊢;have hg:=hgd j _ (Array.getElem?_eq_getElem hlt);have hw1:Region.wanted ops[j] (yielded (ops.push oz) a.tmps)=true:=by simp[Region.wanted,hg]
    have hw2:Region.wanted ops[j] (yielded ops a.tmps)=true:=by simp[Region.wanted,hg]
    rw[if_pos hw1];rw[if_pos hw2]at h1;rcases h1 with h1 | ⟨h1,h2⟩
    ·refine .inl (e0j (fun a' w' h'=>?_) hP hL h1);rw[f0H (by omega)];exact ih _ _ _ (by simp[hs]) (hcl.set hj') (fun i hi=>getD_set_true (h0L i hi)) h'
    ·exact .inr ⟨h1,hL h2⟩
def n0Q (md:Region.Mode)(ops:Array Oper)(j i:Nat):Bool:=match ops[j]? with | some o=>o.after.toList.any (fun f=>Region.binds md f && f.on==i) | none=>false
theorem j0P {j i:Nat}(h:n0Q md ops j i=true):∃ o f,ops[j]?=some o∧f∈o.after∧Region.binds md f=true∧f.on=i:=by
 unfold n0Q at h
 split at h
 ·rename_i o ho
  simp only[List.any_eq_true,Bool.and_eq_true,beq_iff_eq,Array.mem_toList_iff]at h;obtain⟨f,hf,hb,hon⟩:=h;exact⟨o,f,ho,hf,hb,hon⟩
 ·cases h
def r0L (md:Region.Mode)(ops:Array Oper)(known:List Nat):List (Nat×Nat)→List Nat
 | []=>known
 | (i,j)::r=>r0L md ops (if (known.contains j && n0Q md ops j i)=true then i::known else known) r
theorem i0f:∀ (r:List (Nat×Nat)) (known:List Nat),(∀ i∈known,Dep md ops oz i)→∀ i∈r0L md ops known r,Dep md ops oz i
 | [],known,h=>h
 | (i,j)::r,known,h=>by
  unfold r0L;refine i0f r _ ?_;by_cases hc:(known.contains j && n0Q md ops j i)=true
  ·rw[if_pos hc];simp only[Bool.and_eq_true]at hc;obtain⟨hj,hx⟩:=hc;obtain⟨o,f,ho,hf,hb,hon⟩:=j0P hx;intro m hm;rcases List.mem_cons.1 hm with rfl | hm
   ·rw[← hon];exact .step (h j (by simpa using hj)) ho hf hb
   ·exact h m hm
  ·rw[if_neg hc];exact h
def f0G (md:Region.Mode)(ops:Array Oper)(oz:Oper)(L0:List Nat)(via:List (Nat×Nat)):Bool:=
 ops.toList.all (fun o=>o.guard.isNone) && oz.guard.isNone && oz.after.toList.all (fun e => !Region.binds md e || decide (e.on<ops.size)) &&
 (List.range ops.size).all (fun i=>L0.contains i || (r0L md ops ((oz.after.toList.filter (Region.binds md)).map (·.on)) via).contains i) &&
 (List.range ops.size).all (fun i=>match ops[i]? with | some o=>o.after.toList.all (fun e => !Region.binds md e || decide (e.on<i)) | none=>true)
theorem k0Z {Q':Exit→Act→World→Prop}{L0:List Nat}{via:List (Nat×Nat)}{a:Act}{w:World}{fuel:Nat}{listed:Array Bool}(hB:f0G md ops oz L0 via=true)(hs:listed.size=ops.size)(hcl:Closed md ops listed)(h0L:∀ i∈L0,listed.getD i false=true)
 (hP:∀ c a w,Q' (.panic c) a w→Q (.panic c) a w) (hL:LetsOut Q'→LetsOut Q) (hN:∀ a w,Q' .normal a w→oz.wp P a w (fun a w=>Q .normal a w) Q∨(oz.asks P a w∧LetsOut Q))
 (h:wpAny P md ops Q' fuel listed a w):wpAny P md (ops.push oz) Q (fuel+1) (listed.push false) a w:=by
 simp only[f0G,Bool.and_eq_true,List.all_eq_true,List.mem_range,decide_eq_true_eq,Option.isNone_iff_eq_none,Array.mem_toList_iff,Bool.or_eq_true,Bool.not_eq_true']at hB;obtain⟨⟨⟨⟨h1,h2⟩,h3⟩,h4⟩,h5⟩:=hB;refine h0m (L0:=L0) (fun i o ho=>h1 o (Array.mem_of_getElem? ho)) h2 (fun e he hb=>?_) (fun i hi=>?_) (fun i o ho e he hb=>?_) hP hL hN fuel listed a w hs hcl h0L h
 ·rcases h3 e he with h | h
  ·rw[hb]at h;cases h
  ·exact h
 ·rcases h4 i hi with h | h
  ·exact .inl (by simpa using h)
  ·refine .inr (i0f via _ (fun j hj=>?_) i (by simpa using h));obtain⟨e,he,rfl⟩:=List.mem_map.1 hj;obtain⟨he1,he2⟩:=List.mem_filter.1 he;exact .here (by simpa using he1) he2
 ·have:=h5 i (Array.getElem?_eq_some_iff.1 ho).1;rw[ho]at this;simp only[List.all_eq_true,Array.mem_toList_iff,Bool.or_eq_true,Bool.not_eq_true',decide_eq_true_eq]at this;rcases this e he with h | h
  ·rw[hb]at h;cases h
  ·exact h
def f0U (l:List Oper)(L0:List Nat)(via:List (Nat×Nat)):Nat→Nat→Bool
 | 0,_=>true
 | k+1,n=>(match l[n]? with | some oz=>f0G .any (l.take n).toArray oz L0 via | none=>false) && f0U l L0 via k (n+1)
def i0b (md:Region.Mode)(ops:Array Oper)(listed:Array Bool):Bool:=
 (List.range ops.size).all fun j => !listed.getD j false || (match ops[j]? with | some o=>o.after.toList.all (fun e => !Region.binds md e || listed.getD e.on false) | none=>true)
theorem h0f {listed:Array Bool}(h:i0b md ops listed=true):Closed md ops listed:=by
 intro j o ho hj e he hb;simp only[i0b,List.all_eq_true,List.mem_range,Bool.or_eq_true,Bool.not_eq_true']at h;rcases h j (Array.getElem?_eq_some_iff.1 ho).1 with h1 | h1
 ·rw[hj]at h1;cases h1
 ·rw[ho]at h1;simp only[List.all_eq_true,Array.mem_toList_iff,Bool.or_eq_true,Bool.not_eq_true']at h1;rcases h1 e he with h2 | h2
  ·rw[hb]at h2;cases h2
  ·exact h2
theorem Closed.pushed {listed:Array Bool}(h:Closed md ops listed)(hs:listed.size=ops.size)(hfwd:∀ i o,ops[i]?=some o→∀ e∈o.after,Region.binds md e=true→e.on<i):Closed md (ops.push oz) (listed.push false):=by
 intro j o ho hj e he hb;have hlt:j<ops.size+1:=by have:=(Array.getElem?_eq_some_iff.1 ho).1;simpa using this
 by_cases hj2:j=ops.size
 ·subst hj2
  exfalso
  simp[Array.getD,← hs]at hj
 ·have h1:j<ops.size:=by omega
  rw[Array.getElem?_push_lt h1]at ho;rw[a0l (by omega)]at hj;have ho':ops[j]?=some o:=by rw[Array.getElem?_eq_getElem h1];exact ho
  have h2:=hfwd j o ho' e he hb;rw[a0l (by omega)];exact h j o ho' hj e he hb
theorem f0x (l:List Oper)(L0:List Nat)(via:List (Nat×Nat)){a:Act}{w:World}:∀ (k n fuel:Nat) (listed:Array Bool),n+k=l.length→f0U l L0 via k n=true→listed.size=(l.take n).toArray.size→Closed .any (l.take n).toArray listed→(∀ i∈L0,listed.getD i false=true) →
 wpAny P .any (l.take n).toArray (c0D P l.toArray Q (l.drop n)) fuel listed a w →
 wpAny P .any l.toArray Q (fuel+k) (listed++Array.replicate k false) a w
 | 0,n,fuel,listed,hn,_,hs,hc,h0,h=>by
  have e1:l.take n=l:=List.take_of_length_le (by omega);have e2:l.drop n = []:=List.drop_of_length_le (by omega);have e3:c0D P l.toArray Q []=Q:=by
   funext e a w
   cases e<;>simp[c0D,wpList]
  rw[e1,e2,e3]at h;simpa using h
 | k+1,n,fuel,listed,hn,hB,hs,hc,h0,h=>by
  simp only[f0U,Bool.and_eq_true]at hB;obtain⟨h1,h2⟩:=hB;have hlt:n<l.length:=by omega
  rw[List.getElem?_eq_getElem hlt]at h1;have e1:l.take (n+1)=l.take n ++ [l[n]]:=List.take_succ_eq_append_getElem hlt;have e2:l.drop n=l[n]::l.drop (n+1):=List.drop_eq_getElem_cons hlt;have e3:(l.take (n+1)).toArray=(l.take n).toArray.push l[n]:=by rw[e1];simp
  have h1':=h1;simp only[f0G,Bool.and_eq_true,List.all_eq_true,List.mem_range,Option.isNone_iff_eq_none,Array.mem_toList_iff,Bool.or_eq_true,Bool.not_eq_true',decide_eq_true_eq]at h1';have hgz:l[n].guard=none:=h1'.1.1.1.2;have hfwd:∀ (i:Nat) (o:Oper),(l.take n).toArray[i]?=some o→∀ e∈o.after,Region.binds .any e=true→e.on<i:=by
   intro i o ho e he hb;have:=h1'.2 i (Array.getElem?_eq_some_iff.1 ho).1;rw[ho]at this;simp only[List.all_eq_true,Array.mem_toList_iff,Bool.or_eq_true,Bool.not_eq_true',decide_eq_true_eq]at this;rcases this e he with h | h
   ·rw[hb]at h;cases h
   ·exact h
  have step:=k0Z (P:=P) (md:=.any) (ops:=(l.take n).toArray) (oz:=l[n]) (Q:=c0D P l.toArray Q (l.drop (n+1))) (Q':=c0D P l.toArray Q (l.drop n)) (L0:=L0) (via:=via) (a:=a) (w:=w) (fuel:=fuel) (listed:=listed) h1 hs hc h0 (fun _ _ _ h=>h) (fun ⟨a,w,h⟩=>⟨a,w,h⟩) (fun a w hq=>by
   have hq':wpList P l.toArray Q (l.drop n) a w:=hq;rw[e2]at hq';unfold wpList at hq';have hw:Region.wanted l[n] (yielded l.toArray a.tmps)=true:=by simp[Region.wanted,hgz]
   rw[if_pos hw]at hq';rcases hq' with hq' | ⟨h3,h4⟩
   ·exact .inl (e0j (fun _ _ h=>h) (fun _ _ _ h=>h) (fun ⟨a,w,h⟩=>⟨a,w,h⟩) hq')
   ·exact .inr ⟨h3,by obtain⟨a,w,h⟩:=h4;exact⟨a,w,h⟩⟩) h
  rw[← e3]at step
  have:=f0x l L0 via k (n+1) (fuel+1) (listed.push false) (by omega) h2 (by rw[e3,Array.size_push,Array.size_push,hs]) (by rw[e3];exact hc.pushed hs hfwd) (fun i hi=>by
   have hx:=h0 i hi;by_cases hi2:i<listed.size
   ·rw[a0l hi2];exact hx
   ·simp[Array.getD,hi2]at hx) step
  have e5:listed.push false++Array.replicate k false=listed++Array.replicate (k+1) false:=by
   apply Array.ext_getElem?
   intro i;simp only[Array.getElem?_append,Array.getElem?_push,Array.size_push,Array.getElem?_replicate];by_cases h1:i<listed.size
   ·have h2:i<listed.size+1:=by omega
    have h3:¬ i=listed.size:=by omega
    simp[h1,h2,h3]
   ·by_cases h2:i=listed.size
    ·subst h2;simp
    ·have h3:¬ i<listed.size+1:=by omega
     simp[h1,h3];have e:i-(listed.size+1)<k↔i-listed.size<k+1:=by omega
     simp[e]
  rw[e5]at this;rw[show fuel+(k+1)=fuel+1+k by omega];exact this
theorem e0k {l:List Oper}{S:World→Prop}{L L':Act→Prop}(hL:∀ a,L a→L' a):∀ (is:List Nat) (a:Act),c0V P l S L is a→c0V P l S L' is a
 | [],a,h=>hL a h
 | i::is,a,⟨o,ho,v,hy,h⟩=>⟨o,ho,v,hy,e0k hL is _ h⟩
theorem l0C:∀ (fuel:Nat) (listed:Array Bool) (a:Act) (w:World),wpAny P md ops Q fuel listed a w→wpAnyH P md ops Q (fun _=>True) fuel listed a w:=by
 intro fuel
 induction fuel with
 | zero=>exact fun _ _ _ h=>h
 | succ fuel ih=>
  rintro listed a w ⟨h1,h2⟩;refine⟨h1,fun i hi=>?_⟩;have h:=h2 i hi;unfold wpOp at h ⊢
  split at h
  ·rename_i ho
   exact⟨trivial,ih _ _ _ h⟩
  ·rename_i o ho
   split at h
   ·rename_i hw
    rw[if_pos hw];exact h.imp (fun h=>Oper.wp_mono (fun a w h=>⟨trivial,ih _ _ _ h⟩) h) id
   ·rename_i hw
    rw[if_neg hw];exact⟨trivial,ih _ _ _ h⟩
theorem e0G {id:Nat}{a:Act}{w:World}{l:List Oper}(n k:Nat)(pre:List Nat)(via:List (Nat×Nat))(is:List Nat)(g:Nat)(S:World→Prop)(hm:P.follows .mixedOrders=true)(hk:n+k=l.length)
 (hsel0:Region.noSelect l.toArray=true) (hpre:g0G .any l.toArray pre (Array.replicate l.toArray.size false)=true)
 (hlast:f0U l pre via k n=true) (hset:j0p pre (Array.replicate l.toArray.size false)=j0p pre (Array.replicate n false)++Array.replicate k false) (hsz:(j0p pre (Array.replicate n false)).size=(l.take n).toArray.size) (hclo:i0b .any (l.take n).toArray (j0p pre (Array.replicate n false))=true) (hon:(pre.all fun i=>(j0p pre (Array.replicate n false)).getD i false)=true)
 (hsel:Region.noSelect (l.take n).toArray=true) (hg:g+is.length+k+pre.length=l.toArray.size) (hB:g0G .any (l.take n).toArray is (j0p pre (Array.replicate n false))=true) (hS:S w.drew)
 (h:c0V P l (fun _=>True) (fun a1=>c0V P (l.take n) S (fun a'=>wpAnyH P .any (l.take n).toArray (a0o (c0D P l.toArray (a0o Q) (l.drop n))) S g (j0p is (j0p pre (Array.replicate n false))) a' w.drew) is a1) pre a):(Code.region id l.toArray true).wp P Q a w:=by
 refine wp_region_any hm (f0O _ _ _ _ (wpAny_of_held (S:=fun _=>True) _ _ _ _ ?_));have h1:=b0T (P:=P) (md:=.any) (Q:=Q) (S:=fun _=>True) (w:=w.drew) hsel0 (g:=g+is.length+k) trivial pre (Array.replicate l.toArray.size false) a hpre ?_
 ·rw[hg]at h1;exact h1
 ·refine e0k (fun a1 h2=>?_) pre a h;refine l0C _ _ _ _ ?_;rw[hset];refine f0x l pre via k n (g+is.length) _ hk hlast hsz (h0f hclo) (fun i hi=>by simpa using List.all_eq_true.1 hon i hi) ?_;exact f0O _ _ _ _ (wpAny_of_held (S:=S) _ _ _ _ (b0T (P:=P) (md:=.any) (S:=S) hsel (g:=g) hS is _ a1 hB h2))
end Go.Proofs.YtlimaehdmcnjaaaGreatDoor
namespace Go.Proofs.YtlimaehdmcnjaaaGreatDoor
open Go.RowKit
open Go.Shelf
open Go.Lib (decDigits nDigits)
theorem b0r {P:Program}{ops:Array Oper}{Q:Exit→Act→World→Prop}{md:Region.Mode}{S:World→Prop}{i:Nat}{o:Oper}{fuel:Nat}{listed:Array Bool}{a:Act}{w:World}(hr:Region.ready md ops listed = [i])(ho:ops[i]?=some o)(hw:Region.wanted o (yielded ops a.tmps)=true)
 (h:wpList P ops (d0W P md ops (a0o Q) S fuel (listed.setIfInBounds i true)) [o] a w):wpAnyH P md ops (a0o Q) S (fuel+1) listed a w:=by
 refine wpAnyH_all hr (by simp) fun j hj=>?_
 obtain rfl:j=i:=by simpa using hj
 unfold wpOp;rw[ho];simp only[hw,if_true];unfold wpList at h;rw[if_pos hw]at h;rcases h with h | ⟨_,_,_,h⟩
 ·left
  unfold Oper.wp at *;generalize (execOp a.eval o).run P w=r at *
  cases r with
  | ok m w'=>
   cases m<;>simp only[Oper.upon]at h ⊢
   case value u=>exact h
   case skip=>exact h
   case defer d=>exact h
   case enter f args=>
    refine Calls.mono h fun e w'' he=>?_
    cases e with
    | returned u=>exact he
    | panicked c=>exact he.elim
    | outgrown=>obtain⟨_,_,hx⟩:=he;exact hx.elim
   case row row args=>exact h
  | halt x w'=>
   cases x<;>simp only[Oper.upon]at h ⊢
   case panic u=>exact h.elim
 ·exact h.elim
theorem b0c {W W':World}{r:Option Nat}(h:Below W.heap.size W W'):W.grownBy W' r:=⟨h.os,h.tape,h.output,h.size,fun k hk _=>h.block k hk⟩
theorem d0I {W:World}{g j:Nat}(x y z:Value):W.grownBy (((W.setCell ⟨g,j,none⟩ x).setCell ⟨g,j+1,none⟩ y).setCell ⟨g,j+2,none⟩ z) (some g):=by
 refine⟨rfl,rfl,rfl,by simp[World.setCell],fun k hk hne=>?_⟩;have h:k≠g:=fun e=>hne (by rw[e])
 rw[Below.heap_setCell _ _ _ _ h,Below.heap_setCell _ _ _ _ h,Below.heap_setCell _ _ _ _ h]
theorem f0s {W W':World}{r:Option Nat}(h:W.grownBy W' r):W.grownBy W'.drew r:=⟨h.os,h.tape,h.output,h.size,h.block⟩
def idR (q:Rat):Rat:=q
theorem m0M (qs:List Rat):a0r idR (qs.take 1)++qs.drop 1=qs:=by
 cases qs with
 | nil=>rfl
 | cons a r=>rfl
theorem r0T (w:World)(B g c:Nat)(qs:List Rat)(N:Nat)(hN:qs.length=N)(hv:VRow B w (.slice (some ⟨g,0,none⟩) N c) qs)(hl:N≤12)(hd:∀ q∈qs,Lim q):
 Calls Tryz.prog 133 #[.slice (some ⟨g,0,none⟩) N c,.int .i64 0,.int .i64 (N:Nat),.func (.func 41) #[] #[]] w fun e w'=>e=.returned (.tuple #[])∧VRow B w' (.slice (some ⟨g,0,none⟩) N c) (a0r idR qs)∧w.grownBy w' (some g):=by
 have HV:=hid hv;have HN:=hid hN;have HL:=hid hl;have HD:=hid hd;obtain⟨c1,c2⟩:N≤c∧c≤9223372036854775807:=by
  obtain⟨a',c',e,h1,h2⟩:=hv.slice;injection e with e1 e2 e3
  subst e3;exact⟨by omega,h2⟩
 clear hv hN hl hd;go_enter Tryz.func133,Tryz.ntmps133;go_wp2_with fail
 go_loopw [8,9] (fun s8 s9 wr=>∃ i:Nat,s8=.int .i64 (i:Nat)∧1≤i∧i≤N+1∧Hid (VRow B wr (.slice (some ⟨g,0,none⟩) N c) (a0r idR (qs.take i)++qs.drop i))∧Hid (w.grownBy wr (some g))) (fun s8 s9 wr=>N+1-(intOf s8).toNat)
 case atStart=>exact⟨1,rfl,Nat.le_refl _,by omega,by rw[m0M];exact HV,⟨rfl,rfl,rfl,Nat.le_refl _,fun _ _ _=>rfl⟩⟩
 case round=>
  obtain⟨i,rfl,hi1,hi2,hR,hG⟩:=hrel;by_cases hlt:i<N
  ·obtain⟨x,hx⟩:∃ x,qs[i]?=some x:=⟨_,List.getElem?_eq_getElem (by rw[HN.out];exact hlt)⟩;have HX:=hid hx;have HLT:=hid hlt;have HI1:=hid hi1;have R0:=hid (show VRow B wr (.slice (some ⟨g,0,none⟩) N c) (e0U idR qs i i x) by rw[i0M hx];exact hR.out);have wi:IntKind.i64.wrap ((i:Int)+1)=((i+1:Nat):Int):=by have:=HL.out;rw[IntWalk.i64_in _ ⟨by omega,by omega⟩];omega
   have t0:decide ((i:Int)<(N:Int))=true:=decide_eq_true (by omega);have t0':decide (i<N)=true:=decide_eq_true hlt;obtain⟨wo,hwo⟩:∃ q,q=wr:=⟨_,rfl⟩;subst hwo;clear hx hlt hi1 hi2 hR;go_wp2_with fail
   go_loopw [9] (fun s9 wx=>∃ j:Nat,s9=.int .i64 (j:Nat)∧j≤i∧Hid (VRow B wx (.slice (some ⟨g,0,none⟩) N c) (e0U idR qs i j x))∧Hid (∀ e∈(a0r idR (qs.take i)).drop j,idR e<idR x)∧Hid (w.grownBy wx (some g))) (fun s9 wx=>i-((i:Int)-intOf s9).toNat)
   case atStart=>exact⟨i,rfl,Nat.le_refl _,R0,hid (fun e he=>by rw[List.drop_of_length_le (by rw[a0N,List.length_take];omega)]at he;cases he),hG⟩
   case round=>
    obtain⟨j,rfl,hj,hRj,hLs,hGj⟩:=hrel;cases j with
    | zero=>
     have FIN:=hid (show VRow B wr (.slice (some ⟨g,0,none⟩) N c) (a0r idR (qs.take (i+1))++qs.drop (i+1)) by rw[← e0d HX.out (Nat.zero_le _) hLs.out (fun k y h=>by omega)];exact hRj.out);clear hj hRj hLs R0;have GD:=hid (show w.grownBy wr.drew (some g) from⟨hGj.out.os,hGj.out.tape,hGj.out.output,hGj.out.size,hGj.out.block⟩);have FD:=hid (FIN.out.call (Below.refl _ _).drew);go_wp2_with fail;refine a0f [0,1,2,3,4,5,6,7,8,9,10,11,12,13,14,15,16] 0 (fun _=>True) (by kernel_rfl) (by kernel_rfl) (by kernel_rfl) (by kernel_rfl) trivial ?_
     iterate 17
      refine⟨_,rfl,?_⟩;apply Exists.intro
      first
       | (refine⟨.inl ⟨by rfl,?_⟩,?_⟩
          ·(intro W' hW';clear hW';go_simp;try (with_reducible rfl)))
       | refine⟨.inr ⟨by rfl,rfl⟩,?_⟩
      (dsimp only[Act.put];try simp only[List.setIfInBounds_toArray,List.set_cons_zero,List.set_cons_succ])
     refine wpAnyH_done (by kernel_rfl) ?_ _;simp only[a0o];go_wp2_with fail;go_roundw
     case rel=>exact⟨i+1,by go_num,by have:=HI1.out;omega,by have:=HLT.out;omega,FD,GD⟩
     case measure=>simp[intOf]<;>(have:=HLT.out;omega)
    | succ k=>
     obtain⟨y,hy,hy2,hsw⟩:=f0p (key:=idR) (x:=x) (l:=qs) (i:=i) (j:=k) (by rw[HN.out];exact HLT.out) (by omega);have hself:=g0S (key:=idR) (x:=x) (l:=qs) (i:=i) (j:=k+1) (by rw[HN.out];exact HLT.out) hj;obtain⟨g1,m1,a1,n1,p1,b1,d1,e1,ee,-,-,k0,k1,k2,hQx⟩:=hRj.out.at hself;obtain rfl:g=g1:=by simpa using ee
     obtain⟨g2,m2,a2,n2,p2,b2,d2,e2,ee2,hBg,hglt,k3,k4,k5,hQy⟩:=hRj.out.at hy2;obtain rfl:g=g2:=by simpa using ee2
     have hyq:y∈qs:=List.mem_of_mem_take ((a0I idR (qs.take i)).mem_iff.1 (List.mem_of_getElem? hy));have hxq:x∈qs:=List.mem_of_getElem? HX.out;have PL:=fun V u v hu hv=>hid (q0L V u v x y hu hv (HD.out x hxq) (HD.out y hyq))
     have hcz:cmF y x<0↔y<x:=o0v;obtain⟨z,hz⟩:∃ z,cmF y x=z:=⟨_,rfl⟩;rw[hz]at PL hcz;have HCZ:=hid hcz;clear hcz hz;have QX:=hid hQx;have QY:=hid hQy;have HY:=hid hy;have HSW:=hid hsw;have HJ:=hid hj;have HBG:=hid hBg;have hN12:=HL.out;have hLT:=HLT.out;have t1:(0:Int)<((k+1:Nat):Int):=by omega
     have t1':(0:Int)<(k:Int)+1:=by omega
     obtain⟨J,hJJ⟩:∃ J,k+1=J:=⟨_,rfl⟩;have wj:IntKind.i64.wrap ((J:Int)-1)=(k:Int):=by rw[IntWalk.i64_in _ ⟨by omega,by omega⟩];omega
     rw[hJJ]at k0 k1 k2 t1 ⊢;have HJJ:=hid hJJ;have t3:decide ((0:Int)<(J:Int))=true:=decide_eq_true t1;have t4:0<J:=by omega
     have t5:decide (0<J)=true:=decide_eq_true t4;have f0:(0:Int)≤(J:Int):=by omega
     have f1:(J:Int)<(N:Int):=by omega
     have f2:(0:Int)≤(k:Int):=by omega
     have f3:(k:Int)<(N:Int):=by omega
     have KK:Hid (∀ V,Below wr.heap.size wr V→V.cell? ⟨g,J*3,none⟩=some (.bool m1)∧V.cell? ⟨g,J*3+1,none⟩=some (.slice a1 n1 p1)∧V.cell? ⟨g,J*3+2,none⟩=some (.slice b1 d1 e1)∧V.cell? ⟨g,k*3,none⟩=some (.bool m2)∧V.cell? ⟨g,k*3+1,none⟩=some (.slice a2 n2 p2)∧V.cell? ⟨g,k*3+2,none⟩=some (.slice b2 d2 e2)):=fun V hV=>
      ⟨(hV.cell (p:=⟨g,J*3,none⟩) hglt).trans k0,(hV.cell (p:=⟨g,J*3+1,none⟩) hglt).trans k1,(hV.cell (p:=⟨g,J*3+2,none⟩) hglt).trans k2,(hV.cell (p:=⟨g,k*3,none⟩) hglt).trans k3,(hV.cell (p:=⟨g,k*3+1,none⟩) hglt).trans k4,(hV.cell (p:=⟨g,k*3+2,none⟩) hglt).trans k5⟩
     clear hy hy2 hsw hself ee ee2 hQx hQy hyq hxq hBg hglt k0 k1 k2 k3 k4 k5 hJJ hj t1' hN12 hLT R0;go_wp2_with fail;refine a0f [0,1,2,3,4,5,6,7,8,9,10,11,12,13] 3 (fun V=>V.cell? ⟨g,J*3,none⟩=some (.bool m1)∧V.cell? ⟨g,J*3+1,none⟩=some (.slice a1 n1 p1)∧V.cell? ⟨g,J*3+2,none⟩=some (.slice b1 d1 e1)∧V.cell? ⟨g,k*3,none⟩=some (.bool m2)∧V.cell? ⟨g,k*3+1,none⟩=some (.slice a2 n2 p2)∧V.cell? ⟨g,k*3+2,none⟩=some (.slice b2 d2 e2)) (by kernel_rfl) (by kernel_rfl) (by kernel_rfl) (by kernel_rfl) (KK.out _ (Below.refl _ _).drew) ?_
     iterate 14
      refine⟨_,rfl,?_⟩;apply Exists.intro
      refine⟨.inl ⟨by rfl,?_⟩,?_⟩
      ·(intro W' hW';obtain⟨z1,z2,z3,z4,z5,z6⟩:=hW';go_simp;try (with_reducible rfl))
      (dsimp only[Act.put];try simp only[List.setIfInBounds_toArray,List.set_cons_zero,List.set_cons_succ])
     refine b0r (i:=14) (by kernel_rfl) (by rfl) (by rfl) ?_;go_wp2_with fail;refine (PL _ _ _ (QX.out.call (Below.refl _ _).drew) (QY.out.call (Below.refl _ _).drew)).out.mono ?_;rintro e w6 ⟨rfl,hb6⟩;have x6:=hid (show Below wr.heap.size wr w6 from (Below.refl _ _).drew.trans hb6);clear hb6;by_cases hyx:y<x
     ·have q0:decide (z<0)=true:=decide_eq_true (HCZ.out.2 hyx);have LS:=hid (h0e (key:=idR) HY.out hyx (by have h:=hLs.out;exact h));clear hyx;go_wp2_with fail;refine⟨KK.out _ x6.out,?_⟩;refine a0d (is:=[15,16]) (g:=0) (by kernel_rfl) rfl (KK.out _ x6.out) (by kernel_rfl) ?_
      iterate 2
       refine⟨_,rfl,?_⟩;apply Exists.intro
       refine⟨.inl ⟨by rfl,?_⟩,?_⟩
       ·(intro W' hW';obtain⟨z1,z2,z3,z4,z5,z6⟩:=hW';go_simp;try (with_reducible rfl))
       (dsimp only[Act.put];try simp only[List.setIfInBounds_toArray,List.set_cons_zero,List.set_cons_succ])
      refine wpAnyH_done (by kernel_rfl) ?_ _;simp only[a0o];have R6:=hid (hRj.out.call x6.out);obtain⟨z1,z2,z3,z4,z5,z6⟩:=KK.out _ x6.out;have h1:=R6.out.free (J*3);have h2:=R6.out.free (J*3+1);have h3:=R6.out.free (J*3+2);have h4:=R6.out.free (k*3);have h5:=R6.out.free (k*3+1);have h6:=R6.out.free (k*3+2);go_wp2_with fail;have ne1:(J*3=k*3)=False:=by have:=HJJ.out;simp;omega
      have ne2:(k*3=J*3)=False:=by have:=HJJ.out;simp;omega
      have ne3:(J*3=k*3+1)=False:=by have:=HJJ.out;simp;omega
      have ne4:(k*3+1=J*3)=False:=by have:=HJJ.out;simp;omega
      have ne5:(J*3=k*3+2)=False:=by have:=HJJ.out;simp;omega
      have ne6:(k*3+2=J*3)=False:=by have:=HJJ.out;simp;omega
      have ne7:(J*3+1=k*3)=False:=by have:=HJJ.out;simp;omega
      have ne8:(k*3=J*3+1)=False:=by have:=HJJ.out;simp;omega
      have ne9:(J*3+1=k*3+1)=False:=by have:=HJJ.out;simp;omega
      have ne10:(k*3+1=J*3+1)=False:=by have:=HJJ.out;simp;omega
      have ne11:(J*3+1=k*3+2)=False:=by have:=HJJ.out;simp;omega
      have ne12:(k*3+2=J*3+1)=False:=by have:=HJJ.out;simp;omega
      have ne13:(J*3+2=k*3)=False:=by have:=HJJ.out;simp;omega
      have ne14:(k*3=J*3+2)=False:=by have:=HJJ.out;simp;omega
      have ne15:(J*3+2=k*3+1)=False:=by have:=HJJ.out;simp;omega
      have ne16:(k*3+1=J*3+2)=False:=by have:=HJJ.out;simp;omega
      have ne17:(J*3+2=k*3+2)=False:=by have:=HJJ.out;simp;omega
      have ne18:(k*3+2=J*3+2)=False:=by have:=HJJ.out;simp;omega
      have ne0:(J=k)=False:=by have:=HJJ.out;simp;omega
      have ne00:(k=J)=False:=by have:=HJJ.out;simp;omega
      go_region
      have HSW2:((e0U idR qs i (k+1) x).set J y).set k x=e0U idR qs i k x:=by rw[← HJJ.out];exact HSW.out
      have hlen:(e0U idR qs i (k+1) x).length=N:=by rw[g0a (by rw[HN.out];exact HLT.out),HN.out]
      obtain⟨P1,P2⟩:=R6.out.put (i:=J) (by rw[hlen];have:=HLT.out;have:=HJ.out;have:=HJJ.out;omega) (QY.out.call x6.out);obtain⟨P3,-⟩:=P1.put (i:=k) (by rw[List.length_set,hlen];have:=HLT.out;have:=HJ.out;omega) (P2.isQ (QX.out.call x6.out));rw[HSW2]at P3;have RN:=hid (P3.call (Below.refl _ _).drew);have GN:=hid (f0s (((hGj.out.trans (b0c (r:=some g) x6.out)).trans (d0I (g:=g) (j:=J*3) (.bool m2) (.slice a2 n2 p2) (.slice b2 d2 e2))).trans (d0I (g:=g) (j:=k*3) (.bool m1) (.slice a1 n1 p1) (.slice b1 d1 e1))));clear P1 P2 P3 HSW2 hlen;go_wp2_with fail;go_roundw
      case rel=>exact⟨k,by go_num,by have:=HJ.out;omega,RN,LS,GN⟩
      case measure=>simp[intOf]<;>(have:=HJ.out;have:=HJJ.out;omega)
     ·have q0:decide (z<0)=false:=decide_eq_false fun e=>hyx (HCZ.out.1 e)
      have FIN:=hid (show VRow B wr (.slice (some ⟨g,0,none⟩) N c) (a0r idR (qs.take (i+1))++qs.drop (i+1)) by
       rw[← e0d HX.out HJ.out hLs.out (fun k2 y2 h h2=>by
        obtain rfl:k=k2:=by omega
        rw[HY.out]at h2;rw[← Option.some.inj h2];exact hyx)]
       exact hRj.out)
      have FD:=hid (FIN.out.call x6.out);have GD:=hid (hGj.out.trans (b0c (r:=some g) x6.out));clear hyx;go_wp2_with fail;refine⟨KK.out _ x6.out,?_⟩;refine a0d (is:=[15,16]) (g:=0) (by kernel_rfl) rfl (KK.out _ x6.out) (by kernel_rfl) ?_
      iterate 2
       refine⟨_,rfl,?_⟩;apply Exists.intro
       refine⟨.inl ⟨by rfl,?_⟩,?_⟩
       ·(intro W' hW';obtain⟨z1,z2,z3,z4,z5,z6⟩:=hW';go_simp;try (with_reducible rfl))
       (dsimp only[Act.put];try simp only[List.setIfInBounds_toArray,List.set_cons_zero,List.set_cons_succ])
      refine wpAnyH_done (by kernel_rfl) ?_ _;simp only[a0o];go_wp2_with fail;go_roundw
      case rel=>exact⟨i+1,by go_num,by have:=HI1.out;omega,by have:=HLT.out;omega,FD,GD⟩
      case measure=>simp[intOf]<;>(have:=HLT.out;omega)
  ·have t0:decide ((i:Int)<(N:Int))=false:=decide_eq_false (by omega);have t0':decide (i<N)=false:=decide_eq_false hlt
   have FIN:=hid (show VRow B wr (.slice (some ⟨g,0,none⟩) N c) (a0r idR qs) by
    have h:=hR.out;rw[List.take_of_length_le (by rw[HN.out];omega),List.drop_of_length_le (by rw[HN.out];omega),List.append_nil]at h;exact h)
   clear hlt hi1 hi2 hR;go_wp2_with fail;exact⟨rfl,.tuple #[],results_none (by kernel_rfl) _ _ _,rfl,FIN.out,hG.out⟩
theorem r0S (w:World)(B g c:Nat)(qs:List Rat)(N:Nat)(L:Int)(hN:qs.length=N)(hv:VRow B w (.slice (some ⟨g,0,none⟩) N c) qs)(hl:N≤12)(hd:∀ q∈qs,Lim q):
 Calls Tryz.prog 92 #[.slice (some ⟨g,0,none⟩) N c,.int .i64 0,.int .i64 (N:Nat),.int .i64 L,.func (.func 41) #[] #[]] w fun e w'=>e=.returned (.tuple #[])∧VRow B w' (.slice (some ⟨g,0,none⟩) N c) (a0r idR qs)∧w.grownBy w' (some g):=by
 have HI:=hid (r0T w B g c qs N hN hv hl hd);have w0:IntKind.i64.wrap (N:Int)=(N:Int):=by rw[IntWalk.i64_in _ ⟨by omega,by omega⟩]
 have w1:IntKind.i64.wrap ((N:Int)-0)=(N:Int):=by rw[IntWalk.i64_in _ ⟨by omega,by omega⟩];omega
 have t0:decide ((N:Int)≤12)=true:=decide_eq_true (by omega);have t1:decide (N≤12)=true:=decide_eq_true hl;clear hN hv hl hd;go_enter Tryz.func92,Tryz.ntmps92;go_wp2_with fail
 go_loopw [1,2,3,10,11,12,13,14,15,16,17,18,19,20] (fun s1 s2 s3 s10 s11 s12 s13 s14 s15 s16 s17 s18 s19 s20 wr=>s1=.int .i64 0∧s2=.int .i64 (N:Nat)∧w=wr) (fun s1 s2 s3 s10 s11 s12 s13 s14 s15 s16 s17 s18 s19 s20 wr=>1)
 case atStart=>exact⟨rfl,rfl,rfl⟩
 case round=>
  obtain⟨rfl,rfl,rfl⟩:=hrel;go_wp2_with fail;refine HI.out.mono ?_;rintro e w1 ⟨rfl,hr,hg⟩;have HR:=hid hr;have HG:=hid hg;clear hr hg;go_wp2_with fail;exact⟨rfl,.tuple #[],results_none (by kernel_rfl) _ _ _,rfl,HR.out,HG.out⟩
theorem o0Q (w:World)(B g c:Nat)(qs:List Rat)(N:Nat)(hN:qs.length=N)(hv:VRow B w (.slice (some ⟨g,0,none⟩) N c) qs)(hl:N≤12)(hd:∀ q∈qs,Lim q):
 Calls Tryz.prog 40 #[.slice (some ⟨g,0,none⟩) N c,.func (.func 41) #[] #[]] w fun e w'=>e=.returned (.tuple #[])∧VRow B w' (.slice (some ⟨g,0,none⟩) N c) (a0r idR qs)∧w.grownBy w' (some g):=by
 have HI:=fun L=>hid (r0S w B g c qs N L hN hv hl hd)
 have hbl:Calls Tryz.prog 93 #[.int .u64 (N:Int)] w fun e w'=>e=.returned (.int .i64 (Lib.bitLen N:Nat))∧w'=w:=by
  have h:=Any.bits_Len Tryz.lenW (N:Int) w (by omega) (by omega);rwa[Int.toNat_natCast]at h
 have wr:IntKind.u64.wrap (N:Int)=N:=by simp[IntKind.wrap,IntKind.bits,IntKind.signed];omega
 clear hN hv hl hd;go_enter Tryz.func40,Tryz.ntmps40;go_wp2_with fail;refine hbl.mono ?_;rintro e w' ⟨rfl,rfl⟩;go_wp2_with fail;refine (HI _).out.mono ?_;rintro e w1 ⟨rfl,hr,hg⟩;have HR:=hid hr;have HG:=hid hg;clear hr hg;go_wp2_with fail
 go_end0
 exact⟨rfl,HR.out,HG.out⟩
def h0k (q:Rat):Rat:=if q<0 then -q else q
theorem f0y (q:Rat):¬ (h0k q).num<0∧(h0k q).num.natAbs=q.num.natAbs∧(h0k q).den=q.den:=by
 unfold h0k;by_cases h:q<0
 ·rw[if_pos h];refine⟨?_,by rw[Rat.neg_num,Int.natAbs_neg],Rat.neg_den q⟩;have:(-q).num ≥ 0:=Rat.num_nonneg.2 (by grind);omega
 ·rw[if_neg h];refine⟨?_,rfl,rfl⟩;have:q.num ≥ 0:=Rat.num_nonneg.2 (by grind);omega
theorem p0D {W:World}{m:Bool}{x y:Value}{q:Rat}(h:IsQ .u64 W (.agg #[.bool m,x,y]) q):IsQ .u64 W (.agg #[.bool false,x,y]) (h0k q):=by
 obtain⟨N,D,e,h1,h2⟩:=h.ex;injection e with e
 have e2:=congrArg Array.toList e;injection e2 with e3 e4
 injection e4 with e5 e6
 injection e6 with e7 e8
 subst e5 e7;obtain⟨a1,a2,a3⟩:=f0y q;refine⟨x,y,?_,by rw[a2];exact h1,by rw[a3];exact h2⟩;rw[decide_eq_false a1]
theorem Lim.abs {q:Rat}(h:Lim q):Lim (h0k q):=by
 obtain⟨a1,a2,a3⟩:=f0y q;unfold Lim;rw[a2,a3];exact h
theorem s0n (w:World)(v:Value)(q:Rat)(h:IsQ .u64 w v q):
 Calls Tryz.prog 64 #[v] w fun e w'=>d0Q .u64 (h0k q) e w'∧Below w.heap.size w w':=by
 obtain⟨m1,a1,n1,c1,b1,d1,e1,rfl⟩:=h.qv;have A1:=hid ((Below.refl w.heap.size w).alloc (Nat.le_refl _) (.cells #[.bool m1,.slice a1 n1 c1,.slice b1 d1 e1] 57));have A2:=hid (A1.out.alloc A1.out.size (.cells #[.bool false,.slice none 0 0,.slice none 0 0] 57));have A3:=hid (A1.out.alloc A1.out.size (.cells #[.bool false,.slice a1 n1 c1,.slice b1 d1 e1] 57));have Q:=hid (p0D h);clear h;go_enter Tryz.func64,Tryz.ntmps64;go_wp2_with fail;refine bodyPost_ret (v:=.agg #[.bool false,.slice a1 n1 c1,.slice b1 d1 e1]) (by simp[results,Tryz.results64,go_sem]) rfl ⟨⟨_,rfl,?_⟩,?_⟩
 ·exact Q.out.call A3.out
 ·exact A3.out
def e0Y (H q:Rat):Bool:=decide (0<cmF (h0k q) H)
theorem h0Y {H q:Rat}:e0Y H q=decide (H<q∨q < -H):=by
 unfold e0Y;have h:0<cmF (h0k q) H↔H<h0k q:=by
  have:=m0l (p:=h0k q) (q:=H);have h2:H<h0k q ↔ ¬ h0k q≤H:=by grind
  rw[h2,← this];omega
 rw[decide_eq_decide,h];unfold h0k;by_cases hq:q<0
 ·rw[if_pos hq];grind
 ·rw[if_neg hq];grind
theorem r0U (w:World)(v:Value)(q H:Rat)(g:Nat)(hv:IsQ .u64 w v q)(lq:Lim q)(hg:FB w g H)(lH:Lim H):
 Calls Tryz.prog 63 #[v,.pointer (some ⟨g,0,none⟩)] w fun e w'=>e=.returned (.bool (e0Y H q))∧Below w.heap.size w w':=by
 obtain⟨m1,a1,n1,c1,b1,d1,e1,rfl⟩:=hv.qv;obtain⟨m2,a2,n2,c2,b2,d2,e2,hB,hQH⟩:=hg;obtain⟨W,hW⟩:∃ W,w.alloc (.cells #[.bool m1,.slice a1 n1 c1,.slice b1 d1 e1] 57)=W:=⟨_,rfl⟩;have y0:Below w.heap.size w W:=by rw[← hW];exact (Below.refl _ _).alloc (Nat.le_refl _) _
 have Y0:Blk W w.heap.size #[.bool m1,.slice a1 n1 c1,.slice b1 d1 e1] 57:=by rw[← hW];exact Blk.new w _ _
 have Y1:=hB.call y0;have KK:Hid (∀ w',Below W.heap.size W w'→w'.cell? ⟨w.heap.size,0,none⟩=some (.bool m1)∧w'.cell? ⟨w.heap.size,1,none⟩=some (.slice a1 n1 c1)∧w'.cell? ⟨w.heap.size,2,none⟩=some (.slice b1 d1 e1)∧w'.cell? ⟨g,0,none⟩=some (.bool m2)∧w'.cell? ⟨g,1,none⟩=some (.slice a2 n2 c2)∧w'.cell? ⟨g,2,none⟩=some (.slice b2 d2 e2)):=fun w' hb=>
  ⟨(Y0.call hb).cell 0,(Y0.call hb).cell 1,(Y0.call hb).cell 2,(Y1.call hb).cell 0,(Y1.call hb).cell 1,(Y1.call hb).cell 2⟩
 have Q1:=hid (hv.call y0);have Q2:=hid (hQH.call y0);have PA:=fun V u hu=>hid (s0n V u q hu)
 have la:=lq.abs;have PC:=fun V x y hx hy=>hid (l0O V x y (h0k q) H hx hy la.1 la.2 lH.1 lH.2)
 have HF:=hid (show decide (0<cmF (h0k q) H)=e0Y H q from rfl);obtain⟨z,hz⟩:∃ z,cmF (h0k q) H=z:=⟨_,rfl⟩;rw[hz]at PC HF;rw[← HF.out];have HY:=hid y0;have HW:=hid hW;clear Y0 Y1 y0 hB hQH hv lq lH hz HF la;go_enter Tryz.func63,Tryz.ntmps63;go_wp2_with fail;clear hW HW;refine a0f [0,2] 4 (fun w'=>w'.cell? ⟨w.heap.size,0,none⟩=some (.bool m1)∧w'.cell? ⟨w.heap.size,1,none⟩=some (.slice a1 n1 c1)∧w'.cell? ⟨w.heap.size,2,none⟩=some (.slice b1 d1 e1)∧w'.cell? ⟨g,0,none⟩=some (.bool m2)∧w'.cell? ⟨g,1,none⟩=some (.slice a2 n2 c2)∧w'.cell? ⟨g,2,none⟩=some (.slice b2 d2 e2)) (by kernel_rfl) (by kernel_rfl) (by kernel_rfl) (by kernel_rfl) (KK.out _ (Below.refl _ _).drew) ?_
 iterate 2
  refine⟨_,rfl,?_⟩;apply Exists.intro
  refine⟨.inl ⟨by rfl,?_⟩,?_⟩
  ·(intro W' hW';obtain⟨q1,q2,q3,q4,q5,q6⟩:=hW';go_simp;try (with_reducible rfl))
  (dsimp only[Act.put];try simp only[List.setIfInBounds_toArray,List.set_cons_zero,List.set_cons_succ])
 refine a0b (i:=1) (by kernel_rfl) (by rfl) (by rfl) ?_;go_wp2_with fail;refine (PA _ _ (Q1.out.call (Below.refl _ _).drew)).out.mono ?_;rintro e w1 ⟨⟨v1,rfl,hv1⟩,hb1⟩;obtain⟨m3,a3,n3,c3,b3,d3,e3,rfl⟩:=hv1.qv;have x1:=hid (show Below W.heap.size W w1 from (Below.refl _ _).drew.trans hb1);have V1:=hid hv1;clear hb1 hv1;go_wp2_with fail;refine⟨KK.out _ x1.out,?_⟩;refine a0b (i:=3) (by kernel_rfl) (by rfl) (by rfl) ?_;go_wp2_with fail;refine (PC _ _ _ V1.out (Q2.out.call x1.out)).out.mono ?_;rintro e w2 ⟨rfl,hb2⟩;have x2:=hid (a0a x1.out hb2);clear hb2;go_wp2_with fail;refine⟨KK.out _ x2.out,?_⟩;refine a0d (is:=[4,5]) (g:=0) (by kernel_rfl) rfl (KK.out _ x2.out) (by kernel_rfl) ?_
 iterate 2
  refine⟨_,rfl,?_⟩;apply Exists.intro
  refine⟨.inl ⟨by rfl,?_⟩,?_⟩
  ·(intro W' hW';obtain⟨q1,q2,q3,q4,q5,q6⟩:=hW';go_simp;try (with_reducible rfl))
  (dsimp only[Act.put];try simp only[List.setIfInBounds_toArray,List.set_cons_zero,List.set_cons_succ])
 refine wpAnyH_done (by kernel_rfl) ?_ _;simp only[a0o];have yy:=hid (a0a HY.out x2.out);go_wp2_with fail;go_ret
 exact⟨rfl,yy.out⟩
def o0o (p:Rat→Bool)(l:List Rat):Int:=if l.any p=true then (l.findIdx p:Nat) else -1
theorem m0S (w:World)(B:Nat)(v:Value)(qs:List Rat)(H:Rat)(g:Nat)(hv:VRow B w v qs)(hl:qs.length≤64)(hd:∀ q∈qs,Lim q)(hg:FB w g H)(lH:Lim H):
 Calls Tryz.prog 113 #[v,.func (.func 63) #[] #[.pointer (some ⟨g,0,none⟩)]] w fun e w'=>e=.returned (.int .i64 (o0o (e0Y H) qs))∧Below w.heap.size w w':=by
 obtain⟨a,c,rfl,c1,c2⟩:=hv.slice;obtain⟨n,hn⟩:∃ n,qs.length=n:=⟨_,rfl⟩;rw[hn]at hv c1 hl ⊢;have HV:=hid hv;have HN:=hid hn;have HD:=hid hd;have HG:=hid hg;have LH:=hid lH;clear hv hn hd hg lH;go_enter Tryz.func113,Tryz.ntmps113;go_wp2_with fail
 go_loopw [8] (fun ii wr=>∃ i:Nat,ii=.int .i64 i∧i≤n∧Hid (∀ j x,j<i→qs[j]?=some x→e0Y H x=false)∧Hid (Below w.heap.size w wr)) (fun ii wr=>n-(intOf ii).toNat)
 case atStart=>exact⟨0,rfl,Nat.zero_le _,fun j x hj=>absurd hj (by omega),Below.refl _ _⟩
 case round=>
  obtain⟨i,rfl,hi,hI,hB⟩:=hrel;by_cases hlt:i<n
  ·obtain⟨x,hx⟩:∃ x,qs[i]?=some x:=⟨_,List.getElem?_eq_getElem (by rw[HN.out];exact hlt)⟩;obtain⟨g1,m1,a1,n1,p1,b1,d1,e1,rfl,-,hg1,k0,k1,k2,hQx⟩:=(HV.out.call hB.out).at hx;have HX:=hid hx;have b1':(0:Int)≤(i:Int):=by omega
   have b2':(i:Int)<(n:Int):=by omega
   have wi:IntKind.i64.wrap ((i:Int)+1)=((i+1:Nat):Int):=by rw[IntWalk.i64_in _ ⟨by omega,by omega⟩];omega
   have LX:=hid (HD.out x (List.mem_of_getElem? hx));have QX:=hid hQx;obtain⟨z,hz⟩:∃ z,e0Y H x=z:=⟨_,rfl⟩;have C:=hid (hz ▸ r0U wr _ x H g QX.out LX.out (HG.out.call hB.out) LH.out);have HZ:=hid hz;clear hx hz hQx;go_wp2_with fail;refine C.out.mono ?_;rintro e w1 ⟨rfl,hb1⟩;have B1:=hid (a0a hB.out hb1);clear hb1;cases z
   ·go_wp2_with fail;go_roundw
    case rel=>exact⟨i+1,by go_num,by omega,fun j y hj hy=>by
     rcases Nat.lt_or_ge j i with h | h
     ·exact hI.out j y h hy
     ·obtain rfl:j=i:=by omega
      rw[HX.out]at hy;cases hy;exact HZ.out,B1⟩
    case measure=>simp[intOf]<;>omega
   ·have hA:qs.any (e0Y H)=true:=List.any_eq_true.2 ⟨x,List.mem_of_getElem? HX.out,HZ.out⟩;have hfi:qs.findIdx (e0Y H)=i:=by
     have hil:i<qs.length:=by rw[HN.out];exact hlt
     rw[List.findIdx_eq hil];refine⟨?_,fun j hj=>?_⟩
     ·have:=HX.out;rw[List.getElem?_eq_getElem hil]at this;rw[Option.some.inj this];exact HZ.out
     ·exact hI.out j _ hj (List.getElem?_eq_getElem (Nat.lt_trans hj hil))
    have HE:=hid (show o0o (e0Y H) qs=(i:Int) from by rw[o0o,if_pos hA,hfi]);clear hA hfi;go_wp2_with fail;go_ret
    exact⟨by rw[HE.out];rfl,B1.out⟩
  ·obtain rfl:i=n:=by omega
   have hA:¬ qs.any (e0Y H)=true:=fun h=>by
    obtain⟨x,hx,hp⟩:=List.any_eq_true.1 h;obtain⟨j,hj⟩:=List.getElem?_of_mem hx;have:=hI.out j x (by rw[← HN.out];exact (List.getElem?_eq_some_iff.1 hj).1) hj;rw[this]at hp;cases hp
   have HE:=hid (show o0o (e0Y H) qs = -1 from by rw[o0o,if_neg hA]);have q0:decide ((i:Int)<(i:Int))=false:=by simp
   have q1:decide (i<i)=false:=by simp
   clear hA hlt;go_wp2_with fail;go_ret
   exact⟨by rw[HE.out];rfl,hB.out⟩
theorem k0C (w:World)(B:Nat)(v:Value)(qs:List Rat)(H:Rat)(g:Nat)(hv:VRow B w v qs)(hl:qs.length≤64)(hd:∀ q∈qs,Lim q)(hg:FB w g H)(lH:Lim H):
 Calls Tryz.prog 62 #[v,.func (.func 63) #[] #[.pointer (some ⟨g,0,none⟩)]] w fun e w'=>e=.returned (.bool (qs.any (e0Y H)))∧Below w.heap.size w w':=by
 have HI:=hid (m0S w B v qs H g hv hl hd hg lH)
 have HB:=hid (show decide (0≤o0o (e0Y H) qs)=qs.any (e0Y H) from by
  unfold o0o;cases h:qs.any (e0Y H)
  ·rw[if_neg (by simp)];rfl
  ·rw[if_pos rfl];simp)
 rw[← HB.out];obtain⟨a,c,rfl,-⟩:=hv.slice;generalize o0o (e0Y H) qs=z at *
 clear hv hd hg lH;go_enter Tryz.func62,Tryz.ntmps62;go_wp2_with fail;refine HI.out.mono ?_;rintro e w1 ⟨rfl,hb1⟩;have B1:=hid hb1;clear hb1;go_wp2_with fail;go_ret
 exact⟨rfl,B1.out⟩
end Go.Proofs.YtlimaehdmcnjaaaGreatDoor
namespace Go.Proofs.YtlimaehdmcnjaaaGreatDoor
open Go.RowKit
open Go.Lib (decDigits nDigits)
theorem Dn.posQ {D B:Nat}{q:Rat}(h:Dn D B q):Dn D B (Go.Proofs.YtlimaehdmcnjaaaGreatDoor.pos q):=by
 unfold Go.Proofs.YtlimaehdmcnjaaaGreatDoor.pos
 split
 ·exact Dn.zero h.1
 ·exact h
def f12:Nat:=479001600
theorem l0Q:0<f12:=by decide
theorem r0z:f12≤10 ^ 9:=by decide
theorem p0T {j:Nat}(h1:1≤j)(h2:j≤12):j∣f12:=by
 have:∀ j,j<13→1≤j→f12%j=0:=by decide +kernel
 exact Nat.dvd_of_mod_eq_zero (this j (by omega) h1)
theorem Dn.over12 {D B j:Nat}{q:Rat}(h:Dn D B q)(h1:1≤j)(h2:j≤12):Dn (D*f12) B (q / ((j:Nat):Rat)):=
 (h.over (k:=j) (by omega)).dvd (Nat.mul_pos h.1 l0Q) (Nat.mul_dvd_mul_left _ (p0T h1 h2))
open Go.Shelf
theorem q0Y (w:World)(s:ByteArray)(F:Nat)(cs:Array Value)(R:ByteArray)(x:Int)(hs:s.size≤1000000)(hL:Lay w)
 (hen:∀ args w,(callFunc F args).run Tryz.prog w=.ok (.enter F args) w)
 (hF:∀ W v,qE s=0→Below w.heap.size w W→IsQ .u64 W v (vQ s)→Lay W→Calls Tryz.prog F (#[v]++cs) W fun e w'=>e=.returned (.tuple #[.string R,.int .i64 x])∧Below W.heap.size W w'):
 Calls Tryz.prog 154 #[.string s,.func (.func F) #[] cs] w fun e w'=>e=.returned (.tuple #[.string (wB R s),.int .i64 (wE x s)])∧Below w.heap.size w w':=by
 have HP:=hid (e0K w s hs hL);have HL:=hid hL;have HF:=hid hF;clear hF hs hL;by_cases h1:qE s=0
 ·have e1:wB R s=R:=if_pos h1;have e2:wE x s=x:=if_pos h1;rw[e1,e2];have HQ:=hid h1;rw[h1]at HP;clear h1 e1 e2;go_enter Tryz.func154,Tryz.ntmps154;go_wp2_with fail;refine HP.out.mono ?_;rintro e w1 ⟨⟨v,rfl,hv,-⟩,hb1⟩;have hq:=i0L HQ.out (hv rfl);have y1:=hid hb1;obtain⟨N,D,hvv,hN,hD⟩:=hv rfl;subst hvv;obtain⟨a,c,rfl,_⟩:=hN.openI;obtain⟨a',c',rfl,_⟩:=hD.openI;obtain⟨k,hk⟩:∃ k,(limbs (bN (iD (cW s)))).length=k:=⟨_,rfl⟩;obtain⟨k',hk'⟩:∃ k,(limbs (bN (qD s))).length=k:=⟨_,rfl⟩;obtain⟨m,hm⟩:∃ m,iM (cW s)=m:=⟨_,rfl⟩;rw[hk,hk',hm]at hq;rw[hk,hk',hm];have Q1:=hid hq;have X2:=hid (Blk.new w1 #[.bool m,.slice a k c,.slice a' k' c'] 57);have b2:=hid ((Below.refl w1.heap.size w1).alloc (Nat.le_refl _) (.cells #[.bool m,.slice a k c,.slice a' k' c'] 57));have y2:=hid (a0a y1.out b2.out);have Q2:=hid (hq.call b2.out);have r0:=X2.out.cell 0;have r1:=X2.out.cell 1;have r2:=X2.out.cell 2;simp at r0 r1 r2;clear hb1 hv hN hD hk hk' hm hq b2;go_wp2_with fail;refine (HF.out _ _ HQ.out y2.out Q2.out (HL.out.call y2.out)).mono ?_;rintro e w3 ⟨rfl,hb3⟩;have y3:=hid (a0a y2.out hb3);clear hb3;go_wp2_with fail;go_ret2
  exact⟨rfl,y3.out⟩
 ·have e1:wB R s=⟨#[]⟩:=if_neg h1;have e2:wE x s=qE s:=if_neg h1;rw[e1,e2];obtain⟨y,hy⟩:∃ y,qE s=y:=⟨_,rfl⟩;rw[hy]at HP h1 ⊢;have q0:(y==0)=false:=by simpa using h1
  have q1:(y != 0)=true:=by simpa using h1
  have H1:=hid h1;clear e1 e2 hy h1;go_enter Tryz.func154,Tryz.ntmps154;go_wp2_with fail;refine HP.out.mono ?_;rintro e w1 ⟨⟨v,rfl,-,hv⟩,hb1⟩;have hv':=hv H1.out;subst hv';have y1:=hid hb1;have y2:=hid (y1.out.alloc y1.out.size (.cells #[.bool false,.slice none 0 0,.slice none 0 0] 57));clear hb1 hv;go_wp2_with fail;go_ret2
  exact⟨rfl,y2.out⟩
def flQ (q:Rat):Rat:=((q.floor:Int):Rat)
def flN (q:Rat):Nat:=if q.num<0∧q.num.natAbs%q.den≠0 then q.num.natAbs / q.den+1 else q.num.natAbs / q.den
theorem n0I {z:Int}{a d:Nat}(hd:0<d)(hz:z.natAbs=a):z / (d:Int)=if z<0 then -(((if z<0∧a%d≠0 then a / d+1 else a / d):Nat):Int) else (((if z<0∧a%d≠0 then a / d+1 else a / d):Nat):Int):=by
 have e2:=Nat.mod_add_div a d;have r2:=Nat.mod_lt a hd;obtain⟨Q,hQ⟩:∃ Q,a / d=Q:=⟨_,rfl⟩;obtain⟨R,hR⟩:∃ R,a%d=R:=⟨_,rfl⟩;rw[hQ,hR]at e2;rw[hR]at r2;rw[hQ,hR];have e3:((R:Nat):Int)+(d:Int)*(Q:Int)=(a:Int):=by exact_mod_cast e2
 have hd':(0:Int)<(d:Int):=by omega
 by_cases h:z<0
 ·rw[if_pos h];by_cases hr:R=0
  ·rw[if_neg (fun x=>x.2 hr)];refine ((Int.ediv_emod_unique (r:=0) hd').2 ⟨?_,by omega,by omega⟩).1;rw[Int.mul_neg];omega
  ·rw[if_pos ⟨h,hr⟩];refine ((Int.ediv_emod_unique (r:=(d:Int)-R) hd').2 ⟨?_,by omega,by omega⟩).1;rw[Int.mul_neg,Int.natCast_add,Int.mul_add];omega
 ·rw[if_neg h,if_neg (fun x=>h x.1)];refine ((Int.ediv_emod_unique (r:=(R:Int)) hd').2 ⟨by omega,by omega,by omega⟩).1
theorem h0X (q:Rat):q.floor=if q.num<0 then -((flN q:Nat):Int) else ((flN q:Nat):Int):=by
 rw[Rat.floor_def];exact n0I q.den_pos rfl
theorem e0I (q:Rat):decide ((flQ q).num<0)=(decide (q.num<0) && !isZ (flN q))∧(flQ q).num.natAbs=flN q∧(flQ q).den=1:=by
 have h:=h0X q;unfold flQ;rw[Rat.num_intCast,Rat.den_intCast];refine⟨?_,?_,rfl⟩
 ·rw[Bool.eq_iff_iff];unfold isZ;simp only[Bool.and_eq_true,Bool.not_eq_true',decide_eq_true_eq,decide_eq_false_iff_not]
  split at h<;>omega
 ·split at h<;>omega
theorem r0x (q:Rat):flN q≤q.num.natAbs+1:=by
 have:=Nat.div_le_self q.num.natAbs q.den;unfold flN
 split<;>omega
theorem c0p {K:Nat}{q:Rat}(h:Dig K q):Dig (K+1) (flQ q):=by
 obtain⟨-,h2,h3⟩:=e0I q;have h4:=r0x q;have h5:=h.n;have h6:1≤10 ^ K:=Nat.pow_pos (by omega);refine⟨?_,?_⟩
 ·rw[h2,Nat.pow_succ];omega
 ·rw[h3,Nat.pow_succ];omega
theorem i0K (R:Nat):isZ R=true↔R=0:=by unfold isZ;simp
theorem n0j (w:World)(v:Value)(q:Rat)(g1:Nat)(hp:IsQ .u64 w v q)(K:Nat)(hK:K≤4000)(hK0:0<K)(hd:Dig K q)(hL:Lay w)(c1:w.cell? ⟨g1,0,none⟩=some (.bool false)):
 Calls Tryz.prog 155 #[v,.pointer (some ⟨g1,0,none⟩)] w fun e w'=>e=.returned (.tuple #[.string (d0A (flQ q)),.int .i64 (d0g (flQ q))])∧Below w.heap.size w w':=by
 have hdf:=(c0p hd).lim (L:=1000000) (by omega);have F3:=fun V v hv hV=>hid (r0y V v (flQ q) hv hdf.1 hdf.2 hV)
 have hq1:=hd.lim (L:=1000000) (by omega);have PD:=fun V v u h1 h2=>hid (e0c V v u q.num.natAbs q.den h1 h2 q.den_pos hq1.1)
 have PO:=fun V=>hid (r0r V 1 (by omega))
 have hqq:(limbs (q.num.natAbs / q.den)).length≤1000000:=by
  have h1:q.num.natAbs / q.den<10 ^ K:=Nat.lt_of_le_of_lt (Nat.div_le_self _ _) hd.n;have h2:Dig K (((q.num.natAbs / q.den:Nat):Rat)):=⟨by rw[Rat.num_natCast];exact h1,by rw[Rat.den_natCast];exact Nat.one_lt_pow (by omega) (by omega)⟩;have h3:=(h2.lim (L:=1000000) (by omega)).1;rw[Rat.num_natCast]at h3;exact h3
 have h1l:(limbs 1).length≤1000000:=(m0d.lim (L:=1000000) (by omega)).2;have PA:=fun V v u h1 h2=>hid (r0u V v u (q.num.natAbs / q.den) 1 h1 h2 hqq h1l)
 obtain⟨p1,p2,p3⟩:=e0I q;have hN:flN q=if q.num<0∧q.num.natAbs%q.den≠0 then q.num.natAbs / q.den+1 else q.num.natAbs / q.den:=rfl
 have HQ:=hid (show ∀ W x y,IsN .u64 W x (flN q)→IsN .u64 W y 1→IsQ .u64 W (.agg #[.bool (decide (q.num<0) && !isZ (flN q)),x,y]) (flQ q) from fun W x y hx hy=>⟨x,y,by rw[p1],by rw[p2];exact hx,by rw[p3];exact hy⟩);have PZ:=fun V v k h=>hid (f0n V v k h)
 obtain⟨B,hB⟩:∃ B,d0A (flQ q)=B:=⟨_,rfl⟩;obtain⟨E,hE⟩:∃ E,d0g (flQ q)=E:=⟨_,rfl⟩;rw[hB,hE]at F3;rw[hB,hE];clear hB hE p1 p2 p3 hdf hq1 hqq h1l;have HL:=hid hL;obtain⟨N1,D1,rfl,hn1,hd1⟩:=hp.ex;obtain⟨a1,c1',rfl,_⟩:=hn1.openI;obtain⟨a2,c2',rfl,_⟩:=hd1.openI;obtain⟨k1,hk1⟩:∃ k,(limbs q.num.natAbs).length=k:=⟨_,rfl⟩;obtain⟨k2,hk2⟩:∃ k,(limbs q.den).length=k:=⟨_,rfl⟩;obtain⟨m,hm⟩:∃ m,decide (q.num<0)=m:=⟨_,rfl⟩;have hmm:q.num<0↔m=true:=by rw[← hm];simp
 simp only[hmm]at hN;rw[hk1,hk2,hm]at hp ⊢;rw[hk1]at hn1;rw[hk2]at hd1;rw[hm]at HQ;obtain⟨F,hF⟩:∃ F,flN q=F:=⟨_,rfl⟩;rw[hF]at HQ hN;obtain⟨Q,hQ⟩:∃ Q,q.num.natAbs / q.den=Q:=⟨_,rfl⟩;obtain⟨R,hR⟩:∃ R,q.num.natAbs%q.den=R:=⟨_,rfl⟩;rw[hQ,hR]at PD hN;rw[hQ]at PA;have N0:=hid hn1;have D0:=hid hd1;have HNN:=hid hN;have A1:=hid ((Below.refl w.heap.size w).alloc (Nat.le_refl _) (.cells #[.bool m,.slice a1 k1 c1',.slice a2 k2 c2'] 57));have X1:=hid (Blk.new w #[.bool m,.slice a1 k1 c1',.slice a2 k2 c2'] 57);have C1:=hid c1;have g1lt:g1<w.heap.size:=a0z c1;have G1:=hid g1lt;clear hn1 hd1 hp hk1 hk2 hm hmm hF hQ hR hL hd hN;have c1x:=(A1.out.cell (p:=⟨g1,0,none⟩) G1.out).trans C1.out;have r0:=X1.out.cell 0;have r1:=X1.out.cell 1;have r2:=X1.out.cell 2;simp at r0 r1 r2;clear c1 g1lt;go_enter Tryz.func155,Tryz.ntmps155;go_wp2_with fail;refine (PD _ _ _ (N0.out.call A1.out) (D0.out.call A1.out)).out.mono ?_;rintro e w1 ⟨⟨v1,v2,rfl,hv1,hv2⟩,hb1⟩;obtain⟨a3,c3,rfl,_⟩:=hv1.openI;obtain⟨a4,c4,rfl,_⟩:=hv2.openI;have x1:=hid (X1.out.call hb1);have y1:=hid (a0a A1.out hb1);have V1:=hid hv1;have V2:=hid hv2;clear hb1 hv1 hv2 c1x r0 r1 r2;go_wp2_with fail;refine (PZ _ _ _ V2.out).out.mono ?_;rintro e w2 ⟨rfl,rfl⟩;have c1x:=(y1.out.cell (p:=⟨g1,0,none⟩) G1.out).trans C1.out;have r0:=x1.out.cell 0;simp at r0;have HZ:=i0K R;cases hz:isZ R<;>cases m
 ·have hF:F=Q:=by rw[HNN.out,if_neg (by simp)]
  clear HNN HZ;subst hF;go_wp2_with fail;refine (PO _).out.mono ?_;rintro e w7 ⟨⟨u7,rfl,hu7⟩,hb7⟩;have y7:=hid (a0a y1.out hb7);have V7:=hid (V1.out.call hb7);obtain⟨a7,c7,rfl,_⟩:=hu7.openI;have Q7:=hid (HQ.out w7 _ _ V7.out hu7);have L7:=hid (HL.out.call y7.out);clear hb7 hu7;go_wp2_with fail;refine (F3 _ _ Q7.out L7.out).out.mono ?_;rintro e w8 ⟨rfl,hb8⟩;have y8:=hid (a0a y7.out hb8);clear hb8;go_wp2_with fail;go_ret2
  exact⟨rfl,y8.out⟩
 ·have hF:F=Q+1:=by rw[HNN.out,if_pos ⟨rfl,fun e=>by rw[HZ.2 e]at hz;cases hz⟩]
  clear HNN HZ;subst hF;go_wp2_with fail;refine (PO _).out.mono ?_;rintro e w3 ⟨⟨u3,rfl,hu3⟩,hb3⟩;have y3:=hid (a0a y1.out hb3);have V3:=hid (V1.out.call hb3);have U3:=hid hu3;have x3:=hid (x1.out.call hb3);obtain⟨a5,c5,rfl,_⟩:=hu3.openI;clear hb3 hu3 r0;go_wp2_with fail;refine (PA _ _ _ V3.out U3.out).out.mono ?_;rintro e w4 ⟨⟨u4,rfl,hu4⟩,hb4⟩;have y4:=hid (a0a y3.out hb4);have V4:=hid hu4;have x4:=hid (x3.out.call hb4);obtain⟨a6,c6,rfl,_⟩:=hu4.openI;clear hb4 hu4;have q0:=x4.out.cell 0;simp at q0;go_wp2_with fail;refine (PZ _ _ _ V4.out).out.mono ?_;rintro e w5 ⟨rfl,rfl⟩;cases hz2:isZ (Q+1)
  ·go_wp2_with fail;refine (PO _).out.mono ?_;rintro e w7 ⟨⟨u7,rfl,hu7⟩,hb7⟩;have y7:=hid (a0a y4.out hb7);have V7:=hid (V4.out.call hb7);obtain⟨a7,c7,rfl,_⟩:=hu7.openI;have Q7:=hid (HQ.out w7 _ _ V7.out hu7);rw[hz2]at Q7;have L7:=hid (HL.out.call y7.out);clear hb7 hu7;go_wp2_with fail;refine (F3 _ _ Q7.out L7.out).out.mono ?_;rintro e w8 ⟨rfl,hb8⟩;have y8:=hid (a0a y7.out hb8);clear hb8;go_wp2_with fail;go_ret2
   exact⟨rfl,y8.out⟩
  ·go_wp2_with fail;refine (PO _).out.mono ?_;rintro e w7 ⟨⟨u7,rfl,hu7⟩,hb7⟩;have y7:=hid (a0a y4.out hb7);have V7:=hid (V4.out.call hb7);obtain⟨a7,c7,rfl,_⟩:=hu7.openI;have Q7:=hid (HQ.out w7 _ _ V7.out hu7);rw[hz2]at Q7;have L7:=hid (HL.out.call y7.out);clear hb7 hu7;go_wp2_with fail;refine (F3 _ _ Q7.out L7.out).out.mono ?_;rintro e w8 ⟨rfl,hb8⟩;have y8:=hid (a0a y7.out hb8);clear hb8;go_wp2_with fail;go_ret2
   exact⟨rfl,y8.out⟩
 ·have hF:F=Q:=by rw[HNN.out,if_neg (by simp)]
  clear HNN HZ;subst hF;go_wp2_with fail;refine (PO _).out.mono ?_;rintro e w7 ⟨⟨u7,rfl,hu7⟩,hb7⟩;have y7:=hid (a0a y1.out hb7);have V7:=hid (V1.out.call hb7);obtain⟨a7,c7,rfl,_⟩:=hu7.openI;have Q7:=hid (HQ.out w7 _ _ V7.out hu7);have L7:=hid (HL.out.call y7.out);clear hb7 hu7;go_wp2_with fail;refine (F3 _ _ Q7.out L7.out).out.mono ?_;rintro e w8 ⟨rfl,hb8⟩;have y8:=hid (a0a y7.out hb8);clear hb8;go_wp2_with fail;go_ret2
  exact⟨rfl,y8.out⟩
 ·have hF:F=Q:=by rw[HNN.out,if_neg (fun h=>h.2 (HZ.1 hz))]
  clear HNN HZ;subst hF;go_wp2_with fail;refine (PZ _ _ _ V1.out).out.mono ?_;rintro e w5 ⟨rfl,rfl⟩;cases hz2:isZ F
  ·go_wp2_with fail;refine (PO _).out.mono ?_;rintro e w7 ⟨⟨u7,rfl,hu7⟩,hb7⟩;have y7:=hid (a0a y1.out hb7);have V7:=hid (V1.out.call hb7);obtain⟨a7,c7,rfl,_⟩:=hu7.openI;have Q7:=hid (HQ.out w7 _ _ V7.out hu7);rw[hz2]at Q7;have L7:=hid (HL.out.call y7.out);clear hb7 hu7;go_wp2_with fail;refine (F3 _ _ Q7.out L7.out).out.mono ?_;rintro e w8 ⟨rfl,hb8⟩;have y8:=hid (a0a y7.out hb8);clear hb8;go_wp2_with fail;go_ret2
   exact⟨rfl,y8.out⟩
  ·go_wp2_with fail;refine (PO _).out.mono ?_;rintro e w7 ⟨⟨u7,rfl,hu7⟩,hb7⟩;have y7:=hid (a0a y1.out hb7);have V7:=hid (V1.out.call hb7);obtain⟨a7,c7,rfl,_⟩:=hu7.openI;have Q7:=hid (HQ.out w7 _ _ V7.out hu7);rw[hz2]at Q7;have L7:=hid (HL.out.call y7.out);clear hb7 hu7;go_wp2_with fail;refine (F3 _ _ Q7.out L7.out).out.mono ?_;rintro e w8 ⟨rfl,hb8⟩;have y8:=hid (a0a y7.out hb8);clear hb8;go_wp2_with fail;go_ret2
   exact⟨rfl,y8.out⟩
def j0N (s:ByteArray):ByteArray:=wB (d0A (flQ (vQ s))) s
def p0Q (s:ByteArray):Int:=wE (d0g (flQ (vQ s))) s
theorem p0j (w:World)(s:ByteArray)(hs:s.size≤1000000)(hL:Lay w):
 Calls Tryz.prog 114 #[.string s,.bool false] w fun e w'=>e=.returned (.tuple #[.string (j0N s),.int .i64 (p0Q s)])∧Below w.heap.size w w':=by
 have HL:=hid hL;have b1:=hid ((Below.refl w.heap.size w).alloc (Nat.le_refl _) (.cells #[.bool false] 4));have X1:=hid (Blk.new w #[.bool false] 4);obtain⟨g1,hg1⟩:∃ g,w.heap.size=g:=⟨_,rfl⟩;obtain⟨w1,hw1⟩:∃ w1,w.alloc (.cells #[.bool false] 4)=w1:=⟨_,rfl⟩;have L1:=hid (HL.out.call b1.out);rw[hw1]at b1 X1 L1;rw[hg1]at X1
 have W1:=hid (q0Y w1 s 155 #[.pointer (some ⟨g1,0,none⟩)] (d0A (flQ (vQ s))) (d0g (flQ (vQ s))) hs L1.out (enters_of Tryz.func155 (by kernel_rfl) rfl)
  (fun W v hq hb hv hLW=>n0j W v (vQ s) g1 hv 4000 (Nat.le_refl _) (by omega) (i0Y hq) hLW ((X1.out.call hb).cell 0)))
 have e1:wB (d0A (flQ (vQ s))) s=j0N s:=rfl;have e2:wE (d0g (flQ (vQ s))) s=p0Q s:=rfl;rw[e1,e2]at W1;obtain⟨B,hB⟩:∃ B,j0N s=B:=⟨_,rfl⟩;obtain⟨E,hE⟩:∃ E,p0Q s=E:=⟨_,rfl⟩;rw[hB,hE]at W1;rw[hB,hE];clear hB hE hs hL e1 e2;go_enter Tryz.func114,Tryz.ntmps114;go_wp2_with fail;refine W1.out.mono ?_;rintro e w2 ⟨rfl,hb2⟩;have y2:=hid (a0a b1.out hb2);clear hb2;go_wp2_with fail;go_ret2
 exact⟨rfl,y2.out⟩
theorem p0k (w:World)(s:ByteArray)(hs:s.size≤1000000)(hL:Lay w):
 Calls Tryz.prog 65 #[.string s] w fun e w'=>e=.returned (.tuple #[.string (j0N s),.int .i64 (p0Q s)])∧Below w.heap.size w w':=by
 have W1:=hid (p0j w s hs hL);obtain⟨B,hB⟩:∃ B,j0N s=B:=⟨_,rfl⟩;obtain⟨E,hE⟩:∃ E,p0Q s=E:=⟨_,rfl⟩;rw[hB,hE]at W1;rw[hB,hE];clear hB hE hs hL;go_enter Tryz.func65,Tryz.ntmps65;go_wp2_with fail;refine W1.out.mono ?_;rintro e w2 ⟨rfl,hb2⟩;have y2:=hid hb2;clear hb2;go_wp2_with fail;go_ret2
 exact⟨rfl,y2.out⟩
end Go.Proofs.YtlimaehdmcnjaaaGreatDoor
namespace Go.Proofs.YtlimaehdmcnjaaaGreatDoor
open Go.RowKit
open Go.Lib (decDigits nDigits)
def alQ (qs:List Rat)(i:Nat):Rat:=rs qs-rs ((qs.take i).map flQ)
theorem m0y (qs:List Rat):alQ qs 0=rs qs:=by
 unfold alQ;rw[List.take_zero,List.map_nil];show rs qs-0=_
 grind
theorem m0z {qs:List Rat}{i:Nat}{q:Rat}(h:qs[i]?=some q):alQ qs (i+1)=alQ qs i-flQ q:=by
 unfold alQ;rw[List.take_add_one,h,Option.toList_some,List.map_append,List.map_cons,List.map_nil,a0Y];show _-(_+(flQ q+0))=_
 grind
theorem o0S:∀ qs:List Rat,rs qs-rs (qs.map flQ)=rs (qs.map fpt)
 | []=>by show (0:Rat)-0=0;grind
 | q::r=>by
  have:=o0S r;rw[List.map_cons,List.map_cons,rs,rs,rs,← this];unfold fpt flQ
  grind
theorem o0y (qs:List Rat):alQ qs qs.length=rs (qs.map fpt):=by
 unfold alQ;rw[List.take_length,o0S]
theorem o0e:∀ qs:List Rat,0≤rs (qs.map fpt)∧rs (qs.map fpt)≤((qs.length:Nat):Rat)
 | []=>⟨by show (0:Rat)≤0;grind,by show (0:Rat)≤((0:Nat):Rat);exact Rat.le_refl⟩
 | q::r=>by
  obtain⟨h1,h2⟩:=o0e r;have h3:=l0G q;have h4:=o0r q;rw[List.map_cons,rs,List.length_cons];have e:((r.length+1:Nat):Rat)=((r.length:Nat):Rat)+1:=by rw[Rat.natCast_add];rfl
  rw[e]
  constructor<;>grind
theorem k0F {qs:List Rat}(h:(rs qs).den=1):rdM qs≤qs.length∧rs (qs.map fpt)=((rdM qs:Nat):Rat):=by
 obtain⟨h1,h2⟩:=o0e qs;have hi:rs (qs.map fpt)=(((rs qs).num-(qs.map Rat.floor).sum:Int):Rat):=by
  rw[← o0S];have e1:rs qs=(((rs qs).num:Int):Rat):=by
   conv=>lhs;rw[← Rat.mkRat_self (rs qs),h,Rat.mkRat_one]
  have e2:∀ l:List Rat,rs (l.map flQ)=(((l.map Rat.floor).sum:Int):Rat):=by
   intro l
   induction l with
   | nil=>rfl
   | cons a l ih=>
    rw[List.map_cons,List.map_cons,rs,ih,List.sum_cons,Rat.intCast_add];rfl
  rw[e2,Rat.intCast_sub,← e1]
 obtain⟨z,hz⟩:∃ z,(rs qs).num-(qs.map Rat.floor).sum=z:=⟨_,rfl⟩;rw[hz]at hi;have hz0:0≤z:=by
  rw[hi]at h1;exact Rat.intCast_nonneg.1 h1
 have hz1:z≤(qs.length:Nat):=by
  rw[hi]at h2;exact Rat.intCast_le_intCast.1 h2
 have e:rdM qs=z.natAbs:=by unfold rdM;rw[hi,Rat.num_intCast]
 refine⟨by omega,?_⟩;rw[hi,e];have:z=((z.natAbs:Nat):Int):=by omega
 conv=>lhs;rw[this]
 rfl
def upL (qs:List Rat)(S:List Nat):List Int:=(List.range qs.length).map fun i=>(qs.getD i 0).floor+if i∈S then 1 else 0
theorem k0p (qs:List Rat)(m:Nat):upL qs (rdO qs m)=rdL qs m:=rfl
theorem k0n (qs:List Rat)(S:List Nat):(upL qs S).length=qs.length:=by simp[upL]
theorem k0m (qs:List Rat):upL qs []=qs.map Rat.floor:=by
 unfold upL;apply List.ext_getElem?
 intro i;rw[List.getElem?_map,List.getElem?_map];by_cases h:i<qs.length
 ·rw[List.getElem?_range h,List.getElem?_eq_getElem h];simp[List.getD_eq_getElem?_getD,h]
 ·rw[List.getElem?_eq_none (by simpa using h),List.getElem?_eq_none (by omega)];rfl
theorem k0o {qs:List Rat}{S:List Nat}{i:Nat}(h:i<qs.length)(hi:i ∉ S):(upL qs S)[i]?=some (qs.getD i 0).floor:=by
 unfold upL;rw[List.getElem?_map,List.getElem?_range h];simp[hi]
theorem k0l {qs:List Rat}{S:List Nat}{i:Nat}(h:i<qs.length)(hi:i ∉ S):(upL qs S).set i ((qs.getD i 0).floor+1)=upL qs (S ++ [i]):=by
 apply List.ext_getElem?
 intro k;rw[List.getElem?_set,k0n];by_cases hk:i=k
 ·subst hk;rw[if_pos rfl,if_pos h];unfold upL;rw[List.getElem?_map,List.getElem?_range h];simp
 ·rw[if_neg hk];unfold upL;rw[List.getElem?_map,List.getElem?_map];by_cases h2:k<qs.length
  ·rw[List.getElem?_range h2];have hk2:¬ k=i:=fun e=>hk e.symm
   simp[hk2]
  ·rw[List.getElem?_eq_none (by simpa using h2)];rfl
theorem p0A (qs:List Rat):(fun i=>(qs.map fpt).getD i 0)=fun i=>fpt (qs.getD i 0):=by
 funext i
 rw[List.getD_eq_getElem?_getD,List.getD_eq_getElem?_getD,List.getElem?_map];cases qs[i]? with
 | none=>show (0:Rat)=fpt 0;unfold fpt;rw[show (0:Rat).floor=0 from rfl];grind
 | some q=>rfl
theorem m0Z (qs:List Rat)(m:Nat):(a0r (fun i=>(qs.map fpt).getD i 0) (List.range qs.length)).take m=rdO qs m:=by rw[p0A];rfl
theorem f0F {S:List Nat}(hn:S.Nodup){t i:Nat}(h:S[t]?=some i):i ∉ S.take t∧S.take (t+1)=S.take t ++ [i]:=by
 refine⟨fun hm=>?_,by rw[List.take_add_one,h,Option.toList_some]⟩;obtain⟨k,hk⟩:=List.getElem?_of_mem hm;have hkt:k<t:=by have:=(List.getElem?_eq_some_iff.1 hk).1;rw[List.length_take]at this;omega
 rw[List.getElem?_take,if_pos hkt]at hk;have h1:=(List.getElem?_eq_some_iff.1 hk).1;have h2:=(List.getElem?_eq_some_iff.1 h).1;have:=(List.pairwise_iff_getElem.1 hn) k t h1 h2 hkt;rw[(List.getElem?_eq_some_iff.1 hk).2,(List.getElem?_eq_some_iff.1 h).2]at this;exact this rfl
end Go.Proofs.YtlimaehdmcnjaaaGreatDoor
