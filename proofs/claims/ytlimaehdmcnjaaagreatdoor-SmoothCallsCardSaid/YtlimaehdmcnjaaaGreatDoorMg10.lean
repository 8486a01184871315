/- Texts that the proof rests on, merged: Rz0, Rz1, RdF, Rz2, Rf9, KoS, Sw1. -/
import Derived.Test.YtlimaehdmcnjaaaGreatDoorMg9
set_option linter.unusedVariables false
set_option linter.unusedSimpArgs false
set_option linter.unusedSectionVars false
set_option maxRecDepth 100000
set_option maxHeartbeats 8000000
namespace Go.Proofs.YtlimaehdmcnjaaaGreatDoor
open Go.RowKit
open Go.Shelf
open Go.Lib (decDigits nDigits)
structure KeepO (r:Option Nat)(W W':World):Prop where
 size:W.heap.size≤W'.heap.size
 cell:∀ (g o:Nat) (x:Int),some g≠r→W.cell? ⟨g,o,none⟩=some (.int .i64 x)→W'.cell? ⟨g,o,none⟩=some (.int .i64 x)
theorem KeepO.grown {r:Option Nat}{W W':World}(hg:W.grownBy W' r):KeepO r W W':=⟨hg.size,fun g o x hne hx=>hg.cell hx hne⟩
def OffV (u:Value)(r:Option Nat):Prop:=∀ a n c,u=.slice (some a) n c→0<n→some a.block≠r
theorem OffV.nil (u:Value):OffV u none:=fun a n c _ _ e=>by cases e
theorem OffV.bool (m:Bool)(r:Option Nat):OffV (.bool m) r:=fun a n c e=>by cases e
theorem OffV.fresh {u:Value}{C g:Nat}(h:∀ k,u.ownBlock=some k→C≤k)(hg:g<C):OffV u (some g):=fun a n c e _ e2=>by
 subst e;have:=h a.block rfl;injection e2 with e2
 omega
theorem OffV.frO {u:Value}{C:Nat}{r:Option Nat}(h:∀ k,u.ownBlock=some k→C≤k)(hr:∀ g,r=some g→g<C):OffV u r:=by
 cases r with
 | none=>exact OffV.nil u
 | some g=>exact OffV.fresh h (hr g rfl)
theorem OffV.new {W:World}{u:Value}{n:Nat}(h:IsN .i64 W u n):OffV u (some W.heap.size):=fun a m c e h0 e2=>by
 subst e;obtain⟨a',c',e,h1,h2,h3⟩:=h.openI;injection e with e3 e4 e5
 subst e3;obtain⟨x,hx⟩:∃ x,(limbs n)[0]?=some x:=⟨_,List.getElem?_eq_getElem (by omega)⟩;obtain⟨g,o,e6,hg,-⟩:=h3 0 x hx;injection e6 with e6
 subst e6;injection e2 with e2
 simp at e2;omega
theorem KeepO.isN {r:Option Nat}{W W':World}{v:Value}{n:Nat}(h:KeepO r W W')(ho:OffV v r)(hn:IsN .i64 W v n):IsN .i64 W' v n:=by
 obtain⟨a,c,rfl,h1,h2,h3⟩:=hn.ex;refine⟨a,c,rfl,h1,h2,fun i x hx=>?_⟩;obtain⟨g,o,e,hg,hc⟩:=h3 i x hx;subst e;have hm:x∈ints .i64 (limbs n):=List.mem_of_getElem? hx;obtain⟨y,_,rfl⟩:=List.mem_map.1 hm;have hi:=(List.getElem?_eq_some_iff.1 hx).1;exact⟨g,o,rfl,Nat.lt_of_lt_of_le hg h.size,h.cell g _ _ (ho _ _ _ rfl (by omega)) hc⟩
theorem KeepO.isQ {r:Option Nat}{W W':World}{m:Bool}{N D:Value}{q:Rat}(h:KeepO r W W')(hN:OffV N r)(hD:OffV D r)(hq:IsQ .i64 W (.agg #[.bool m,N,D]) q):IsQ .i64 W' (.agg #[.bool m,N,D]) q:=by
 obtain⟨N',D',e,h1,h2⟩:=hq.ex;simp at e;obtain⟨rfl,rfl,rfl⟩:=e;exact⟨N,D,rfl,h.isN hN h1,h.isN hD h2⟩
def r0P (cs:List (List Value))(r:Option Nat):Prop:=∀ c∈cs,∀ u∈c,OffV u r
theorem QC.keepO {r:Option Nat}{W W':World}{c:List Value}{q:Rat}(h:QC .i64 W c q)(hk:KeepO r W W')(ho:∀ u∈c,OffV u r):QC .i64 W' c q:=by
 obtain⟨a,n,p,b,n',p',rfl,h1⟩:=h.ex;exact⟨a,n,p,b,n',p',rfl,hk.isQ (ho _ (by simp)) (ho _ (by simp)) h1⟩
theorem QL.keepO {r:Option Nat}{W W':World}{cs:List (List Value)}{qs:List Rat}(h:QL .i64 W cs qs)(hk:KeepO r W W')(ho:r0P cs r):QL .i64 W' cs qs:=⟨h.len,fun i q hq=>by
 obtain⟨c,h1,h2⟩:=h.at_ i q hq;exact⟨c,h1,h2.keepO hk (ho c (List.mem_of_getElem? h1))⟩⟩
theorem QL.offNew {W:World}{cs:List (List Value)}{qs:List Rat}(h:QL .i64 W cs qs):r0P cs (some W.heap.size):=fun c hc u hu=>by
 obtain⟨i,hi⟩:=List.getElem?_of_mem hc;have hil:i<qs.length:=by have:=(List.getElem?_eq_some_iff.1 hi).1;have:=h.len;omega
 obtain⟨c',h1,h2⟩:=h.at_ i _ (List.getElem?_eq_getElem hil);rw[hi]at h1;injection h1 with h1
 subst h1;obtain⟨a,n,p,b,n',p',rfl,h3⟩:=h2.ex;obtain⟨N',D',e,k1,k2⟩:=h3.ex;simp at e;obtain⟨rfl,rfl⟩:=e;simp at hu;rcases hu with rfl | rfl | rfl
 ·exact OffV.bool _ _
 ·exact OffV.new k1
 ·exact OffV.new k2
theorem h0W {W:World}{g j:Nat}(x:Value):W.grownBy (W.setCell ⟨g,j,none⟩ x) (some g):=by
 refine⟨rfl,rfl,rfl,by simp[World.setCell],fun k hk hne=>?_⟩;have h:k≠g:=fun e=>hne (by rw[e])
 rw[Below.heap_setCell _ _ _ _ h]
structure ZW (B:Nat)(W:World)(v1 v2:Value)(Z:List Int)(P:List Rat):Prop where
 o1:W.ownsRow B 3 1 v1 Z.length (zs Z)
 ex:∃ cs,KRow .i64 79 3 B W v2 cs∧QL .i64 W cs P∧r0P cs v1.ownBlock
 ne:∀ g,v1.ownBlock=some g→v2.ownBlock≠some g
theorem ZW.nil (B:Nat)(W:World):ZW B W (.slice none 0 0) (.slice none 0 0) [] []:=
 ⟨World.ownsRow_nil _ _ _ _,⟨[],KRow.nil _ _ _ _ _,QL.nil _ _,fun c hc=>by cases hc⟩,fun g h=>by simp[Value.ownBlock]at h⟩
theorem ZW.call {B:Nat}{W W':World}{v1 v2:Value}{Z:List Int}{P:List Rat}(h:ZW B W v1 v2 Z P)(hb:Below W.heap.size W W'):ZW B W' v1 v2 Z P:=by
 obtain⟨cs,h1,h2,h3⟩:=h.ex;exact⟨b0q h.o1 hb,⟨cs,h1.call hb,h2.call hb,h3⟩,h.ne⟩
theorem ZW.wrow {B:Nat}{W:World}{v1 v2:Value}{Z:List Int}{P:List Rat}(h:ZW B W v1 v2 Z P):WRow B W v2 P:=by
 obtain⟨cs,h1,h2,h3⟩:=h.ex;exact⟨cs,h1,h2⟩
theorem ZW.appZ {B:Nat}{W W':World}{v1 v1' v2:Value}{Z:List Int}{P:List Rat}{x:Int}(h:ZW B W v1 v2 Z P)(hown:W'.ownsRow B 3 1 v1' (Z.length+1) (zs Z ++ [.int .i64 x]))(hg:W.grownBy W' v1.ownBlock)(hat:v1'.ownBlock=v1.ownBlock∨v1'.ownBlock=some W.heap.size):ZW B W' v1' v2 (Z ++ [x]) P:=by
 obtain⟨cs,h1,h2,h3⟩:=h.ex;refine⟨by rw[List.length_append];unfold zs at hown ⊢;rw[List.map_append];exact hown,⟨cs,h1.keep fun g hg'=>hg.block g (h1.own.lt g hg').2 (fun e=>h.ne g e.symm hg'),h2.keepO (KeepO.grown hg) h3,?_⟩,fun g hg1 hg2=>?_⟩
 ·rcases hat with e | e
  ·rw[e];exact h3
  ·rw[e];exact h2.offNew
 ·rcases hat with e | e
  ·exact h.ne g (e ▸ hg1) hg2
  ·rw[e]at hg1;have:=(h1.own.lt g hg2).2;injection hg1 with hg1
   omega
theorem ZW.appP {B:Nat}{W W':World}{v1 v2 v2':Value}{Z:List Int}{P:List Rat}{cs:List (List Value)}{c:List Value}{q:Rat}(h:ZW B W v1 v2 Z P)(hq:QL .i64 W cs P)(ho:r0P cs v1.ownBlock)(hc:QC .i64 W c q)(hco:∀ u∈c,OffV u v1.ownBlock)
 (hown:KRow .i64 79 3 B W' v2' (cs ++ [c])) (hg:W.grownBy W' v2.ownBlock) (hk:KeepK .i64 W W') (hat:v2'.ownBlock=v2.ownBlock∨v2'.ownBlock=some W.heap.size):ZW B W' v1 v2' Z (P ++ [q]):=by
 refine⟨b0I h.o1 fun g hg'=>hg.block g (h.o1.lt g hg').2 (fun e=>h.ne g hg' e.symm),⟨cs ++ [c],hown,(hq.keep hk).snoc (hc.keep hk),fun d hd=>?_⟩,fun g hg1 hg2=>?_⟩
 ·rcases List.mem_append.1 hd with hd | hd
  ·exact ho d hd
  ·obtain rfl:d=c:=by simpa using hd
   exact hco
 ·rcases hat with e | e
  ·exact h.ne g hg1 (e ▸ hg2)
  ·rw[e]at hg2;have:=(h.o1.lt g hg1).2;injection hg2 with hg2
   omega
theorem ZW.putZ {B:Nat}{W:World}{g n c:Nat}{v2:Value}{Z:List Int}{P:List Rat}(h:ZW B W (.slice (some ⟨g,0,none⟩) n c) v2 Z P)(k:Nat)(x:Int):ZW B (W.setCell ⟨g,k,none⟩ (.int .i64 x)) (.slice (some ⟨g,0,none⟩) n c) v2 (Z.set k x) P:=by
 obtain⟨cs,h1,h2,h3⟩:=h.ex;have hl:=h.o1.1;have hn:n=Z.length:=by
  rcases h.o1.2 with ⟨e,h0⟩ | ⟨g',cap,cur,e,-⟩
  ·simp at e
  ·simp at e;exact e.2.1
 subst hn;have hG:=h0W (W:=W) (g:=g) (j:=k) (.int .i64 x);have hs:=h0B h.o1 k (.int .i64 x);refine⟨?_,⟨cs,h1.keep fun g' hg'=>hG.block g' (h1.own.lt g' hg').2 (fun e=>h.ne g rfl (hg'.trans e)),h2.keepO (KeepO.grown hG) h3,h3⟩,h.ne⟩;rw[List.length_set];unfold zs at hs ⊢;rw[List.map_set];exact hs
theorem KRow.put3 {B:Nat}{W:World}{g n c:Nat}{cs:List (List Value)}{qs:List Rat}(h1:KRow .i64 79 3 B W (.slice (some ⟨g,0,none⟩) n c) cs)(h2:QL .i64 W cs qs){i:Nat}(hl:i<cs.length){m:Bool}{a1 a2:Option Addr}{n1 c1 n2 c2:Nat}{q:Rat}(hq:IsQ .i64 W (.agg #[.bool m,.slice a1 n1 c1,.slice a2 n2 c2]) q):
 KRow .i64 79 3 B (((W.setCell ⟨g,i*3,none⟩ (.bool m)).setCell ⟨g,i*3+1,none⟩ (.slice a1 n1 c1)).setCell ⟨g,i*3+2,none⟩ (.slice a2 n2 c2)) (.slice (some ⟨g,0,none⟩) n c) (cs.set i [.bool m,.slice a1 n1 c1,.slice a2 n2 c2]) ∧
 QL .i64 (((W.setCell ⟨g,i*3,none⟩ (.bool m)).setCell ⟨g,i*3+1,none⟩ (.slice a1 n1 c1)).setCell ⟨g,i*3+2,none⟩ (.slice a2 n2 c2)) (cs.set i [.bool m,.slice a1 n1 c1,.slice a2 n2 c2]) (qs.set i q):=by
 obtain⟨d,hd⟩:∃ d,cs[i]?=some d:=⟨_,List.getElem?_eq_getElem hl⟩;have hd3:=h1.all d (List.mem_of_getElem? hd);obtain⟨x,y,z,rfl⟩:∃ x y z,d = [x,y,z]:=by
  match d,hd3 with
  | [x,y,z],_=>exact⟨x,y,z,rfl⟩
 have s1:=h1.set hd (j:=0) (by omega) (u:=.bool m) (fun x e=>by cases e);have e1:(cs.set i ([x,y,z].set 0 (.bool m)))[i]?=some [.bool m,y,z]:=by rw[List.getElem?_set_self hl];rfl
 have s2:=s1.set e1 (j:=1) (by omega) (u:=.slice a1 n1 c1) (fun x e=>by cases e);rw[List.set_set]at s2;have e2:(cs.set i ([.bool m,y,z].set 1 (.slice a1 n1 c1)))[i]?=some [.bool m,.slice a1 n1 c1,z]:=by rw[List.getElem?_set_self hl];rfl
 have s3:=s2.set e2 (j:=2) (by omega) (u:=.slice a2 n2 c2) (fun x e=>by cases e);rw[List.set_set]at s3;have k:=((h1.keepSet (i*3) (.bool m)).trans (s1.keepSet (i*3+1) (.slice a1 n1 c1))).trans (s2.keepSet (i*3+2) (.slice a2 n2 c2));exact⟨s3,(h2.keep k).set i ((QC.ofI hq).keep k)⟩
theorem ZW.putP {B:Nat}{W:World}{v1:Value}{g n c:Nat}{Z:List Int}{P:List Rat}(h:ZW B W v1 (.slice (some ⟨g,0,none⟩) n c) Z P){i:Nat}(hi:i<P.length){m:Bool}{a1 a2:Option Addr}{n1 c1 n2 c2:Nat}{q:Rat}(hq:IsQ .i64 W (.agg #[.bool m,.slice a1 n1 c1,.slice a2 n2 c2]) q)(f1:OffV (.slice a1 n1 c1) v1.ownBlock)(f2:OffV (.slice a2 n2 c2) v1.ownBlock):
 ZW B (((W.setCell ⟨g,i*3,none⟩ (.bool m)).setCell ⟨g,i*3+1,none⟩ (.slice a1 n1 c1)).setCell ⟨g,i*3+2,none⟩ (.slice a2 n2 c2)) v1 (.slice (some ⟨g,0,none⟩) n c) Z (P.set i q):=by
 obtain⟨cs,h1,h2,h3⟩:=h.ex;have hl:i<cs.length:=by rw[h2.len];exact hi
 obtain⟨k1,k2⟩:=h1.put3 h2 hl hq;refine⟨b0I h.o1 fun g' hg'=>p0I fun e=>h.ne g' hg' (by rw[e];rfl),⟨_,k1,k2,fun d hd=>?_⟩,h.ne⟩;rcases List.mem_or_eq_of_mem_set hd with hd | rfl
 ·exact h3 d hd
 ·intro u hu;simp at hu;rcases hu with rfl | rfl | rfl
  ·exact OffV.bool _ _
  ·exact f1
  ·exact f2
theorem ZW.other {B:Nat}{W:World}{v1 v2:Value}{Z:List Int}{P:List Rat}(h:ZW B W v1 v2 Z P){b:Nat}(hbB:b<B){m0:Bool}{a0 b0:Option Addr}{n0 c0 n1 c1:Nat}{t:TypeId}(hb:Blk W b #[.bool m0,.slice a0 n0 c0,.slice b0 n1 c1] t)(m:Bool)(a a':Option Addr)(k e k' e':Nat):
 ZW B (((W.setCell ⟨b,0,none⟩ (.bool m)).setCell ⟨b,1,none⟩ (.slice a k e)).setCell ⟨b,2,none⟩ (.slice a' k' e')) v1 v2 Z P:=by
 obtain⟨cs,h1,h2,h3⟩:=h.ex;have hK:=e0D hb m a a' k e k' e';exact⟨b0I h.o1 fun g' hg'=>p0I (i:=0) (by have:=(h.o1.lt g' hg').1;omega),⟨cs,h1.keep fun g' hg'=>p0I (i:=0) (by have:=(h1.own.lt g' hg').1;omega),h2.keep hK,h3⟩,h.ne⟩
def QO (W:World)(g:Nat)(q:Rat)(r:Option Nat):Prop:=∃ (m:Bool) (a:Option Addr) (n c:Nat) (a':Option Addr) (n' c':Nat),Blk W g #[.bool m,.slice a n c,.slice a' n' c'] 79∧IsQ .i64 W (.agg #[.bool m,.slice a n c,.slice a' n' c']) q∧OffV (.slice a n c) r∧OffV (.slice a' n' c') r
theorem QO.call {W W':World}{g:Nat}{q:Rat}{r:Option Nat}(h:QO W g q r)(hb:Below W.heap.size W W'):QO W' g q r:=by
 obtain⟨m,a,n,c,a',n',c',h1,h2,h3,h4⟩:=h;exact⟨m,a,n,c,a',n',c',h1.call hb,h2.call hb,h3,h4⟩
theorem QO.of {W:World}{g:Nat}{q:Rat}(h:QB W g q):QO W g q none:=by
 obtain⟨m,a,n,c,a',n',c',h1,h2⟩:=h;exact⟨m,a,n,c,a',n',c',h1,h2,OffV.nil _,OffV.nil _⟩
theorem QO.appZ {W W':World}{g:Nat}{q:Rat}{r r':Option Nat}(h:QO W g q r)(hg:W.grownBy W' r)(hne:r≠some g)(hat:r'=r∨r'=some W.heap.size):QO W' g q r':=by
 obtain⟨m,a,n,c,a',n',c',h1,h2,h3,h4⟩:=h;refine⟨m,a,n,c,a',n',c',Blk.grown h1 hg hne,(KeepO.grown hg).isQ h3 h4 h2,?_,?_⟩
 ·rcases hat with rfl | rfl
  ·exact h3
  ·obtain⟨N,D,e,k1,k2⟩:=h2.ex;simp at e;obtain⟨-,rfl,rfl⟩:=e;exact OffV.new k1
 ·rcases hat with rfl | rfl
  ·exact h4
  ·obtain⟨N,D,e,k1,k2⟩:=h2.ex;simp at e;obtain⟨-,rfl,rfl⟩:=e;exact OffV.new k2
theorem QO.appP {W W':World}{g:Nat}{q:Rat}{r s:Option Nat}(h:QO W g q r)(hg:W.grownBy W' s)(hne:s≠some g)(hk:KeepK .i64 W W'):QO W' g q r:=by
 obtain⟨m,a,n,c,a',n',c',h1,h2,h3,h4⟩:=h;exact⟨m,a,n,c,a',n',c',Blk.grown h1 hg hne,hk.isQ h2,h3,h4⟩
theorem QO.put {W:World}{b:Nat}{m0:Bool}{a0 b0:Option Addr}{n0 c0 n1 c1:Nat}(hb:Blk W b #[.bool m0,.slice a0 n0 c0,.slice b0 n1 c1] 79){m:Bool}{a a':Option Addr}{n c n' c':Nat}{q:Rat}{r:Option Nat}(h:IsQ .i64 W (.agg #[.bool m,.slice a n c,.slice a' n' c']) q)(f1:OffV (.slice a n c) r)(f2:OffV (.slice a' n' c') r):
 QO (((W.setCell ⟨b,0,none⟩ (.bool m)).setCell ⟨b,1,none⟩ (.slice a n c)).setCell ⟨b,2,none⟩ (.slice a' n' c')) b q r:=
 ⟨m,a,n,c,a',n',c',(b0d hb m a a' n c n' c').2,c0P hb m a a' n c n' c' h,f1,f2⟩
end Go.Proofs.YtlimaehdmcnjaaaGreatDoor
namespace Go.Proofs.YtlimaehdmcnjaaaGreatDoor
open Go.RowKit
open Go.Lib (decDigits nDigits)
theorem l0I {D:Nat}{q:Rat}(hD:0<D)(h:q.floor.natAbs<10 ^ 13):Dn D (10 ^ 20) (flQ q):=Dn.int hD (Nat.le_of_lt (Nat.lt_of_lt_of_le h (Nat.pow_le_pow_right (by omega) (by omega))))
theorem r0G {D i:Nat}{L:List Rat}{T:Rat}(h:LT D L T)(hn:∀ q∈L,q.floor.natAbs<10 ^ 13):Dn D (10 ^ 23) (alQ L i):=by
 unfold alQ;refine (h.sum (fun q hq=>hq) h.n).sub10 ?_;refine (o0T (D:=D) (B:=10 ^ 20) h.pos fun q hq=>?_).upB (f0R (n12 ?_) (Nat.le_refl _))
 ·obtain⟨p,hp,rfl⟩:=List.mem_map.1 hq;exact l0I h.pos (hn p (List.mem_of_mem_take hp))
 ·rw[List.length_map,List.length_take];have:=h.n;omega
theorem p0N {D:Nat}{L:List Rat}{T q:Rat}(h:LT D L T)(hq:q∈L):Dig 4000 (fpt q):=h.dig (c:=1) ((h.dv q hq).fpt.upB (by decide)) (by omega)
theorem p0M {D j:Nat}{L:List Rat}{T:Rat}{S:List Nat}(h:LT D L T)(hj:j<L.length):Dig 4000 (frF L S j):=by
 unfold frF
 split
 ·exact⟨by decide +kernel,by decide +kernel⟩
 ·refine p0N h ?_;rw[List.getD_eq_getElem?_getD,List.getElem?_eq_getElem hj];exact List.getElem_mem hj
theorem l0j:qE ⟨#[45,49]⟩=0∧vQ ⟨#[45,49]⟩ = -1:=by decide +kernel
theorem g0X (m:Nat):((m:Nat):Rat).floor=(m:Int):=by
 rw[← Rat.intCast_natCast,Rat.floor_intCast]
theorem q0U (L:List Rat)(m:Nat):(frO L).take m=rdO L m:=rfl
theorem n0d (w:World)(s:ByteArray)(hs:s.size≤1000000)(hq0:qE s=0):
 Calls Tryz.prog 77 #[.string s] w fun e w'=>(∃ v,e=.returned (.tuple #[v,.int .i64 0])∧IsQF w.heap.size w' v (vQ s))∧Below w.heap.size w w':=by
 have HC:=m0j s (by omega);have hq:qB s=true:=by
  cases h:qB s
  ·have:qE s=3:=by simp[qE,h]
   omega
  ·rfl
 have hl':qL s=false:=by
  cases h:qL s
  ·rfl
  ·have:qE s=5:=by simp[qE,hq,h]
   omega
 have hi:=d0f hq;rw[hi]at HC;have hdD:=f0t (g0c hi);have hcS:cS s=false∨(cS s=true∧¬ iD (cW s)=⟨#[48]⟩∧¬ cB s=⟨#[48]⟩∧¬ cB s=⟨#[49]⟩∧fB (cB s)=true):=by
  have hq':=hq;unfold qB at hq';simp only[Bool.and_eq_true,Bool.or_eq_true,Bool.not_eq_true',decide_eq_true_eq]at hq';rcases hq'.2 with h | h
  ·exact .inl h
  ·cases hc:cS s
   ·exact .inl rfl
   ·exact .inr ⟨rfl,h.1.1.1,h.1.2,h.2,h.1.1.2⟩
 have hl1:¬ 4000<(iD (cW s)).size∧¬ 4000<(qD s).size:=by
  unfold qL at hl';simpa using hl'
 obtain⟨e1,e2,e3⟩:=h0o hq0;have key:Calls Tryz.prog 77 #[.string s] w fun e w'=>RetRF w.heap.size 0 (iM (cW s)) (bN (iD (cW s))) (bN (qD s)) e w'∧Below w.heap.size w w':=by
  rcases hcS with hc | ⟨hc,h1,h2,h3,h4⟩
  ·rw[hc]at HC;rw[d0e hc];exact k0E w s _ _ _ _ _ _ hs HC hl1.1 hdD
  ·rw[hc,h4]at HC;have hl2:=hl1.2;rw[b0C hc]at hl2;have e:qE s=if Nat.gcd (bN (iD (cW s))) (bN (cB s))=1 then 0 else 3:=by
    simp only[qE,hq,hl',qG,hc,b0C hc];by_cases hg:Nat.gcd (bN (iD (cW s))) (bN (cB s))=1<;>simp[hg]
   rw[hq0]at e;rw[b0C hc];have:=i0t w s _ _ _ _ _ hs HC h1 h2 h3 hl1.1 hl2 hdD (f0t h4);rw[← e]at this;exact this
 refine key.mono ?_;rintro e w' ⟨⟨v,rfl,h1,-⟩,hb⟩;obtain⟨N,D,rfl,hN,hD,f1,f2⟩:=h1 rfl;exact⟨⟨_,rfl,N,D,by rw[e1],by rw[e2];exact hN,by rw[e3];exact hD,f1,f2⟩,hb⟩
open Go.Shelf
theorem k0J (w:World)(s:ByteArray)(hs:s.size≤1000000)(hq:qE s=0):
 Calls Tryz.prog 83 #[.string s] w fun e w'=>RetQF w.heap.size (vQ s) e w'∧Below w.heap.size w w':=by
 have PR:=fun V=>hid (n0d V s hs hq)
 have A0:=hid ((Below.refl w.heap.size w).alloc (Nat.le_refl _) (.cells #[.bool false,.slice none 0 0,.slice none 0 0] 79));have X0:=hid (Blk.new w #[.bool false,.slice none 0 0,.slice none 0 0] 79);have HQ0:=hid hq;clear hs hq;go_enter Tryz.func83,Tryz.ntmps83;go_wp2_with fail;refine (PR _).out.mono ?_;rintro e w1 ⟨⟨v1,rfl,hf1⟩,hb1⟩;have hv1:=hf1.q;obtain⟨m1,a1,n1,c1,a2,n2,c2,rfl⟩:=hv1.qv;obtain⟨fN,fD⟩:=hf1.fr;have FN:=hid fN;have FD:=hid fD;have X1:=hid (X0.out.call hb1);have y1:=hid (a0a A0.out hb1);have A1:=hid ((Below.refl w1.heap.size w1).alloc (Nat.le_refl _) (.cells #[.bool m1,.slice a1 n1 c1,.slice a2 n2 c2] 79));have Z1:=hid (Blk.new w1 #[.bool m1,.slice a1 n1 c1,.slice a2 n2 c2] 79);have X2:=hid (X1.out.call A1.out);have y2:=hid (a0a y1.out A1.out);have Q2:=hid (hv1.call A1.out);clear hb1 hv1 hf1 fN fD X1 y1;have d0:=X2.out.cell 0;have d1:=X2.out.cell 1;have d2:=X2.out.cell 2;have e0:=X2.out.free 0;have e1:=X2.out.free 1;have e2:=X2.out.free 2;have g0:=Z1.out.cell 0;have g1:=Z1.out.cell 1;have g2:=Z1.out.cell 2;simp at d0 d1 d2 g0 g1 g2;go_wp2_with fail;obtain⟨s1,s2⟩:=b0d X2.out m1 a1 a2 n1 c1 n2 c2;have f0:=s2.cell 0;have f1:=s2.cell 1;have f2:=s2.cell 2;simp at f0 f1 f2;refine bodyPost_ret (v:=.agg #[.bool m1,.slice a1 n1 c1,.slice a2 n2 c2]) (by simp[results,Tryz.results83,go_sem,f0,f1,f2]) rfl ⟨⟨_,rfl,IsQF.of (c0P X2.out m1 a1 a2 n1 c1 n2 c2 Q2.out) (fun g e=>Nat.le_trans A0.out.size (FN.out g e)) (fun g e=>Nat.le_trans A0.out.size (FD.out g e))⟩,?_⟩;exact ((y2.out.setCell (Nat.le_refl _) _).setCell (Nat.le_refl _) _).setCell (Nat.le_refl _) _
theorem ZW.shape {B:Nat}{W:World}{v1 v2:Value}{Z:List Int}{P:List Rat}(h:ZW B W v1 v2 Z P){n:Nat}(hn:0<n)(hZ:Z.length=n)(hP:P.length=n):∃ g1 c1 g2 c2,v1=.slice (some ⟨g1,0,none⟩) n c1∧v2=.slice (some ⟨g2,0,none⟩) n c2∧n≤c1∧c1≤9223372036854775807∧n≤c2∧c2≤9223372036854775807∧B≤g1∧B≤g2:=by
 obtain⟨a2,c2,e2,k1,k2⟩:=h.wrow.slice;obtain⟨q,hq⟩:∃ q,P[0]?=some q:=⟨_,List.getElem?_eq_getElem (by omega)⟩;subst e2;obtain⟨g2,m,a1,n1,c1,a2',n2,c2',e3,hB2,-⟩:=h.wrow.at hq;subst e3;rcases h.o1.2 with ⟨-,h0⟩ | ⟨g,cap,cur,e,hb,h2,h3,h4,-⟩
 ·omega
 ·rw[hZ]at e h3;rw[hP]at k1 ⊢;exact⟨g,cap,g2,c2,e,rfl,h3,by unfold maxLen at h4;omega,k1,k2,hb,hB2⟩
theorem ZW.len {B:Nat}{W:World}{g n c:Nat}{v2:Value}{Z:List Int}{P:List Rat}(h:ZW B W (.slice (some ⟨g,0,none⟩) n c) v2 Z P):n=Z.length:=by
 rcases h.o1.2 with ⟨e,h0⟩ | ⟨g',cap,cur,e,-⟩
 ·simp at e
 ·simp at e;exact e.2.1
theorem ZW.int {B:Nat}{W:World}{g n c:Nat}{v2:Value}{Z:List Int}{P:List Rat}(h:ZW B W (.slice (some ⟨g,0,none⟩) n c) v2 Z P){k:Nat}{x:Int}(hx:Z[k]?=some x):W.cell? ⟨g,k,none⟩=some (.int .i64 x):=by
 have hn:=h.len;subst hn;have h1:=World.ownsRow.cellAt h.o1 k (by have:=(List.getElem?_eq_some_iff.1 hx).1;omega);rw[h1];exact k0b hx
theorem ZW.free {B:Nat}{W:World}{g n c:Nat}{v2:Value}{Z:List Int}{P:List Rat}(h:ZW B W (.slice (some ⟨g,0,none⟩) n c) v2 Z P)(k:Nat):W.frozen? ⟨g,k,none⟩=false:=by
 have hn:=h.len;subst hn;exact (n0n h.o1).2.2.1 k
theorem ZW.bnd {B:Nat}{W:World}{v1 v2:Value}{Z:List Int}{P:List Rat}(h:ZW B W v1 v2 Z P):∀ g,v1.ownBlock=some g→g<W.heap.size:=fun g e=>(h.o1.lt g e).2
theorem g0U {C:Nat}{w W w3:World}{v:Value}(h0:Below C w W)(hC:C≤W.heap.size)(hg:W.grownBy w3 v.ownBlock)(hv:∀ g,v.ownBlock=some g→C≤g):Below C w w3:=
 h0.trans ⟨hg.os,hg.tape,hg.output,hg.size,fun j hj=>hg.block j (by omega) fun e=>by have:=hv j e.symm;omega⟩
theorem q0Q (w:World)(v:Value)(l:List ByteArray)(hv:Row w v (a0T l))(hs:∀ s∈l,s.size≤20)(hl:l.length≤12)(h0:a0O l=0)(hden:(rs (l.map vQ)).den=1):
 Calls Tryz.prog 35 #[v] w fun e w'=>(∃ u,e=.returned (.tuple #[u,.int .i64 (rdE l)])∧Row w' u (zs (e0p l)))∧Below w.heap.size w w':=by
 have z1:∀ s∈l,s.size≤1000000:=fun s hs'=>by have:=hs s hs';omega
 have HC:=hid (b0A w v l hv z1);have V1:=j0j h0 hs hl;have HLT:=LT.of0 V1;have HE2:Hid (∀ q∈l.map vQ,(b0O<q∨q < -b0O)→rdE l=2∧e0p l = []):=fun q hq hf=>by
  have e:rdE l=2:=by
   unfold rdE;rw[if_pos h0,if_pos hden,if_pos (by rw[List.any_eq_true];exact⟨q,hq,decide_eq_true hf⟩)]
  exact⟨e,by unfold e0p;rw[if_neg (by rw[e];decide)]⟩
 have HE0:Hid ((∀ q∈l.map vQ,¬ (b0O<q∨q < -b0O))→rdE l=0∧e0p l=rdL (l.map vQ) (rdM (l.map vQ))):=fun hf=>by
  have e:rdE l=0:=by
   unfold rdE;rw[if_pos h0,if_pos hden,if_neg (by rw[List.any_eq_true];rintro⟨q,hq,h⟩;exact hf q hq (of_decide_eq_true h))]
  exact⟨e,by unfold e0p;rw[if_pos e]⟩
 rw[h0]at HC;have PR:=fun V x hx=>hid (b0Q V x l hx z1 V1.q (by omega))
 obtain⟨L,hL⟩:∃ L,l.map vQ=L:=⟨_,rfl⟩;rw[hL]at HLT PR hden HE2 HE0;obtain⟨DD,hDD⟩:∃ D,vD l=D:=⟨_,rfl⟩;rw[hDD]at HLT;obtain⟨n,hn⟩:∃ n,l.length=n:=⟨_,rfl⟩;have hLn:L.length=n:=by rw[← hL,List.length_map,hn]
 have hp:=V1.pos;have dl:∀ q∈L,Dig 4000 q:=fun q hq=>HLT.dig (HLT.dv q hq) (by omega)
 have PSU:=fun V x hx=>hid (e0q V x L hx (by have:=HLT.n;omega) (fun i _=>HLT.dig (HLT.sum (s:=L.take i) (fun q hq=>List.mem_of_mem_take hq) (by rw[List.length_take];have:=HLT.n;omega)) (by omega)) dl)
 have PN:=fun V x y hx hy=>hid (b0n V x y (rs L).den 1 hx hy)
 have hO:=(i0A (rs L).den_pos).2;rw[decide_eq_true hden]at hO;obtain⟨O,hOO⟩:∃ O,b0e (rs L).den 1=O:=⟨_,rfl⟩;rw[hOO]at PN hO;have t4:(O != 0)=false:=hO;have t5:(O==0)=true:=by simpa using hO
 have PBG:=fun V=>hid (b0x V ⟨#[49,48,48,48,48,48,48,48,48,48,48,48,48]⟩ (by decide) d0r.1)
 rw[d0r.2]at PBG;have dB:Dig 4000 b0O:=by rw[← d0r.2];exact c0T (fun h=>by rw[d0r.2]at h;revert h;unfold ovQ b0O;decide +kernel)
 have GD:=hid dl;have PE1:=hid (fun q (h:q∈L) V x y hx hy=>hid (b0V V x y q b0O hx hy (dl q h) dB));have PE2:=hid (fun q (h:q∈L) V x y hx hy=>hid (b0V V x y (-q) b0O hx hy (g0h (dl q h)) dB));have HLTT:=hid HLT;have HM:=hid (k0F hden);have HV:=hid hv;obtain⟨a1,c1,rfl,q1,q2,-⟩:=hv.openS;rw[hn]at q1 HV HC ⊢;have HLN:=hid hLn;have HN12:=hid (show n≤12 by omega);have HN0:=hid (show 0<n by omega);clear hv hs hl z1 h0 hden V1 HLT hL hDD hn hLn hp dl hOO hO dB;go_enter Tryz.func35,Tryz.ntmps35;go_wp2_with fail;refine HC.out.mono ?_;rintro e w1 ⟨rfl,hb1⟩;have y1:=hid hb1;clear hb1;go_wp2_with fail;refine (PR _ _ (HV.out.call y1.out)).out.mono ?_;rintro e w2 ⟨⟨u2,rfl,hu2⟩,hb2⟩;have y2:=hid (a0a y1.out hb2);have R2:=hid hu2.rd;obtain⟨a2,cv,rfl,r1,r2⟩:=hu2.slice;rw[HLN.out]at R2 r1 ⊢;clear hb2 hu2;go_wp2_with fail;refine (PSU _ _ R2.out).out.mono ?_;rintro e w3 ⟨⟨u3,rfl,hu3⟩,hb3⟩;have y3:=hid (a0a y2.out hb3);have x3:=hid hb3;obtain⟨m3,a3,n3,k3,aD,oD,cD,rfl⟩:=hu3.qv;have hD3:=l0x hu3;have A3:=hid ((Below.refl w3.heap.size w3).alloc (Nat.le_refl _) (.cells #[.int .i64 1] 3));have O3:=hid (h0T w3);have D3':=hid (hD3.call A3.out);have y4:=hid (a0a y3.out A3.out);have hfd:=fun W=>g0Z W m3 a3 n3 k3 aD oD cD
 clear hb3 hu3 hD3;go_wp2_with fail;clear hfd;refine (PN _ _ _ D3'.out O3.out).out.mono ?_;rintro e w5 ⟨rfl,hb5⟩;have y5:=hid (a0a y4.out hb5);have x5:=hid (a0a (a0a x3.out A3.out) hb5);clear hb5;go_wp2_with fail;refine (PBG _).out.mono ?_;rintro e w6 ⟨⟨u6,rfl,hu6⟩,hb6⟩;obtain⟨mG,aG,nG,kG,bG,oG,lG,rfl⟩:=hu6.qv;have A6:=hid ((Below.refl w6.heap.size w6).alloc (Nat.le_refl _) (.cells #[.bool mG,.slice aG nG kG,.slice bG oG lG] 79));have QG:=hid (QB.new hu6);have y6:=hid (a0a y5.out hb6);have x6:=hid (a0a x5.out hb6);have R6:=hid (R2.out.call x6.out);clear hb6 hu6 t4 t5;go_wp2_with fail
 go_loopw [7] (fun s7 wr=>∃ i:Nat,s7=.int .i64 (i:Nat)∧i≤n∧Hid (∀ q∈L.take i,¬ (b0O<q∨q < -b0O))∧Hid (QB wr w6.heap.size b0O)∧Hid (Below w6.heap.size w6 wr)) (fun s7 wr=>n-(intOf s7).toNat)
 case atStart=>exact⟨0,rfl,Nat.zero_le _,hid (fun q hq=>by simp at hq),QG,A6⟩
 case round=>
  obtain⟨i,rfl,hi,hN,hG,hB⟩:=hrel;by_cases hlt:i<n
  ·have hil:i<L.length:=by rw[HLN.out];exact hlt
   obtain⟨q,hq⟩:∃ q,L[i]?=some q:=⟨_,List.getElem?_eq_getElem hil⟩;have HQI:=hid hq;have hqm:=List.mem_of_getElem? hq;have HQM:=hid hqm;obtain⟨gv,ov,mv,av,nv,kv,bv,iv,lv,eV,hgv,k0,k1,k2,hQv⟩:=(R6.out.call hB.out).at hq;subst eV;have QV:=hid hQv;obtain⟨mG2,aG2,nG2,kG2,bG2,oG2,lG2,hBG,hQG⟩:=hG.out;have BG:=hid hBG;have QGG:=hid hQG;have KK:Hid (∀ V,Below wr.heap.size wr V→(V.cell? ⟨gv,ov+i*3,none⟩=some (.bool mv)∧V.cell? ⟨gv,ov+i*3+1,none⟩=some (.slice av nv kv)∧V.cell? ⟨gv,ov+i*3+2,none⟩=some (.slice bv iv lv))∧(V.cell? ⟨w6.heap.size,0,none⟩=some (.bool mG2)∧V.cell? ⟨w6.heap.size,1,none⟩=some (.slice aG2 nG2 kG2)∧V.cell? ⟨w6.heap.size,2,none⟩=some (.slice bG2 oG2 lG2))):=fun V h=>
    ⟨⟨(h.cell (p:=⟨gv,_,none⟩) hgv).trans k0,(h.cell (p:=⟨gv,_,none⟩) hgv).trans k1,(h.cell (p:=⟨gv,_,none⟩) hgv).trans k2⟩,(BG.out.call h).cell 0,(BG.out.call h).cell 1,(BG.out.call h).cell 2⟩
   have PEa:=fun V x y hx hy=>hid (PE1.out q hqm V x y hx hy)
   have PEb:=fun V x y hx hy=>hid (PE2.out q hqm V x y hx hy)
   have PNG:=fun V x hx=>hid (c0I V x q hx)
   have HZ1:=hid (b0D (p:=q) (q:=b0O));have HZ2:=hid (b0D (p:=-q) (q:=b0O));obtain⟨B1,hB1⟩:∃ B,d0V q b0O=B:=⟨_,rfl⟩;obtain⟨B2,hB2⟩:∃ B,d0V (-q) b0O=B:=⟨_,rfl⟩;rw[hB1]at PEa HZ1;rw[hB2]at PEb HZ2;have f1:(0:Int)≤(i:Int):=by omega
   have f2:(i:Int)<(n:Int):=by omega
   have wi:IntKind.i64.wrap ((i:Int)+1)=((i+1:Nat):Int):=by have:=HN12.out;rw[IntWalk.i64_in _ ⟨by omega,by omega⟩];omega
   have HLTi:=hid hlt;clear hil hq hqm hgv k0 k1 k2 hQv hBG hQG hB1 hB2 hlt hi;go_wp2_with fail;refine a0f [0,1,2,3,4] 12 (fun V=>(V.cell? ⟨gv,ov+i*3,none⟩=some (.bool mv)∧V.cell? ⟨gv,ov+i*3+1,none⟩=some (.slice av nv kv)∧V.cell? ⟨gv,ov+i*3+2,none⟩=some (.slice bv iv lv))∧(V.cell? ⟨w6.heap.size,0,none⟩=some (.bool mG2)∧V.cell? ⟨w6.heap.size,1,none⟩=some (.slice aG2 nG2 kG2)∧V.cell? ⟨w6.heap.size,2,none⟩=some (.slice bG2 oG2 lG2))) (by kernel_rfl) (by kernel_rfl) (by kernel_rfl) (by kernel_rfl) (KK.out _ (Below.refl _ _).drew) ?_
   iterate 5
    refine⟨_,rfl,?_⟩;apply Exists.intro
    refine⟨.inl ⟨by rfl,?_⟩,?_⟩
    ·(intro W' hW';obtain⟨⟨z1,z2,z3⟩,z4,z5,z6⟩:=hW';go_simp;try (with_reducible rfl))
    (dsimp only[Act.put];try simp only[List.setIfInBounds_toArray,List.set_cons_zero,List.set_cons_succ])
   refine a0b (i:=5) (by kernel_rfl) (by rfl) (by rfl) ?_;go_wp2_with fail;refine (PEa _ _ _ (QV.out.call (Below.refl _ _).drew) (QGG.out.call (Below.refl _ _).drew)).out.mono ?_;rintro e wa ⟨rfl,hba⟩;have xa:=hid (show Below wr.heap.size wr wa from (Below.refl _ _).drew.trans hba);clear hba;by_cases hbig:b0O<q
   ·have t0:decide (0<B1)=true:=decide_eq_true (HZ1.out.2 hbig);obtain⟨e1,e2⟩:=HE2.out q HQM.out (Or.inl hbig);have E1:=hid e1;have E2:=hid e2;have yz:=hid (a0a y6.out (a0a hB.out xa.out));clear hbig e1 e2;go_wp2_with fail;refine⟨KK.out _ xa.out,?_⟩;refine a0d (is:=[6,7]) (g:=9) (by kernel_rfl) rfl (KK.out _ xa.out) (by kernel_rfl) ?_
    iterate 2
     refine⟨_,rfl,?_⟩;apply Exists.intro
     refine⟨.inl ⟨by rfl,?_⟩,?_⟩
     ·(intro W' hW';obtain⟨⟨z1,z2,z3⟩,z4,z5,z6⟩:=hW';go_simp;try (with_reducible rfl))
     (dsimp only[Act.put];try simp only[List.setIfInBounds_toArray,List.set_cons_zero,List.set_cons_succ])
    try simp only[t0]
    refine a0d (is:=[8,9,10,11,12,13,14,15,16]) (g:=0) (by kernel_rfl) rfl (KK.out _ xa.out) (by kernel_rfl) ?_
    iterate 8
     refine⟨_,rfl,?_⟩;apply Exists.intro
     refine⟨.inr ⟨by rfl,rfl⟩,?_⟩
     (dsimp only[Act.put];try simp only[List.setIfInBounds_toArray,List.set_cons_zero,List.set_cons_succ])
    iterate 1
     refine⟨_,rfl,?_⟩;apply Exists.intro
     refine⟨.inl ⟨by rfl,?_⟩,?_⟩
     ·(intro W' hW';obtain⟨⟨z1,z2,z3⟩,z4,z5,z6⟩:=hW';go_simp;try (with_reducible rfl))
     (dsimp only[Act.put];try simp only[List.setIfInBounds_toArray,List.set_cons_zero,List.set_cons_succ])
    refine wpAnyH_done (by kernel_rfl) ?_ _;simp only[a0o];go_wp2_with fail;go_ret2
    rw[E1.out,E2.out];exact⟨⟨_,rfl,Row.nil _⟩,yz.out⟩
   ·have t0:decide (0<B1)=false:=decide_eq_false (fun h=>hbig (HZ1.out.1 h));have NB1:=hid hbig;clear hbig;go_wp2_with fail;refine⟨KK.out _ xa.out,?_⟩;refine a0d (is:=[6,7]) (g:=9) (by kernel_rfl) rfl (KK.out _ xa.out) (by kernel_rfl) ?_
    iterate 2
     refine⟨_,rfl,?_⟩;apply Exists.intro
     refine⟨.inl ⟨by rfl,?_⟩,?_⟩
     ·(intro W' hW';obtain⟨⟨z1,z2,z3⟩,z4,z5,z6⟩:=hW';go_simp;try (with_reducible rfl))
     (dsimp only[Act.put];try simp only[List.setIfInBounds_toArray,List.set_cons_zero,List.set_cons_succ])
    try simp only[t0]
    refine a0d (is:=[8,9,10,11,13]) (g:=4) (by kernel_rfl) rfl (KK.out _ xa.out) (by kernel_rfl) ?_
    iterate 5
     refine⟨_,rfl,?_⟩;apply Exists.intro
     refine⟨.inl ⟨by rfl,?_⟩,?_⟩
     ·(intro W' hW';obtain⟨⟨z1,z2,z3⟩,z4,z5,z6⟩:=hW';go_simp;try (with_reducible rfl))
     (dsimp only[Act.put];try simp only[List.setIfInBounds_toArray,List.set_cons_zero,List.set_cons_succ])
    refine b0r (i:=12) (by kernel_rfl) (by rfl) (by rfl) ?_;go_wp2_with fail;refine (PNG _ _ (QV.out.call xa.out)).out.mono ?_;rintro e wb ⟨⟨vb,rfl,hvb⟩,hbb⟩;obtain⟨m8,a8,n8,k8,b8,o8,l8,rfl⟩:=hvb.qv;have xb:=hid (a0a xa.out hbb);have VB:=hid hvb;clear hbb hvb;go_wp2_with fail;refine⟨KK.out _ xb.out,?_⟩;refine b0r (i:=14) (by kernel_rfl) (by rfl) (by rfl) ?_;go_wp2_with fail;refine (PEb _ _ _ VB.out (QGG.out.call xb.out)).out.mono ?_;rintro e wc ⟨rfl,hbc⟩;have xc:=hid (a0a xb.out hbc);have yz:=hid (a0a y6.out (a0a hB.out xc.out));clear hbc;by_cases hlow:b0O < -q
    ·have t1:decide (0<B2)=true:=decide_eq_true (HZ2.out.2 hlow);obtain⟨e1,e2⟩:=HE2.out q HQM.out (Or.inr (by grind));have E1:=hid e1;have E2:=hid e2;clear hlow e1 e2;go_wp2_with fail;refine⟨KK.out _ xc.out,?_⟩;refine a0d (is:=[15,16]) (g:=0) (by kernel_rfl) rfl (KK.out _ xc.out) (by kernel_rfl) ?_
     iterate 2
      refine⟨_,rfl,?_⟩;apply Exists.intro
      refine⟨.inl ⟨by rfl,?_⟩,?_⟩
      ·(intro W' hW';obtain⟨⟨z1,z2,z3⟩,z4,z5,z6⟩:=hW';go_simp;try (with_reducible rfl))
      (dsimp only[Act.put];try simp only[List.setIfInBounds_toArray,List.set_cons_zero,List.set_cons_succ])
     refine wpAnyH_done (by kernel_rfl) ?_ _;simp only[a0o];go_wp2_with fail;go_ret2
     rw[E1.out,E2.out];exact⟨⟨_,rfl,Row.nil _⟩,yz.out⟩
    ·have t1:decide (0<B2)=false:=decide_eq_false (fun h=>hlow (HZ2.out.1 h));have HN2:Hid (∀ p∈L.take (i+1),¬ (b0O<p∨p < -b0O)):=fun p hp=>by
      rw[List.take_add_one,HQI.out,Option.toList_some]at hp;rcases List.mem_append.1 hp with hp | hp
      ·exact hN.out p hp
      ·obtain rfl:p=q:=by simpa using hp
       rintro (h | h)
       ·exact NB1.out h
       ·exact hlow (by grind)
     have GN:=hid (hG.out.call xc.out);have BN:=hid (a0a hB.out xc.out);clear hlow;go_wp2_with fail;refine⟨KK.out _ xc.out,?_⟩;refine a0d (is:=[15,16]) (g:=0) (by kernel_rfl) rfl (KK.out _ xc.out) (by kernel_rfl) ?_
     iterate 2
      refine⟨_,rfl,?_⟩;apply Exists.intro
      refine⟨.inl ⟨by rfl,?_⟩,?_⟩
      ·(intro W' hW';obtain⟨⟨z1,z2,z3⟩,z4,z5,z6⟩:=hW';go_simp;try (with_reducible rfl))
      (dsimp only[Act.put];try simp only[List.setIfInBounds_toArray,List.set_cons_zero,List.set_cons_succ])
     refine wpAnyH_done (by kernel_rfl) ?_ _;simp only[a0o];go_wp2_with fail;go_roundw
     case rel=>exact⟨i+1,by go_num,by have:=HLTi.out;omega,HN2,GN,BN⟩
     case measure=>simp[intOf]<;>(have:=HLTi.out;omega)
  ·obtain rfl:n=i:=by omega
   have q1:decide ((n:Int)<(n:Int))=false:=by simp
   have hT:L.take n=L:=List.take_of_length_le (by rw[HLN.out];exact Nat.le_refl _);rw[hT]at hN;clear hlt hT hi hG HE2 PE1 PE2 PBG PN;have HNEAR:Hid (∀ q∈L,q.floor.natAbs<10 ^ 13):=hid (fun q hq=>d0C (hN.out q hq));obtain⟨e1,e2⟩:=HE0.out hN.out;have E1:=hid e1;have E2:=hid e2;have HAD:=hid (fun k=>(HLTT.out.dig (r0G (i:=k) HLTT.out HNEAR.out) (by omega):Dig 4000 (alQ L k)));have PFL:=hid (fun q (h:q∈L) V x hx=>hid (g0z V x q hx (GD.out q h) ((GD.out q h).fits (by omega) (by omega)) (HNEAR.out q h)));have PRD:=hid (fun q (h:q∈L) V=>hid (b0x V (txQ (flQ q)) (by have:=e0g (HNEAR.out q h);omega) (h0G (HNEAR.out q h)).1));have PMF:=hid (fun q (h:q∈L) V x y hx hy=>hid (d0y V x y q (flQ q) hx hy (GD.out q h) (HLTT.out.dig (l0I HLTT.out.pos (HNEAR.out q h)) (by omega))));have PMR:=hid (fun q (h:q∈L) k V x y hx hy=>hid (d0y V x y (alQ L k) (flQ q) hx hy (HAD.out k) (HLTT.out.dig (l0I HLTT.out.pos (HNEAR.out q h)) (by omega))));have PIN:=hid (fun q (h:q∈L) V=>hid (k0I V q.floor (by have:=HNEAR.out q h;omega) (by have:=HNEAR.out q h;omega)));have RO:=hid (R6.out.call hB.out);have yo:=hid (a0a y6.out hB.out);obtain⟨iI,hiI,hI0,hI1,hI2⟩:=info_parts e0e;obtain⟨iQ,hiQ,hQ0,hQ1,hQ2⟩:=info_parts g0b;clear e1 e2 hN HE0 R6 R2 A6 QG hB y6 x6;go_wp2_with fail;refine (PSU _ _ RO.out).out.mono ?_;rintro e w8 ⟨⟨u8,rfl,hu8⟩,hb8⟩;obtain⟨m8,a8,n8,k8,b8,o8,l8,rfl⟩:=hu8.qv;have y8:=hid (a0a yo.out hb8);have R8:=hid (RO.out.call hb8);have A8:=hid ((Below.refl w8.heap.size w8).alloc (Nat.le_refl _) (.cells #[.bool m8,.slice a8 n8 k8,.slice b8 o8 l8] 79));have Q8:=hid (show QO (w8.alloc (.cells #[.bool m8,.slice a8 n8 k8,.slice b8 o8 l8] 79)) w8.heap.size (alQ L 0) none by rw[m0y];exact QO.of (QB.new hu8));clear hb8 hu8 RO yo PSU;go_wp2_with fail
   go_loopw [8,9,11,12] (fun s8 s9 s11 s12 wr=>∃ i:Nat,s11=.int .i64 (i:Nat)∧i≤n∧Hid (ZW (w8.heap.size+1) wr s8 s9 ((L.take i).map Rat.floor) ((L.take i).map fpt))∧Hid (QO wr w8.heap.size (alQ L i) s8.ownBlock)∧Hid (Below w8.heap.size w8 wr)) (fun s8 s9 s11 s12 wr=>n-(intOf s11).toNat)
   case atStart=>exact⟨0,rfl,Nat.zero_le _,ZW.nil _ _,Q8,A8⟩
   case round=>
    obtain⟨i,rfl,hi,hZ,hO,hB⟩:=hrel;by_cases hlt:i<n
    ·have hil:i<L.length:=by rw[HLN.out];exact hlt
     obtain⟨q,hq⟩:∃ q,L[i]?=some q:=⟨_,List.getElem?_eq_getElem hil⟩;have HQI:=hid hq;have hqm:=List.mem_of_getElem? hq;obtain⟨gv,ov,mv,av,nv,kv,bv,iv,lv,eV,hgv,k0,k1,k2,hQv⟩:=R8.out.at hq;subst eV;have QV:=hid hQv;have KV:Hid (∀ V,Below w8.heap.size w8 V→V.cell? ⟨gv,ov+i*3,none⟩=some (.bool mv)∧V.cell? ⟨gv,ov+i*3+1,none⟩=some (.slice av nv kv)∧V.cell? ⟨gv,ov+i*3+2,none⟩=some (.slice bv iv lv)):=fun V h=>
      ⟨(h.cell (p:=⟨gv,_,none⟩) hgv).trans k0,(h.cell (p:=⟨gv,_,none⟩) hgv).trans k1,(h.cell (p:=⟨gv,_,none⟩) hgv).trans k2⟩
     have PF:=fun V x hx=>PFL.out q hqm V x hx
     have PRd:=fun V=>PRD.out q hqm V
     have PMf:=fun V x y hx hy=>PMF.out q hqm V x y hx hy
     have PMr:=fun V x y hx hy=>PMR.out q hqm i V x y hx hy
     have PI:=fun V=>PIN.out q hqm V
     rw[(h0G (HNEAR.out q hqm)).2]at PRd;have hzb:zB q.floor=txQ (flQ q):=by rw[q0v];rfl
     have hfp:q-flQ q=fpt q:=rfl;have hal:alQ L i-flQ q=alQ L (i+1):=(m0z hq).symm;rw[hzb]at PI;simp only[hfp]at PMf;simp only[hal]at PMr;obtain⟨F,hF⟩:∃ F,flQ q=F:=⟨_,rfl⟩;rw[hF]at PRd PMf PMr PI;obtain⟨T,hT⟩:∃ T,txQ F=T:=⟨_,rfl⟩;rw[hT]at PRd PI;obtain⟨z,hz⟩:∃ z,q.floor=z:=⟨_,rfl⟩;rw[hz]at PF PI;have HTZ:=hid (show (L.take (i+1)).map Rat.floor=(L.take i).map Rat.floor ++ [z] by rw[List.take_add_one,hq,Option.toList_some,List.map_append,List.map_cons,List.map_nil,hz]);have HTP:=hid (show (L.take (i+1)).map fpt=(L.take i).map fpt ++ [fpt q] by rw[List.take_add_one,hq,Option.toList_some,List.map_append,List.map_cons,List.map_nil]);have hlen:((L.take i).map Rat.floor).length=i:=by rw[List.length_map,List.length_take];omega
     have hlenP:((L.take i).map fpt).length=i:=by rw[List.length_map,List.length_take];omega
     obtain⟨Z,hZZ⟩:∃ Z,(L.take i).map Rat.floor=Z:=⟨_,rfl⟩;obtain⟨Pp,hPp⟩:∃ P,(L.take i).map fpt=P:=⟨_,rfl⟩;rw[hZZ]at hlen HTZ hZ;rw[hPp]at HTP hZ hlenP;have HLZ:=hid hlen;have HLP:=hid hlenP;obtain⟨fq,hfq⟩:∃ f,fpt q=f:=⟨_,rfl⟩;rw[hfq]at PMf HTP;have f1:(0:Int)≤(i:Int):=by omega
     have f2:(i:Int)<(n:Int):=by omega
     have wi:IntKind.i64.wrap ((i:Int)+1)=((i+1:Nat):Int):=by have:=HN12.out;rw[IntWalk.i64_in _ ⟨by omega,by omega⟩];omega
     have HLTi:=hid hlt;have BSZ:=hid (show w8.heap.size+1≤wr.heap.size by obtain⟨m,a,n,c,a',n',c',h1,-⟩:=hO.out;exact h1.lt);obtain⟨z0,z1,z2⟩:=KV.out _ hB.out;have HVB:=hid (hgv);clear hil hq hqm hgv k0 k1 k2 hQv hzb hfp hal hF hT hz hlen hlenP hZZ hPp hfq hlt hi;go_wp2_with fail;refine (PF _ _ (QV.out.call hB.out)).out.mono ?_;rintro e wa ⟨rfl,hba⟩;have xa:=hid (a0a hB.out hba);have AA:=hid ((Below.refl wa.heap.size wa).alloc (Nat.le_refl _) (.cells #[.int .i64 z] 3));have XA:=hid (Blk.new wa #[.int .i64 z] 3);have ZA:=hid (hZ.out.call (a0a hba AA.out));have OA:=hid (hO.out.call (a0a hba AA.out));have xA:=hid (a0a xa.out AA.out);have BSA:=hid (show w8.heap.size+1≤(wa.alloc (.cells #[.int .i64 z] 3)).heap.size from Nat.le_trans BSZ.out (Nat.le_trans hba.size AA.out.size));have o1:=ZA.out.o1;rw[HLZ.out]at o1;have O1:=hid o1;clear hba o1 z0 z1 z2
     go_wp2_with (at_builtin;refine wpList_append_own_at _ rfl _ _ 41 rfl (w8.heap.size+1) 3 iI (.int .i64 0) 1 8 Tryz.underlying41 hiI hI0 hI1 hI2 rfl (by decide) _ i (zs Z) rfl O1.out ⟨wa.heap.size,0,none⟩ 1 1 [.int .i64 z] rfl rfl (f0P XA.out) (by simp[Value.oneCell']) (by have:=HN12.out;have:=HLTi.out;unfold maxLen;omega) (by have:=HN12.out;have:=HLTi.out;omega) BSA.out ?_
                  intro v8 w9 hown hgrow _ hat;have Z9:=hid (ZA.out.appZ (by rw[HLZ.out];exact hown) hgrow hat);have O9:=hid (OA.out.appZ hgrow (fun e=>by have:=(ZA.out.o1.lt _ e).1;omega) hat);have B9:=hid (g0U xA.out (by have:=BSA.out;omega) hgrow (fun g e=>by have:=(ZA.out.o1.lt _ e).1;omega));have S9:=hid (Nat.le_trans BSA.out hgrow.size);clear hown hgrow hat)
     refine a0f [0,1,2,3,4,5] 6 (fun V=>V.cell? ⟨gv,ov+i*3,none⟩=some (.bool mv)∧V.cell? ⟨gv,ov+i*3+1,none⟩=some (.slice av nv kv)∧V.cell? ⟨gv,ov+i*3+2,none⟩=some (.slice bv iv lv)) (by kernel_rfl) (by kernel_rfl) (by kernel_rfl) (by kernel_rfl) (KV.out _ B9.out.drew) ?_
     iterate 6
      refine⟨_,rfl,?_⟩;apply Exists.intro
      refine⟨.inl ⟨by rfl,?_⟩,?_⟩
      ·(intro W' hW';obtain⟨z1,z2,z3⟩:=hW';go_simp;try (with_reducible rfl))
      (dsimp only[Act.put];try simp only[List.setIfInBounds_toArray,List.set_cons_zero,List.set_cons_succ])
     refine a0b (i:=6) (by kernel_rfl) (by rfl) (by rfl) ?_;go_wp2_with fail;refine (PI _).out.mono ?_;rintro e wb ⟨rfl,hbb⟩;have xb:=hid (show Below w9.heap.size w9 wb from (Below.refl _ _).drew.trans hbb);clear hbb;go_wp2_with fail;refine⟨KV.out _ (a0a B9.out xb.out),?_⟩;refine a0b (i:=7) (by kernel_rfl) (by rfl) (by rfl) ?_;go_wp2_with fail;refine (PRd _).out.mono ?_;rintro e wc ⟨⟨vc,rfl,hvc⟩,hbc⟩;obtain⟨mc,ac,nc,kc,bc,oc,lc,rfl⟩:=hvc.qv;have xc:=hid (a0a xb.out hbc);have VC:=hid hvc;clear hbc hvc;go_wp2_with fail;refine⟨KV.out _ (a0a B9.out xc.out),?_⟩;refine a0b (i:=8) (by kernel_rfl) (by rfl) (by rfl) ?_;go_wp2_with fail;refine (PMf _ _ _ (QV.out.call (a0a B9.out xc.out)) VC.out).out.mono ?_;rintro e wd ⟨⟨vd,rfl,hfd⟩,hbd⟩;have hvd:=hfd.q;obtain⟨m9,a9,n9,k9,b9,o9,l9,rfl⟩:=hvd.qv;obtain⟨fN,fD⟩:=hfd.fr;have hr9:∀ g,v8.ownBlock=some g→g<wc.heap.size:=fun g e=>Nat.lt_of_lt_of_le (Z9.out.o1.lt g e).2 xc.out.size
     have FO1:=hid (OffV.frO fN hr9);have FO2:=hid (OffV.frO fD hr9);have xd:=hid (a0a xc.out hbd);have VD:=hid hvd;have AD:=hid ((Below.refl wd.heap.size wd).alloc (Nat.le_refl _) (.cells #[.bool m9,.slice a9 n9 k9,.slice b9 o9 l9] 79));have XD:=hid (Blk.new wd #[.bool m9,.slice a9 n9 k9,.slice b9 o9 l9] 79);have ZD:=hid (Z9.out.call (a0a xd.out AD.out));have OD:=hid (O9.out.call (a0a xd.out AD.out));have xD:=hid (a0a B9.out (a0a xd.out AD.out));have BSD:=hid (show w8.heap.size+1≤(wd.alloc (.cells #[.bool m9,.slice a9 n9 k9,.slice b9 o9 l9] 79)).heap.size from Nat.le_trans S9.out (Nat.le_trans xd.out.size AD.out.size));obtain⟨cs,hk,hQL,hof⟩:=ZD.out.ex;have HK:=hid hk;have HQL:=hid hQL;have HOF:=hid hof;have HCL:=hid (show cs.length=i by rw[hQL.len];exact HLP.out);have QC2:=hid (QC.ofI (VD.out.call AD.out));clear hbd hvd hfd fN fD hr9 hk hQL hof;go_wp2_with fail;refine⟨KV.out _ (a0a B9.out xd.out),?_⟩;refine a0b (i:=9) (by kernel_rfl) (by rfl) (by rfl) ?_;go_wp2_with fail;refine⟨KV.out _ xD.out,?_⟩;refine a0b (i:=10) (by kernel_rfl) (by rfl) (by rfl) ?_;show wpList _ _ _ [⟨some 80,_,_,_,_,_⟩] _ _
     refine a0s _ .i64 rfl _ _ 104 rfl (w8.heap.size+1) 79 iQ (.agg #[.bool false,.slice none 0 0,.slice none 0 0]) 3 56 Tryz.underlying104 hiQ hQ0 hQ1 hQ2 rfl (by decide) l0a u9 cs rfl HK.out ⟨wd.heap.size,0,none⟩ 1 1 [[.bool m9,.slice a9 n9 k9,.slice b9 o9 l9]] rfl rfl (r0m _ _ _) (l0c XD.out) (r0d _ _ _ _ _ _ _) (p0t _ _ _ _ _ _ _) (by rw[HCL.out];have:=HN12.out;have:=HLTi.out;unfold maxLen;omega) (by rw[HCL.out];have:=HN12.out;have:=HLTi.out;omega) BSD.out ?_;intro v9 w10 hown hgrow hkeep hat;have Z10:=hid (ZD.out.appP HQL.out HOF.out QC2.out (fun u hu=>by simp at hu;rcases hu with rfl | rfl | rfl;exact OffV.bool _ _;exact FO1.out;exact FO2.out) hown hgrow hkeep hat);have O10:=hid (OD.out.appP hgrow (fun e=>by have:=(HK.out.own.lt _ e).1;omega) hkeep);have B10:=hid (g0U xD.out (by have:=BSD.out;omega) hgrow (fun g e=>by have:=(HK.out.own.lt _ e).1;omega));clear hown hgrow hkeep hat
     (dsimp only[Act.put];try simp only[List.setIfInBounds_toArray,List.set_cons_zero,List.set_cons_succ])
     go_wp2_with fail;refine⟨KV.out _ B10.out,?_⟩;refine a0d (is:=[11]) (g:=0) (by kernel_rfl) rfl (KV.out _ B10.out) (by kernel_rfl) ?_
     iterate 1
      refine⟨_,rfl,?_⟩;apply Exists.intro
      refine⟨.inl ⟨by rfl,?_⟩,?_⟩
      ·(intro W' hW';obtain⟨z1,z2,z3⟩:=hW';go_simp;try (with_reducible rfl))
      (dsimp only[Act.put];try simp only[List.setIfInBounds_toArray,List.set_cons_zero,List.set_cons_succ])
     refine wpAnyH_done (by kernel_rfl) ?_ _;simp only[a0o];obtain⟨mR,aR,nR,kR,bR,oR,lR,hBR,hQR,-,-⟩:=O10.out;have BR:=hid hBR;have QR:=hid hQR;clear hBR hQR;go_wp2_with fail;have D0:=hid (show Below w10.heap.size w10 w10.drew from (Below.refl _ _).drew);refine a0f [1] 5 (fun _=>True) (by kernel_rfl) (by kernel_rfl) (by kernel_rfl) (by kernel_rfl) trivial ?_
     iterate 1
      refine⟨_,rfl,?_⟩;apply Exists.intro
      refine⟨.inl ⟨by rfl,?_⟩,?_⟩
      ·(intro W' hW';obtain⟨⟩:=hW';go_simp;try (with_reducible rfl))
      (dsimp only[Act.put];try simp only[List.setIfInBounds_toArray,List.set_cons_zero,List.set_cons_succ])
     refine a0k (i:=0) (j:=2) (by kernel_rfl) (by rfl) (by rfl) (by rfl) (by rfl) ?_ ?_
     ·have u0:=(BR.out.call D0.out).cell 0;have u1:=(BR.out.call D0.out).cell 1;have u2:=(BR.out.call D0.out).cell 2;simp at u0 u1 u2;go_wp2_with fail;refine⟨trivial,?_⟩;clear u0 u1 u2;refine a0b (i:=2) (by kernel_rfl) (by rfl) (by rfl) ?_;go_wp2_with fail;refine (PI _).out.mono ?_;rintro e we ⟨rfl,hbe⟩;have xe:=hid (a0a D0.out hbe);clear hbe;go_wp2_with fail;refine⟨trivial,?_⟩;refine a0b (i:=3) (by kernel_rfl) (by rfl) (by rfl) ?_;go_wp2_with fail;refine (PRd _).out.mono ?_;rintro e wf ⟨⟨vf,rfl,hvf⟩,hbf⟩;obtain⟨mf,af,nf,kf,bf,of',lf,rfl⟩:=hvf.qv;have xf:=hid (a0a xe.out hbf);have VF:=hid hvf;clear hbf hvf;go_wp2_with fail;refine⟨trivial,?_⟩;refine a0b (i:=4) (by kernel_rfl) (by rfl) (by rfl) ?_;go_wp2_with fail;refine (PMr _ _ _ (QR.out.call xf.out) VF.out).out.mono ?_;rintro e wg ⟨⟨vg,rfl,hfg⟩,hbg⟩;have hvg:=hfg.q;obtain⟨mg,ag,ng,kg,bg,og,lg,rfl⟩:=hvg.qv;obtain⟨fN,fD⟩:=hfg.fr;have hr9:∀ g,v8.ownBlock=some g→g<wf.heap.size:=fun g e=>Nat.lt_of_lt_of_le (Z10.out.o1.lt g e).2 xf.out.size
      have GO1:=hid (OffV.frO fN hr9);have GO2:=hid (OffV.frO fD hr9);have xg:=hid (a0a xf.out hbg);have VG:=hid hvg;have BRg:=hid (BR.out.call xg.out);have ON:=hid (QO.put BRg.out VG.out GO1.out GO2.out);have ZN0:=(Z10.out.call xg.out).other (Nat.lt_succ_self _) BRg.out mg ag bg ng kg og lg;rw[← HTZ.out,← HTP.out]at ZN0;have ZN:=hid ZN0;have BN:=hid ((((a0a B10.out xg.out).setCell (p:=⟨w8.heap.size,0,none⟩) (Nat.le_refl _) (.bool mg)).setCell (p:=⟨w8.heap.size,1,none⟩) (Nat.le_refl _) (.slice ag ng kg)).setCell (p:=⟨w8.heap.size,2,none⟩) (Nat.le_refl _) (.slice bg og lg));clear hbg hvg hfg fN fD hr9 ZN0;go_wp2_with fail;refine⟨trivial,?_⟩;refine a0b (i:=5) (by kernel_rfl) (by rfl) (by rfl) ?_;have u0:=BRg.out.cell 0;have u1:=BRg.out.cell 1;have u2:=BRg.out.cell 2;have u3:=BRg.out.free 0;have u4:=BRg.out.free 1;have u5:=BRg.out.free 2;simp at u0 u1 u2;go_wp2_with fail;refine⟨trivial,?_⟩;clear u0 u1 u2 u3 u4 u5;refine wpAnyH_done (by kernel_rfl) ?_ _;simp only[a0o];go_wp2_with fail;go_roundw
      case rel=>exact⟨i+1,by go_num,by have:=HLTi.out;omega,ZN,ON,BN⟩
      case measure=>simp[intOf]<;>(have:=HLTi.out;omega)
     ·go_wp2_with fail;refine (PI _).out.mono ?_;rintro e we ⟨rfl,hbe⟩;have xe:=hid (a0a D0.out hbe);clear hbe;go_wp2_with fail;refine⟨trivial,?_⟩;refine a0k (i:=0) (j:=3) (by kernel_rfl) (by rfl) (by rfl) (by rfl) (by rfl) ?_ ?_
      ·have u0:=(BR.out.call xe.out).cell 0;have u1:=(BR.out.call xe.out).cell 1;have u2:=(BR.out.call xe.out).cell 2;simp at u0 u1 u2;go_wp2_with fail;refine⟨trivial,?_⟩;clear u0 u1 u2;refine a0b (i:=3) (by kernel_rfl) (by rfl) (by rfl) ?_;go_wp2_with fail;refine (PRd _).out.mono ?_;rintro e wf ⟨⟨vf,rfl,hvf⟩,hbf⟩;obtain⟨mf,af,nf,kf,bf,of',lf,rfl⟩:=hvf.qv;have xf:=hid (a0a xe.out hbf);have VF:=hid hvf;clear hbf hvf;go_wp2_with fail;refine⟨trivial,?_⟩;refine a0b (i:=4) (by kernel_rfl) (by rfl) (by rfl) ?_;go_wp2_with fail;refine (PMr _ _ _ (QR.out.call xf.out) VF.out).out.mono ?_;rintro e wg ⟨⟨vg,rfl,hfg⟩,hbg⟩;have hvg:=hfg.q;obtain⟨mg,ag,ng,kg,bg,og,lg,rfl⟩:=hvg.qv;obtain⟨fN,fD⟩:=hfg.fr;have hr9:∀ g,v8.ownBlock=some g→g<wf.heap.size:=fun g e=>Nat.lt_of_lt_of_le (Z10.out.o1.lt g e).2 xf.out.size
       have GO1:=hid (OffV.frO fN hr9);have GO2:=hid (OffV.frO fD hr9);have xg:=hid (a0a xf.out hbg);have VG:=hid hvg;have BRg:=hid (BR.out.call xg.out);have ON:=hid (QO.put BRg.out VG.out GO1.out GO2.out);have ZN0:=(Z10.out.call xg.out).other (Nat.lt_succ_self _) BRg.out mg ag bg ng kg og lg;rw[← HTZ.out,← HTP.out]at ZN0;have ZN:=hid ZN0;have BN:=hid ((((a0a B10.out xg.out).setCell (p:=⟨w8.heap.size,0,none⟩) (Nat.le_refl _) (.bool mg)).setCell (p:=⟨w8.heap.size,1,none⟩) (Nat.le_refl _) (.slice ag ng kg)).setCell (p:=⟨w8.heap.size,2,none⟩) (Nat.le_refl _) (.slice bg og lg));clear hbg hvg hfg fN fD hr9 ZN0;go_wp2_with fail;refine⟨trivial,?_⟩;refine a0b (i:=5) (by kernel_rfl) (by rfl) (by rfl) ?_;have u0:=BRg.out.cell 0;have u1:=BRg.out.cell 1;have u2:=BRg.out.cell 2;have u3:=BRg.out.free 0;have u4:=BRg.out.free 1;have u5:=BRg.out.free 2;simp at u0 u1 u2;go_wp2_with fail;refine⟨trivial,?_⟩;clear u0 u1 u2 u3 u4 u5;refine wpAnyH_done (by kernel_rfl) ?_ _;simp only[a0o];go_wp2_with fail;go_roundw
       case rel=>exact⟨i+1,by go_num,by have:=HLTi.out;omega,ZN,ON,BN⟩
       case measure=>simp[intOf]<;>(have:=HLTi.out;omega)
      ·go_wp2_with fail;refine (PRd _).out.mono ?_;rintro e wf ⟨⟨vf,rfl,hvf⟩,hbf⟩;obtain⟨mf,af,nf,kf,bf,of',lf,rfl⟩:=hvf.qv;have xf:=hid (a0a xe.out hbf);have VF:=hid hvf;clear hbf hvf;go_wp2_with fail;refine⟨trivial,?_⟩;refine a0b (i:=0) (by kernel_rfl) (by rfl) (by rfl) ?_;have u0:=(BR.out.call xf.out).cell 0;have u1:=(BR.out.call xf.out).cell 1;have u2:=(BR.out.call xf.out).cell 2;simp at u0 u1 u2;go_wp2_with fail;refine⟨trivial,?_⟩;clear u0 u1 u2;refine a0b (i:=4) (by kernel_rfl) (by rfl) (by rfl) ?_;go_wp2_with fail;refine (PMr _ _ _ (QR.out.call xf.out) VF.out).out.mono ?_;rintro e wg ⟨⟨vg,rfl,hfg⟩,hbg⟩;have hvg:=hfg.q;obtain⟨mg,ag,ng,kg,bg,og,lg,rfl⟩:=hvg.qv;obtain⟨fN,fD⟩:=hfg.fr;have hr9:∀ g,v8.ownBlock=some g→g<wf.heap.size:=fun g e=>Nat.lt_of_lt_of_le (Z10.out.o1.lt g e).2 xf.out.size
       have GO1:=hid (OffV.frO fN hr9);have GO2:=hid (OffV.frO fD hr9);have xg:=hid (a0a xf.out hbg);have VG:=hid hvg;have BRg:=hid (BR.out.call xg.out);have ON:=hid (QO.put BRg.out VG.out GO1.out GO2.out);have ZN0:=(Z10.out.call xg.out).other (Nat.lt_succ_self _) BRg.out mg ag bg ng kg og lg;rw[← HTZ.out,← HTP.out]at ZN0;have ZN:=hid ZN0;have BN:=hid ((((a0a B10.out xg.out).setCell (p:=⟨w8.heap.size,0,none⟩) (Nat.le_refl _) (.bool mg)).setCell (p:=⟨w8.heap.size,1,none⟩) (Nat.le_refl _) (.slice ag ng kg)).setCell (p:=⟨w8.heap.size,2,none⟩) (Nat.le_refl _) (.slice bg og lg));clear hbg hvg hfg fN fD hr9 ZN0;go_wp2_with fail;refine⟨trivial,?_⟩;refine a0b (i:=5) (by kernel_rfl) (by rfl) (by rfl) ?_;have u0:=BRg.out.cell 0;have u1:=BRg.out.cell 1;have u2:=BRg.out.cell 2;have u3:=BRg.out.free 0;have u4:=BRg.out.free 1;have u5:=BRg.out.free 2;simp at u0 u1 u2;go_wp2_with fail;refine⟨trivial,?_⟩;clear u0 u1 u2 u3 u4 u5;refine wpAnyH_done (by kernel_rfl) ?_ _;simp only[a0o];go_wp2_with fail;go_roundw
       case rel=>exact⟨i+1,by go_num,by have:=HLTi.out;omega,ZN,ON,BN⟩
       case measure=>simp[intOf]<;>(have:=HLTi.out;omega)
    ·obtain rfl:n=i:=by omega
     have q1:decide ((n:Int)<(n:Int))=false:=by simp
     have hT:L.take n=L:=List.take_of_length_le (by rw[HLN.out];exact Nat.le_refl _);rw[hT]at hZ;obtain⟨hm1,hm2⟩:=HM.out;have hrd:e0p l=rdL L (rdM L):=E2.out;obtain⟨m,hm⟩:∃ m,rdM L=m:=⟨_,rfl⟩;rw[hm]at hm1 hm2 hrd;rw[HLN.out]at hm1;have HRD:=hid hrd;have HMN:=hid hm1;have hal:alQ L n=((m:Nat):Rat):=by rw[← HLN.out,o0y,hm2]
     rw[hal]at hO;have hdm:=HAD.out n;rw[hal]at hdm;have PFm:=fun V x hx=>hid (g0z V x ((m:Nat):Rat) hx hdm (hdm.fits (by omega) (by omega)) (by rw[g0X];have:=HN12.out;omega))
     simp only[g0X]at PFm;have z0:=hZ.out;rw[← k0m,← p0L]at z0;have Z0:=hid z0;obtain⟨gz,cz,gp,cp,ez,ep,s1,s2,s3,s4,s5,s6⟩:=z0.shape HN0.out (by rw[k0n,HLN.out]) (by rw[d0J,HLN.out]);subst ez ep;have S5:=hid s5;have S6:=hid s6;obtain⟨mR,aR,nR,kR,bR,oR,lR,hBR,hQR,-,-⟩:=hO.out;have BR:=hid hBR;have QR:=hid hQR;have BB:=hid hB.out;have u0:=BR.out.cell 0;have u1:=BR.out.cell 1;have u2:=BR.out.cell 2;simp at u0 u1 u2;have GF:=hid (fun j S (h:j<n)=>(p0M (j:=j) (S:=S) HLTT.out (by rw[HLN.out];exact h)));have PRN:=fun V=>hid (k0J V ⟨#[45,49]⟩ (by decide) l0j.1)
     rw[l0j.2]at PRN;clear hlt hT hi hZ hm hm1 hm2 hrd hal hdm z0 hO hBR hQR HAD PFL PRD PMF PMR PIN hB s5 s6;go_wp2_with fail;refine (PFm _ _ QR.out).out.mono ?_;rintro e wz ⟨rfl,hbz⟩;have Bz:=hid (a0a BB.out hbz);have Zz:=hid (Z0.out.call hbz);clear hbz u0 u1 u2 BR QR;go_wp2_with fail
     go_loopw [13,14,15] (fun s13 s14 s15 wr=>∃ j t:Nat,s13=.int .i64 (t:Nat)∧t+j=m∧Hid (ZW (w8.heap.size+1) wr (.slice (some ⟨gz,0,none⟩) n cz) (.slice (some ⟨gp,0,none⟩) n cp) (upL L ((frO L).take j)) (frL L ((frO L).take j)))∧Hid (Below w8.heap.size w8 wr)) (fun s13 s14 s15 wr=>(intOf s13).toNat)
     case atStart=>exact⟨0,m,rfl,rfl,by rw[List.take_zero];exact Zz,Bz⟩
     case round=>
      obtain⟨j,t,rfl,hj,hZ,hB⟩:=hrel;by_cases h0:0<t
      ·have g1:decide ((0:Int)<(t:Int))=true:=decide_eq_true (by omega);have g2:(0:Int)<(t:Int):=by omega
       have g3:decide (0<t)=true:=decide_eq_true h0;have wt:IntKind.i64.wrap ((t:Int)-1)=((t-1:Nat):Int):=by have:=HN12.out;have:=HMN.out;rw[IntWalk.i64_in _ ⟨by omega,by omega⟩];omega
       have HT0:=hid h0;have HJ:=hid hj;obtain⟨p,hp⟩:∃ p,(frO L)[j]?=some p:=⟨_,List.getElem?_eq_getElem (by rw[p0J,HLN.out];have:=HMN.out;omega)⟩;obtain⟨hn1,hn2⟩:=f0F (o0p L) hp;have hpl:=o0q (List.mem_of_getElem? hp);have hpk:=n0X hp;obtain⟨S,hS⟩:∃ S,(frO L).take j=S:=⟨_,rfl⟩;rw[hS]at hn1 hn2 hpk hZ;rw[HLN.out]at hpl hpk;have HN1:=hid hn1;have HN2:=hid hn2;have HPL:=hid hpl;have HPK:=hid hpk;have HZ:=hid hZ.out;have HB:=hid hB.out;obtain⟨wo,hwo⟩:∃ q,q=wr:=⟨_,rfl⟩;subst hwo;clear h0 hj hp hn1 hn2 hpl hpk hS hZ hB;go_wp2_with fail
       go_loopw [14,15] (fun s14 s15 wr=>∃ k:Nat,s15=.int .i64 (k:Nat)∧1≤k∧k≤n∧s14=.int .i64 ((amx (frF L S) (k-1):Nat))∧Hid (Below wo.heap.size wo wr)) (fun s14 s15 wr=>n-(intOf s15).toNat)
       case atStart=>exact⟨1,rfl,Nat.le_refl _,HN0.out,rfl,Below.refl _ _⟩
       case round=>
        obtain⟨k,rfl,hk1,hk2,rfl,hBk⟩:=hrel;by_cases hkn:k<n
        ·have b1:=m0x (frF L S) (k-1);have AM:amx (frF L S) k=if frF L S (amx (frF L S) (k-1))<frF L S k then k else amx (frF L S) (k-1):=by
          obtain⟨k',rfl⟩:∃ k',k=k'+1:=⟨k-1,by omega⟩;rw[amx];rfl
         obtain⟨b,hb⟩:∃ b,amx (frF L S) (k-1)=b:=⟨_,rfl⟩;rw[hb]at b1 AM ⊢;have RW:=HZ.out.wrow.call hBk.out;obtain⟨g1,mk,ak,nk,ck,ak',nk',ck',e1,-,hg,x0,x1,x2,hQk⟩:=RW.at (e0H (S:=S) (j:=k) (by rw[HLN.out];exact hkn));obtain⟨g2,mb,ab,nb,cb,ab',nb',cb',e2,-,-,v0,v1,v2,hQb⟩:=RW.at (e0H (S:=S) (j:=b) (by rw[HLN.out];omega));simp only[Option.some.injEq,Addr.mk.injEq,and_true]at e1 e2;subst e1 e2;have QK:=hid hQk;have QBb:=hid hQb;have KK:Hid (∀ V,Below wr.heap.size wr V→(V.cell? ⟨gp,k*3,none⟩=some (.bool mk)∧V.cell? ⟨gp,k*3+1,none⟩=some (.slice ak nk ck)∧V.cell? ⟨gp,k*3+2,none⟩=some (.slice ak' nk' ck'))∧(V.cell? ⟨gp,b*3,none⟩=some (.bool mb)∧V.cell? ⟨gp,b*3+1,none⟩=some (.slice ab nb cb)∧V.cell? ⟨gp,b*3+2,none⟩=some (.slice ab' nb' cb'))):=fun V h=>
          ⟨⟨(h.cell (p:=⟨gp,_,none⟩) hg).trans x0,(h.cell (p:=⟨gp,_,none⟩) hg).trans x1,(h.cell (p:=⟨gp,_,none⟩) hg).trans x2⟩,(h.cell (p:=⟨gp,_,none⟩) hg).trans v0,(h.cell (p:=⟨gp,_,none⟩) hg).trans v1,(h.cell (p:=⟨gp,_,none⟩) hg).trans v2⟩
         have PE:=fun V x y hx hy=>hid (b0V V x y (frF L S k) (frF L S b) hx hy (GF.out k S hkn) (GF.out b S (by omega)))
         have HZC:=hid (b0D (p:=frF L S k) (q:=frF L S b));obtain⟨Bo,hBo⟩:∃ B,d0V (frF L S k) (frF L S b)=B:=⟨_,rfl⟩;rw[hBo]at PE HZC;have HAM:=hid AM;have d1:(0:Int)≤(k:Int):=by omega
         have d2:(k:Int)<(n:Int):=by omega
         have d3:(0:Int)≤(b:Int):=by omega
         have d4:(b:Int)<(n:Int):=by omega
         have wk:IntKind.i64.wrap ((k:Int)+1)=((k+1:Nat):Int):=by have:=HN12.out;rw[IntWalk.i64_in _ ⟨by omega,by omega⟩];omega
         have HK1:=hid hk1;have HKN:=hid hkn;clear b1 AM hb RW x0 x1 x2 v0 v1 v2 hQk hQb hg hBo hk1 hk2 hkn;go_wp2_with fail;refine a0f [0,1,2,3,4,5,6,7] 2 (fun V=>(V.cell? ⟨gp,k*3,none⟩=some (.bool mk)∧V.cell? ⟨gp,k*3+1,none⟩=some (.slice ak nk ck)∧V.cell? ⟨gp,k*3+2,none⟩=some (.slice ak' nk' ck'))∧(V.cell? ⟨gp,b*3,none⟩=some (.bool mb)∧V.cell? ⟨gp,b*3+1,none⟩=some (.slice ab nb cb)∧V.cell? ⟨gp,b*3+2,none⟩=some (.slice ab' nb' cb'))) (by kernel_rfl) (by kernel_rfl) (by kernel_rfl) (by kernel_rfl) (KK.out _ (Below.refl _ _).drew) ?_
         iterate 8
          refine⟨_,rfl,?_⟩;apply Exists.intro
          refine⟨.inl ⟨by rfl,?_⟩,?_⟩
          ·(intro W' hW';obtain⟨⟨z1,z2,z3⟩,z4,z5,z6⟩:=hW';go_simp;try (with_reducible rfl))
          (dsimp only[Act.put];try simp only[List.setIfInBounds_toArray,List.set_cons_zero,List.set_cons_succ])
         refine a0b (i:=8) (by kernel_rfl) (by rfl) (by rfl) ?_;go_wp2_with fail;refine (PE _ _ _ (QK.out.call (Below.refl _ _).drew) (QBb.out.call (Below.refl _ _).drew)).out.mono ?_;rintro e w7 ⟨rfl,hb7⟩;have x7:=hid (show Below wr.heap.size wr w7 from (Below.refl _ _).drew.trans hb7);have BN:=hid (a0a hBk.out x7.out);clear hb7;by_cases hgt:frF L S b<frF L S k
         ·have t0:decide ((0:Int)<Bo)=true:=decide_eq_true (HZC.out.2 hgt);have EA:=hid (show amx (frF L S) k=k by rw[HAM.out,if_pos hgt]);clear hgt;go_wp2_with fail;refine⟨KK.out _ x7.out,?_⟩;refine a0d (is:=[9]) (g:=0) (by kernel_rfl) rfl (KK.out _ x7.out) (by kernel_rfl) ?_
          iterate 1
           refine⟨_,rfl,?_⟩;apply Exists.intro
           refine⟨.inl ⟨by rfl,?_⟩,?_⟩
           ·(intro W' hW';obtain⟨⟨z1,z2,z3⟩,z4,z5,z6⟩:=hW';go_simp;try (with_reducible rfl))
           (dsimp only[Act.put];try simp only[List.setIfInBounds_toArray,List.set_cons_zero,List.set_cons_succ])
          refine wpAnyH_done (by kernel_rfl) ?_ _;simp only[a0o];go_wp2_with fail;go_roundw
          case rel=>exact⟨k+1,by go_num,by omega,by have:=HKN.out;omega,by rw[Nat.add_sub_cancel,EA.out],BN⟩
          case measure=>simp[intOf]<;>(have:=HKN.out;omega)
         ·have t0:decide ((0:Int)<Bo)=false:=decide_eq_false (fun h=>hgt (HZC.out.1 h));have EA:=hid (show amx (frF L S) k=b by rw[HAM.out,if_neg hgt]);clear hgt;go_wp2_with fail;refine⟨KK.out _ x7.out,?_⟩;refine a0d (is:=[9]) (g:=0) (by kernel_rfl) rfl (KK.out _ x7.out) (by kernel_rfl) ?_
          iterate 1
           refine⟨_,rfl,?_⟩;apply Exists.intro
           refine⟨.inl ⟨by rfl,?_⟩,?_⟩
           ·(intro W' hW';obtain⟨⟨z1,z2,z3⟩,z4,z5,z6⟩:=hW';go_simp;try (with_reducible rfl))
           (dsimp only[Act.put];try simp only[List.setIfInBounds_toArray,List.set_cons_zero,List.set_cons_succ])
          refine wpAnyH_done (by kernel_rfl) ?_ _;simp only[a0o];go_wp2_with fail;go_roundw
          case rel=>exact⟨k+1,by go_num,by omega,by have:=HKN.out;omega,by rw[Nat.add_sub_cancel,EA.out],BN⟩
          case measure=>simp[intOf]<;>(have:=HKN.out;omega)
        ·obtain rfl:n=k:=by omega
         have q9:decide ((n:Int)<(n:Int))=false:=by simp
         rw[HPK.out];have ZC:=hid (HZ.out.call hBk.out);have hzi:=ZC.out.int (k0o (S:=S) (by rw[HLN.out];exact HPL.out) HN1.out);have hmem:L.getD p 0∈L:=by
          rw[List.getD_eq_getElem?_getD,List.getElem?_eq_getElem (by rw[HLN.out];exact HPL.out)];exact List.getElem_mem _
         have hnr:=HNEAR.out _ hmem;have ZP0:=ZC.out.putZ p ((L.getD p 0).floor+1);rw[k0l (by rw[HLN.out];exact HPL.out) HN1.out]at ZP0;obtain⟨z,hz⟩:∃ z,(L.getD p 0).floor=z:=⟨_,rfl⟩;rw[hz]at hzi ZP0 hnr;have ZP:=hid ZP0;have wz1:IntKind.i64.wrap (z+1)=z+1:=by rw[IntWalk.i64_in _ ⟨by omega,by omega⟩]
         have hzf:=ZC.out.free p;have d1:(0:Int)≤(p:Int):=by omega
         have d2:(p:Int)<(n:Int):=by have:=HPL.out;omega
         have d3:p<n:=HPL.out;have BP:=hid ((a0a HB.out hBk.out).setCell (p:=⟨gz,p,none⟩) (by have:=S5.out;show _≤gz;omega) (.int .i64 (z+1)));clear hk1 hk2 hkn hmem hnr ZP0 hz;go_wp2_with fail;refine (PRN _).out.mono ?_;rintro e wn ⟨⟨vn,rfl,hfn⟩,hbn⟩;have hvn:=hfn.q;obtain⟨m5,a5,n5,c5,a6,n6,c6,rfl⟩:=hvn.qv;obtain⟨fN,fD⟩:=hfn.fr;have FO1:=hid (OffV.frO fN ZP.out.bnd);have FO2:=hid (OffV.frO fD ZP.out.bnd);have ZR:=hid (ZP.out.call hbn);have VN:=hid hvn;have BQ:=hid (a0a BP.out hbn);obtain⟨g1,mk,ak,nk,ck,ak',nk',ck',e1,-,hg,x0,x1,x2,hQk⟩:=ZR.out.wrow.at (e0H (S:=S) (j:=p) (by rw[HLN.out];exact HPL.out));simp only[Option.some.injEq,Addr.mk.injEq,and_true]at e1;subst e1;have x3:=ZR.out.wrow.free (p*3);have x4:=ZR.out.wrow.free (p*3+1);have x5:=ZR.out.wrow.free (p*3+2);have ZF0:=ZR.out.putP (i:=p) (by rw[d0J,HLN.out];exact HPL.out) VN.out FO1.out FO2.out;rw[p0K (by rw[HLN.out];exact HPL.out),← HN2.out]at ZF0;have ZF:=hid ZF0;have BF:=hid (((BQ.out.setCell (p:=⟨gp,p*3,none⟩) (by have:=S6.out;show _≤gp;omega) (.bool m5)).setCell (p:=⟨gp,p*3+1,none⟩) (by have:=S6.out;show _≤gp;omega) (.slice a5 n5 c5)).setCell (p:=⟨gp,p*3+2,none⟩) (by have:=S6.out;show _≤gp;omega) (.slice a6 n6 c6));clear hzi hzf hfn hvn fN fD hbn hg hQk ZF0;go_wp2_with fail;go_roundw
         case rel=>exact⟨j+1,t-1,by go_num,by have:=HJ.out;have:=HT0.out;omega,ZF,BF⟩
         case measure=>simp[intOf]<;>(have:=HT0.out;omega)
      ·have g1:decide ((0:Int)<(t:Int))=false:=decide_eq_false (by omega);have g2:¬ (0:Int)<(t:Int):=by omega
       have g3:decide (0<t)=false:=decide_eq_false h0;have g4:t=0:=by omega
       have hjm:j=m:=by omega
       have HZ:=hid (show ZW _ wr _ _ (rdL L m) _ from by have:=hZ.out;rw[hjm,q0U,k0p]at this;exact this);have HB:=hid (a0a y8.out hB.out);have HG4:=hid g4;clear h0 hjm hj hZ hB;go_wp2_with fail;go_ret2
       rw[E1.out,HRD.out];exact⟨⟨_,rfl,Row.of_owns HZ.out.o1⟩,HB.out⟩
theorem k0K (w:World)(v:Value)(l:List ByteArray)(hv:Row w v (a0T l))(hs:∀ s∈l,s.size≤20)(hl:l.length≤12):
 Calls Tryz.prog 35 #[v] w fun e w'=>(∃ u,e=.returned (.tuple #[u,.int .i64 (rdE l)])∧Row w' u (zs (e0p l)))∧Below w.heap.size w w':=by
 by_cases h0:a0O l=0
 ·by_cases hd:(rs (l.map vQ)).den=1
  ·exact q0Q w v l hv hs hl h0 hd
  ·exact m0V w v l hv hs hl h0 hd
 ·exact m0W w v l hv hs h0
theorem h0R (w:World)(v u:Value)(L M:List ByteArray)(hv:Row w v (a0T L))(hu:Row w u (a0T M)):
 Calls Tryz.prog 16 #[v,u] w fun e w'=>e=.returned (.bool (decide (L=M)))∧Below w.heap.size w w':=by
 obtain⟨a,c,rfl,h1,h2,h3⟩:=hv.openS;obtain⟨a',c',rfl,h1',h2',h3'⟩:=hu.openS;obtain⟨n,hn⟩:∃ n,L.length=n:=⟨_,rfl⟩;obtain⟨m,hm⟩:∃ n,M.length=n:=⟨_,rfl⟩;rw[hn]at h1 ⊢;rw[hm]at h1' ⊢;have H3:=hid h3;have H3':=hid h3';have HN:=hid hn;have HM:=hid hm;clear hv hu h3 h3';by_cases hnm:n=m
 ·subst hnm;have q0:((n:Int) != (n:Int))=false:=by simp
  clear hn hm;go_enter Tryz.func16,Tryz.ntmps16;go_wp2_with fail
  go_loopw [5] (fun ii wr=>∃ i:Nat,ii=.int .i64 (i:Nat)∧i≤n∧Hid (∀ j,j<i→L[j]?=M[j]?)∧Hid (Below w.heap.size w wr)) (fun ii wr=>n-(intOf ii).toNat)
  case atStart=>exact⟨0,rfl,Nat.zero_le _,fun j hj=>absurd hj (by omega),Below.refl _ _⟩
  case round=>
   obtain⟨i,rfl,hi,hI,hB⟩:=hrel;by_cases hlt:i<n
   ·obtain⟨x,hx⟩:∃ x,L[i]?=some x:=⟨_,List.getElem?_eq_getElem (by rw[HN.out];exact hlt)⟩;obtain⟨y,hy⟩:∃ x,M[i]?=some x:=⟨_,List.getElem?_eq_getElem (by rw[HM.out];exact hlt)⟩;obtain⟨g,o,rfl,hg,k1⟩:=H3.out i x hx;obtain⟨g',o',rfl,hg',k1'⟩:=H3'.out i y hy;have HX:=hid hx;have HY:=hid hy;have m1:=(hB.out.cell (p:=⟨g,o+i,none⟩) hg).trans k1;have m3:=(hB.out.cell (p:=⟨g',o'+i,none⟩) hg').trans k1';have b1:(0:Int)≤(i:Int):=by omega
    have b2:(i:Int)<(n:Int):=by omega
    have wi:IntKind.i64.wrap ((i:Int)+1)=(i:Int)+1:=by rw[IntWalk.i64_in _ ⟨by omega,by omega⟩]
    clear k1 k1' hx hy hg hg';by_cases he1:x=y
    ·subst he1;go_wp2_with fail;refine a0f [0,1,2,3,4,5,6,7,8] 0 (fun w'=>w'.cell? ⟨g,o+i,none⟩=some (.string x)∧w'.cell? ⟨g',o'+i,none⟩=some (.string x)) (by kernel_rfl) (by kernel_rfl) (by kernel_rfl) (by kernel_rfl) ⟨m1,m3⟩ ?_
     iterate 9
      refine⟨_,rfl,?_⟩;apply Exists.intro
      refine⟨.inl ⟨by rfl,?_⟩,?_⟩
      ·(intro W' hW';obtain⟨q1,q2⟩:=hW';go_simp;try (with_reducible rfl))
      (dsimp only[Act.put];try simp only[List.setIfInBounds_toArray,List.set_cons_zero,List.set_cons_succ])
     refine wpAnyH_done (by kernel_rfl) ?_ _;simp only[a0o];go_wp2_with fail;go_roundw
     case rel=>exact⟨i+1,rfl,by omega,fun j hj=>by
      rcases Nat.lt_or_ge j i with h | h
      ·exact hI.out j h
      ·obtain rfl:j=i:=by omega
       rw[HX.out,HY.out],hB.out.drew⟩
     case measure=>simp[intOf]<;>omega
    ·have n1:(x.toList==y.toList)=false:=by rw[beq_eq_false_iff_ne];exact r0Z he1
     have hne:decide (L=M)=false:=by
      rw[decide_eq_false_iff_not];rintro rfl;have:=HX.out.symm.trans HY.out;simp only[Option.some.injEq]at this;exact he1 this
     have HNE:=hid hne;clear hne he1;go_wp2_with fail;refine a0f [0,1,2,3,4,5,6,7,8] 0 (fun w'=>w'.cell? ⟨g,o+i,none⟩=some (.string x)∧w'.cell? ⟨g',o'+i,none⟩=some (.string y)) (by kernel_rfl) (by kernel_rfl) (by kernel_rfl) (by kernel_rfl) ⟨m1,m3⟩ ?_
     iterate 9
      refine⟨_,rfl,?_⟩;apply Exists.intro
      refine⟨.inl ⟨by rfl,?_⟩,?_⟩
      ·(intro W' hW';obtain⟨q1,q2⟩:=hW';go_simp;try (with_reducible rfl))
      (dsimp only[Act.put];try simp only[List.setIfInBounds_toArray,List.set_cons_zero,List.set_cons_succ])
     refine wpAnyH_done (by kernel_rfl) ?_ _;simp only[a0o];go_wp2_with fail;go_ret
     exact⟨by rw[HNE.out];rfl,hB.out.drew⟩
   ·obtain rfl:i=n:=by omega
    have hE:L=M:=by
     apply List.ext_getElem?
     intro j;by_cases hj:j<i
     ·exact hI.out j hj
     ·rw[List.getElem?_eq_none (by rw[HN.out];omega),List.getElem?_eq_none (by rw[HM.out];omega)]
    have HE:=hid hE;have q1:decide ((i:Int)<(i:Int))=false:=by simp
    clear hE;go_wp2_with fail;go_ret
    exact⟨by rw[decide_eq_true HE.out];rfl,hB.out⟩
 ·have hE:decide (L=M)=false:=by rw[decide_eq_false_iff_not];rintro rfl;exact hnm (hn.symm.trans hm)
  have HE:=hid hE;have q0:((n:Int) != (m:Int))=true:=by simp;omega
  clear hn hm hE;go_enter Tryz.func16,Tryz.ntmps16;go_wp2_with fail;go_ret
  exact⟨by rw[HE.out];rfl,Below.refl _ _⟩
theorem n0Y {p:ByteArray→Bool}{l:List ByteArray}(h:∀ (j:Nat) (x:ByteArray),j<l.length→l[j]?=some x→p x=true):l.all p=true:=by
 rw[List.all_eq_true];intro x hx;obtain⟨j,hj⟩:=List.getElem?_of_mem hx;exact h j x (List.getElem?_eq_some_iff.1 hj).1 hj
theorem q0p {p:ByteArray→Bool}{l:List ByteArray}{x:ByteArray}(hx:x∈l)(h:p x=false):l.all p=false:=by
 cases e:l.all p
 ·rfl
 ·rw[List.all_eq_true]at e;rw[e x hx]at h;cases h
theorem k0f (w:World)(v:Value)(l:List ByteArray)(hv:Row w v (a0T l)):
 Calls Tryz.prog 31 #[v] w fun e w'=>e=.returned (.bool (e0A l))∧Below w.heap.size w w':=by
 obtain⟨a,c,rfl,h1,h2,h3⟩:=hv.openS;obtain⟨n,hn⟩:∃ n,l.length=n:=⟨_,rfl⟩;rw[hn]at h1 ⊢;have H3:=hid h3;have HN:=hid hn;obtain⟨B,hB12⟩:∃ B,decide (n≤12)=B:=⟨_,rfl⟩;have HB12:=hid hB12;have q12:decide ((n:Int)≤12)=B:=by rw[← hB12];rw[Bool.eq_iff_iff,decide_eq_true_iff,decide_eq_true_iff];omega
 clear hv h3 hn;go_enter Tryz.func31,Tryz.ntmps31;go_wp2_with fail
 go_loopw [3] (fun ii wr=>∃ i:Nat,ii=.int .i64 (i:Nat)∧i≤n∧Hid (∀ (j:Nat) (x:ByteArray),j<i→l[j]?=some x→x.size≤20)∧Hid (Below w.heap.size w wr)) (fun ii wr=>n-(intOf ii).toNat)
 case atStart=>exact⟨0,rfl,Nat.zero_le _,fun j x hj=>absurd hj (by omega),Below.refl _ _⟩
 case round=>
  obtain⟨i,rfl,hi,hI,hB⟩:=hrel;by_cases hlt:i<n
  ·obtain⟨x,hx⟩:∃ x,l[i]?=some x:=⟨_,List.getElem?_eq_getElem (by rw[HN.out];exact hlt)⟩;obtain⟨g,o,rfl,hg,k1⟩:=H3.out i x hx;have HX:=hid hx;have m1:=(hB.out.cell (p:=⟨g,o+i,none⟩) hg).trans k1;have b1:(0:Int)≤(i:Int):=by omega
   have b2:(i:Int)<(n:Int):=by omega
   have wi:IntKind.i64.wrap ((i:Int)+1)=(i:Int)+1:=by rw[IntWalk.i64_in _ ⟨by omega,by omega⟩]
   clear k1 hx hg hB12;by_cases hs:x.size≤20
   ·have q1:decide ((20:Int)<(x.size:Int))=false:=decide_eq_false (by omega);have HS:=hid hs;clear hs;go_wp2_with fail;go_roundw
    case rel=>exact⟨i+1,rfl,by omega,fun j y hj hy=>by
     rcases Nat.lt_or_ge j i with h | h
     ·exact hI.out j y h hy
     ·obtain rfl:j=i:=by omega
      rw[HX.out]at hy;cases hy
      exact HS.out,hB.out⟩
    case measure=>simp[intOf]<;>omega
   ·have q1:decide ((20:Int)<(x.size:Int))=true:=decide_eq_true (by omega);have HS:=hid hs;clear hs;go_wp2_with fail;go_ret
    refine⟨?_,hB.out⟩;unfold e0A;rw[q0p (List.mem_of_getElem? HX.out) (by exact decide_eq_false HS.out)];rfl
  ·obtain rfl:i=n:=by omega
   have q1:decide ((i:Int)<(i:Int))=false:=by simp
   clear hlt hB12;go_wp2_with fail;go_ret
   refine⟨?_,hB.out⟩;unfold e0A;rw[n0Y (fun j x hj hx=>by exact decide_eq_true (hI.out j x (by have:=HN.out;omega) hx)),HN.out,HB12.out];rfl
end Go.Proofs.YtlimaehdmcnjaaaGreatDoor
